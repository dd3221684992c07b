import Derived.Shelf.Abstract
import Derived.Shelf.RegionOpen
import Derived.WalkKit
import Derived.OwnWalkIn
import Derived.TacticsInMore
import Derived.LoopNIn
import Derived.LoopIn
import Derived.Maps.AppendAt
import Derived.Test.YtokijdgakphfiaaDoorChecked

/- The number of units of a text. The two tables of unicode/utf8 are as the program lays them. -/
import Derived.Test.YtokijdgakphfiaaDoorSl
namespace Go.Proofs.YtokijdgakphfiaaDoor
open Go.RowKit Go.Shelf

attribute [local go_sem] Oper.semAt_some

theorem count_bad (s : ByteArray) (w : World) (hs : s.size ≤ 100000) (hT : Tabs w) (hv : Lib.validD s.data.toList = false) :
    Calls Tryd.prog 13 #[.string s] w fun e w' => e = .returned (.tuple #[.int .i64 0, .int .i64 4]) ∧ Kept w w' := by
  have hc := valid_any s w hs hT
  rw [hv] at hc
  clear hv
  refine callsIn_wide (n := 4).1 (callsIn_of_wp_marks Tryd.func13 rfl trivial ?_ rfl)
  (simp only [Tryd.ntmps13, List.size_toArray, List.length_cons, List.length_nil, Nat.reduceAdd, Nat.reduceSub, Array.replicate_succ, Array.replicate_zero, List.push_toArray, List.append_toArray, List.nil_append, List.cons_append])
  gi_wp2_with (refine ⟨trivial, ?_⟩; gi_at_call 23; refine (callsIn_wide.2 hc).mono ?_; rintro e w1 ⟨rfl, hk⟩)
  exact ⟨.tuple #[.int .i64 0, .int .i64 4], by simp [results, Tryd.results13, go_sem], rfl, hk⟩
/-- blocks that a store into the box of a number keeps -/
theorem keepsX_int {Bx : Nat} {W : World} {t : TypeId} {k : IntKind} {a b : Int} (h : Boxed W Bx t (.int k a)) : KeepsX Bx W (W.setCell ⟨Bx, 0, none⟩ (.int k b)) := by
  refine KeepsX.of_grown (by rw [World.size_setCell]; exact Nat.le_refl _) (fun q _ hx => Below.heap_setCell _ _ _ q (fun e => hx (.inl e))) (fun q hq => .inl ?_)
  rcases hq with h1 | ⟨v, hv, ho⟩
  · exact .inl h1
  · rw [(h.set (.int k b)).cell] at hv
    cases hv; cases ho
theorem boxIn_int {Bx : Nat} {W : World} {t : TypeId} {k : IntKind} {a : Int} (h : Boxed W Bx t (.int k a)) : BoxIn Bx W := fun b hb => by
  rcases hb with h1 | ⟨v, hv, ho⟩
  · rw [h1]; exact h.lt
  · rw [h.cell] at hv
    cases hv; cases ho

set_option maxRecDepth 100000 in
set_option maxHeartbeats 2000000 in
theorem count_any (ls : List Nat) (w : World) (hls : ∀ c ∈ ls, okN c) (hs : (textB ls).size ≤ 100000) (hT : Tabs w) :
    Calls Tryd.prog 13 #[.string (textB ls)] w fun e w' => e = .returned (.tuple #[.int .i64 (lenU ls : Nat), .int .i64 0]) ∧ Kept w w' := by
  have hc := valid_yes hls w hs hT
  have hll := textL_le ls
  refine callsIn_wide (n := 4).1 (callsIn_of_wp_marks Tryd.func13 rfl trivial ?_ rfl)
  (simp only [Tryd.ntmps13, List.size_toArray, List.length_cons, List.length_nil, Nat.reduceAdd, Nat.reduceSub, Array.replicate_succ, Array.replicate_zero, List.push_toArray, List.append_toArray, List.nil_append, List.cons_append])
  gi_wp2_with (first | (refine ⟨trivial, ?_⟩; gi_at_call 23; refine (callsIn_wide.2 hc).mono ?_; rintro e w1 ⟨rfl, hk⟩) | (refine ⟨trivial, ?_⟩; gi_at_call 24; refine (callsIn_wide.2 (units_make _ _)).mono ?_; rintro e w2 ⟨rfl, rfl⟩))
  have bN := Boxed.new w1 3 (.int .i64 0)
  have bS := Boxed.new (w1.alloc (.cells #[.int .i64 0] 3)) 9 (.string (textB ls))
  rw [World.size_alloc] at bS
  have bN2 := bN.alloc (.cells #[.string (textB ls)] 9)
  have hB0 : Below w1.heap.size w1 ((w1.alloc (.cells #[.int .i64 0] 3)).alloc (.cells #[.string (textB ls)] 9)) := ((Below.refl _ w1).alloc (Nat.le_refl _) _).alloc (by simp) _
  have hlu : (unitsN ls).length ≤ 200000 := by
    have h1 := unitsN_len ls
    rw [Lib.size_eq, textB_list] at hs
    omega
  have Hs := hide hs
  clear hs hc
  generalize hse : textB ls = s at *
  have Hse := hide hse
  clear hse
  refine wpIn_rangeFunc_ownG rfl (by decide) (gf := 30) (lb := #[.pointer (some ⟨w1.heap.size + 1, 0, none⟩)]) rfl trivial (enters_of Tryd.func30 (by kernel_rfl) rfl)
    (units_stops 3 (by decide) ls hls (w1.heap.size + 1) w1.heap.size _ (by simp) (by rw [Hse.out]; exact bS.cell) (by simp; omega) (boxIn_int bN2)) (fun h k => h.trans k) (fun W l o o' hl h hc hw => KeepsX.putObj o' h hc hw (by simp at hl; omega)) (Below.refl _ _) (fun _ => rfl)
    (fun pre W => Boxed W w1.heap.size 3 (.int .i64 (pre.length : Nat)) ∧ Below w1.heap.size w1 W)
    (fun _ _ _ => False)
    (OwnFrom.and (Go.Own.from (boxed_own _ _ _) _) (ownFrom_below (Nat.le_refl _) (by simp; omega)))
    (fun _ _ _ _ _ hs _ _ => hs)
    ⟨bN2, hB0⟩
    (fun x => { tmps := #[.string s, undef, .int .i64 0, .int .i64 0, .pointer (some ⟨w1.heap.size, 0, none⟩), .string s, .bool true, .bool false, .string s, .func (.func 30) #[] #[.pointer (some ⟨w1.heap.size + 1, 0, none⟩)], .int .u16 ((x.1 : Nat) : Int), undef, undef, undef], defers := [] }) ?assign ?body ?done ?stop
  case assign =>
    intro l x W K hK
    unfold encU
    gi_wp2
    first | exact hK | (simpa using hK) | (with_unfolding_all exact hK)
  case body =>
    rintro l pre x W ⟨hv, hB⟩ hlt
    have hc := hv.cell
    have hf := hv.frozen
    have hlt2 := hv.lt
    have hp : (pre.length : Int) ≤ 200000 := by omega
    gi_wp2
    have hv2 : Boxed (W.setCell ⟨w1.heap.size, 0, none⟩ (.int .i64 ((pre.length : Int) + 1))) w1.heap.size 3 (.int .i64 ((pre ++ [x]).length : Nat)) := by
      rw [List.length_append]
      exact hv.set _
    exact ⟨(KeepsOthers.setCell _ _ _).from _, keepsX_int hv, hv2, hB.setCell (p := ⟨w1.heap.size, 0, none⟩) (Nat.le_refl _) _⟩
  case done =>
    rintro D ys W hD hys ⟨hv, hB⟩ hK
    have hc := hv.cell
    gi_wp2
    refine ⟨by simp, .inl ⟨_, _, rfl, run_takeDeferred hK, ?_⟩⟩
    have hlen : ys.length = lenU ls := by rw [← vals_len, hys]; rfl
    refine ⟨.tuple #[.int .i64 (ys.length : Nat), .int .i64 0], by simp [results, Tryd.results13, go_sem], by rw [hlen], ?_⟩
    exact hk.trans' (hB.trans (belowK_b (w := w1) (Nat.le_refl _) W D _ _ (by simp at hD; omega) hK rfl rfl))
  case stop =>
    rintro D c pre W _ _ h _
    exact h.elim
end Go.Proofs.YtokijdgakphfiaaDoor
