
import Derived.Shelf.Abstract
import Derived.Shelf.RegionOpen
import Derived.WalkKit
import Derived.OwnWalkIn
import Derived.TacticsInMore
import Derived.LoopNIn
import Derived.LoopIn
import Derived.Maps.AppendAt
import Derived.Maps.OwnIn
import Derived.RangeFuncFrom
import Derived.RangeFuncNested
import Derived.RangeFuncBound
import Derived.RangeFuncCalls
import Derived.RangeFuncBox
import Derived.Sort.MapsRangeIn
import Derived.Sort.KeysCollected
import Derived.Test.YtgkhenplbljbbaaChecked

/- slices.AppendSeq and slices.Collect over the keys of a registry's map. The map's block is a map; it has not too many keys. -/
import Derived.Test.YtgkhenplbljbbaaHi
set_option linter.unusedVariables false
set_option linter.unusedSimpArgs false
set_option linter.unusedSectionVars false
namespace Go.Proofs.Ytgkhenplbljbbaa
open Go.RowKit Go.Maps Go.Sort Go.Shelf

attribute [local go_sem] Oper.semAt_some

theorem info5 : (Try.prog.info? 5).map (fun i => (i.zero, i.size, i.bytes)) = some (some (.int .u8 0), 1, 1) := by kernel_rfl
/-- numbers of eight bits, as cells -/
def u8L (xs : List Int) : List Value := xs.map (fun x => .int .u8 x)
theorem u8L_snoc (l : List Int) (x : Int) : u8L (l ++ [x]) = u8L l ++ [.int .u8 x] := by simp [u8L]
theorem cell_one_u8 (w : World) (v : Value) : ∀ t, (w.alloc (.cells #[v] t)).cell? ⟨w.heap.size, 0, none⟩ = some v := fun t => cell_heap (heap_at _ rfl) rfl

set_option maxRecDepth 100000 in
set_option maxHeartbeats 2000000 in
theorem appseq54 (Bm b nn : Nat) (D0 : DataW Value) (w : World) (hN : Maps.size D0 ≤ 200000) (hBm : Bm < w.heap.size) (hm : w.cell? ⟨Bm, 0, none⟩ = some (.map (some b))) (hown : w.ownsMap Try.prog 5 anyR b nn D0) :
    Calls Try.prog 54 #[.slice none 0 0, .func (.func 52) #[] #[.pointer (some ⟨Bm, 0, none⟩)]] w fun e w' => ∃ v xs, e = .returned v ∧ (xs.Nodup ∧ ∀ x : Int, x ∈ xs ↔ Maps.has D0 (.int .u8 x) = true) ∧ w'.ownsRow w.heap.size 5 1 v xs.length (u8L xs) ∧ Kept w w' := by
  obtain ⟨i5, hi5, hz50, hz51, hz52⟩ := info_parts info5
  refine callsIn_wide (n := 4).1 (callsIn_of_wp_marks Try.func54 rfl trivial ?_ rfl)
  (simp only [Try.ntmps54, List.size_toArray, List.length_cons, List.length_nil, Nat.reduceAdd, Nat.reduceSub, Array.replicate_succ, Array.replicate_zero, List.push_toArray, List.append_toArray, List.nil_append, List.cons_append])
  gi_wp2
  have bN := Boxed.new w 26 (.slice none 0 0)
  have hB0 : Below w.heap.size w (w.alloc (.cells #[.slice none 0 0] 26)) := (Below.refl _ w).alloc (Nat.le_refl _) _
  have hown2 : (w.alloc (.cells #[.slice none 0 0] 26)).ownsMap Try.prog 5 anyR b nn D0 := by
    have hbl := hown.lt
    obtain ⟨es, clock, hb, Ft, hs, hD⟩ := hown
    exact ⟨es, clock, (Below.heap_alloc _ _ b hbl).trans hb, Ft, hs, hD⟩
  have hseq := keys52_stops Bm b nn D0 _ (by simp; omega) ((hB0.cell (p := ⟨Bm, 0, none⟩) hBm).trans hm) hown2
  have Hn := hide hN
  clear hm hown hown2 hN
  refine wpIn_rangeFunc_ownG rfl (by decide) (gf := 52) (lb := #[.pointer (some ⟨Bm, 0, none⟩)]) rfl trivial (enters_of Try.func52 (by kernel_rfl) rfl)
    hseq (fun h k => h.trans k) (fun W l o o' _ h _ hw => KeepsWalks.putObj _ h hw) (Below.refl _ _) (fun _ => rfl)
    (fun pre W => (∃ v, Boxed W w.heap.size 26 v ∧ W.ownsRow w.heap.size 5 1 v pre.length (u8L pre) ∧ True) ∧ Below w.heap.size w W)
    (fun _ _ _ => False)
    (OwnFrom.and (Go.Own.from (holdsRow_own w.heap.size w.heap.size 26 5 1 (fun pre : List Int => pre.length) (fun pre => u8L pre) (fun _ _ => True)) _) (ownFrom_below (Nat.le_refl _) (by simp)))
    (fun _ _ _ _ _ hs _ _ => hs)
    ⟨⟨_, bN, World.ownsRow_nil _ _ _ _, trivial⟩, hB0⟩
    (fun x => { tmps := #[.slice none 0 0, .func (.func 52) #[] #[.pointer (some ⟨Bm, 0, none⟩)], .pointer (some ⟨w.heap.size, 0, none⟩), undef, .slice none 0 0, .int .u8 x, .func (.func 52) #[] #[.pointer (some ⟨Bm, 0, none⟩)], .int .u8 x, undef, undef, undef, undef, undef], defers := [] }) ?assign ?body ?done ?stop
  case assign =>
    intro l x W K hK
    unfold encU
    gi_wp2
    exact hK
  case body =>
    rintro l pre x W ⟨⟨v, hv, hrow, _⟩, hB⟩ hlt
    have hc := hv.cell
    have hf := hv.frozen
    have hp : pre.length < 200000 := by have := Hn.out; omega
    clear hlt
    gi_wp2_with (gi_at_builtin; refine wpListIn_append_own_at _ rfl _ _ 26 rfl w.heap.size 5 i5 (.int .u8 0) 1 1 Try.underlying26 hi5 hz50 hz51 hz52 rfl (by decide) _ _ _ rfl (hrow.alloc _) ⟨W.heap.size, 0, none⟩ 1 1 [.int .u8 x] rfl rfl (cell_one_new _ _ _) (by simp [Value.oneCell']) (by unfold maxLen; omega) (by omega) (by have := hB.size; simp; omega) ?_; intro v' w1 hown' hgrow _ hat; obtain ⟨g', cap', rfl⟩ := ownsRow_succ hown'; obtain ⟨hv1, hv2, hr2, hk2, hb2⟩ := hv.appended (by decide) hrow hB.size (Nat.le_refl _) hown' hgrow; have hc1 := hv1.cell; have hf1 := hv1.frozen)
    refine ⟨hk2.from _, hk2.walks, ⟨_, hv2, ?_, trivial⟩, hB.trans hb2⟩
    rw [u8L_snoc, List.length_append]
    exact hr2
  case done =>
    rintro D ys W hD hys ⟨⟨v, hv, hrow, _⟩, hB⟩ hK
    have hc := hv.cell
    gi_wp2
    refine ⟨by simp, .inl ⟨_, _, rfl, run_takeDeferred hK, ?_⟩⟩
    exact ⟨_, results_tmp rfl _ _ _, v, ys, rfl, hys, ownsRow_putObj hrow _ hK rfl, hB.trans (belowK_b (w := w) (Nat.le_refl _) W D _ _ (by simp at hD; omega) hK rfl rfl)⟩
  case stop =>
    rintro D c pre W _ _ h _
    exact h.elim
theorem collect50 (Bm b nn : Nat) (D0 : DataW Value) (w : World) (hN : Maps.size D0 ≤ 200000) (hBm : Bm < w.heap.size) (hm : w.cell? ⟨Bm, 0, none⟩ = some (.map (some b))) (hown : w.ownsMap Try.prog 5 anyR b nn D0) :
    Calls Try.prog 50 #[.func (.func 52) #[] #[.pointer (some ⟨Bm, 0, none⟩)]] w fun e w' => ∃ v xs, e = .returned v ∧ (xs.Nodup ∧ ∀ x : Int, x ∈ xs ↔ Maps.has D0 (.int .u8 x) = true) ∧ w'.ownsRow w.heap.size 5 1 v xs.length (u8L xs) ∧ Kept w w' := by
  have h := appseq54 Bm b nn D0 w hN hBm hm hown
  clear hm hown
  go_enter Try.func50, Try.ntmps50
  go_wp2_with (go_at_call 54; refine h.mono ?_; rintro e w1 ⟨v, xs, rfl, h0, h1, h2⟩)
  go_ret
  exact ⟨v, xs, rfl, h0, h1, h2⟩
end Go.Proofs.Ytgkhenplbljbbaa
