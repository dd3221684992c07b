import Derived.Shelf.Abstract
import Derived.Shelf.RegionOpen
import Derived.WalkKit
import Derived.OwnWalkIn
import Derived.TacticsInMore
import Derived.LoopNIn
import Derived.LoopIn
import Derived.Maps.AppendAt
import Derived.Test.YtokijdgakphfiaaDoorChecked

/- The units of a text as a slice (slices.Collect), and Encode. The two tables of unicode/utf8 are as the program lays them. -/
import Derived.Maps.OwnIn
import Derived.Test.YtokijdgakphfiaaDoorSm
namespace Go.Proofs.YtokijdgakphfiaaDoor
open Go.RowKit Go.Shelf

attribute [local go_sem] Oper.semAt_some

theorem keepsX_append {W w1 : World} {n₀ Bx : Nat} {t e : TypeId} {v v' : Value} {m : Nat} {ys : List Value} {tmp : Obj} (hv : Boxed W Bx t v) (hown' : w1.ownsRow n₀ e 1 v' m ys)
    (hgrow : (W.alloc tmp).grownBy w1 v.ownBlock) (hat : v'.ownBlock = v.ownBlock ∨ v'.ownBlock = some (W.alloc tmp).heap.size) (hv2 : Boxed (w1.setCell ⟨Bx, 0, none⟩ v') Bx t v') : KeepsX Bx W (w1.setCell ⟨Bx, 0, none⟩ v') := by
  have hs := hgrow.size
  simp only [World.size_alloc] at hs hat
  refine KeepsX.of_grown (by rw [World.size_setCell]; omega) (fun b hb hx => ?_) (fun b hb => ?_)
  · have h1 : b ≠ Bx := fun e => hx (.inl e)
    have h2 : some b ≠ v.ownBlock := fun e => hx (.inr ⟨v, hv.cell, e.symm⟩)
    rw [Below.heap_setCell w1 ⟨Bx, 0, none⟩ v' b h1, hgrow.block b (by simp; omega) h2, heap_alloc_old hb]
  · rcases hb with h1 | ⟨u, hu, ho⟩
    · exact .inl (.inl h1)
    · rw [hv2.cell] at hu
      cases hu
      rcases hat with h1 | h1
      · exact .inl (.inr ⟨v, hv.cell, by rw [← h1]; exact ho⟩)
      · rw [h1] at ho
        cases ho
        exact .inr ⟨by omega, by rw [World.size_setCell]; exact (hown'.lt _ h1).2⟩
theorem boxIn_nil {Bx : Nat} {W : World} {t : TypeId} (h : Boxed W Bx t (.slice none 0 0)) : BoxIn Bx W := fun b hb => by
  rcases hb with h1 | ⟨v, hv, ho⟩
  · rw [h1]; exact h.lt
  · rw [h.cell] at hv
    cases hv; cases ho
theorem u16C_snoc (l : List Nat) (x : Nat) : u16C (l ++ [x]) = u16C l ++ [.int .u16 (x : Int)] := by simp [u16C]
theorem own_of_row {w : World} {base n : Nat} {v : Value} {us : List Nat} (h : w.ownsRow base 40 1 v n (u16C us)) (hn : us.length = n) (hu : ∀ u ∈ us, u < 65536) : Own u16T 40 base w v n us :=
  ⟨hn, u16C us, h, fun i x hx => by
    refine ⟨?_, hu x (List.mem_of_getElem? hx)⟩
    obtain ⟨hi, e⟩ := List.getElem?_eq_some_iff.1 hx
    have hi2 : i < (u16C us).length := by simp [u16C]; exact hi
    simp only [u16T, Ty.flat, Nat.mul_one]
    rw [List.drop_eq_getElem_cons hi2]
    simp [u16C, e]⟩

set_option maxRecDepth 100000 in
set_option maxHeartbeats 2000000 in
theorem appseq_any (ls : List Nat) (Bs : Nat) (w : World) (hls : ∀ c ∈ ls, okN c) (hlu : (unitsN ls).length ≤ 200000) (hBs : Bs < w.heap.size) (hc : w.cell? ⟨Bs, 0, none⟩ = some (.string (textB ls))) :
    Calls Tryd.prog 31 #[.slice none 0 0, .func (.func 30) #[] #[.pointer (some ⟨Bs, 0, none⟩)]] w fun e w' => ∃ v, e = .returned v ∧ w'.ownsRow w.heap.size 40 1 v (unitsN ls).length (u16C (unitsN ls)) ∧ Kept w w' := by
  obtain ⟨i40, hi40, hz400, hz401, hz402⟩ := info_parts info40
  refine callsIn_wide (n := 4).1 (callsIn_of_wp_marks Tryd.func31 rfl trivial ?_ rfl)
  (simp only [Tryd.ntmps31, List.size_toArray, List.length_cons, List.length_nil, Nat.reduceAdd, Nat.reduceSub, Array.replicate_succ, Array.replicate_zero, List.push_toArray, List.append_toArray, List.nil_append, List.cons_append])
  gi_wp2
  have bN := Boxed.new w 24 (.slice none 0 0)
  have hB0 : Below w.heap.size w (w.alloc (.cells #[.slice none 0 0] 24)) := (Below.refl _ w).alloc (Nat.le_refl _) _
  have Hc2 := hide (show (w.alloc (.cells #[.slice none 0 0] 24)).cell? ⟨Bs, 0, none⟩ = some (.string (textB ls)) from (hB0.cell (p := ⟨Bs, 0, none⟩) hBs).trans hc)
  have Hlu := hide hlu
  clear hc hlu
  refine wpIn_rangeFunc_ownG rfl (by decide) (gf := 30) (lb := #[.pointer (some ⟨Bs, 0, none⟩)]) rfl trivial (enters_of Tryd.func30 (by kernel_rfl) rfl)
    (units_stops 3 (by decide) ls hls Bs w.heap.size _ (by simp; omega) Hc2.out (by simp) (boxIn_nil bN)) (fun h k => h.trans k) (fun W l o o' hl h hc hw => KeepsX.putObj o' h hc hw (by simp at hl; omega)) (Below.refl _ _) (fun _ => rfl)
    (fun pre W => (∃ v, Boxed W w.heap.size 24 v ∧ W.ownsRow w.heap.size 40 1 v (vals pre).length (u16C (vals pre)) ∧ True) ∧ Below w.heap.size w W)
    (fun _ _ _ => False)
    (OwnFrom.and (Go.Own.from (holdsRow_own w.heap.size w.heap.size 24 40 1 (fun pre => (vals pre).length) (fun pre => u16C (vals pre)) (fun _ _ => True)) _) (ownFrom_below (Nat.le_refl _) (by simp)))
    (fun _ _ _ _ _ hs _ _ => hs)
    ⟨⟨_, bN, World.ownsRow_nil _ _ _ _, trivial⟩, hB0⟩
    (fun x => { tmps := #[.slice none 0 0, .func (.func 30) #[] #[.pointer (some ⟨Bs, 0, none⟩)], .pointer (some ⟨w.heap.size, 0, none⟩), undef, .slice none 0 0, .int .u16 ((x.1 : Nat) : Int), .func (.func 30) #[] #[.pointer (some ⟨Bs, 0, none⟩)], .int .u16 ((x.1 : Nat) : Int), undef, undef, undef, undef, undef], defers := [] }) ?assign ?body ?done ?stop
  case assign =>
    intro l x W K hK
    unfold encU
    gi_wp2
    exact hK
  case body =>
    rintro l pre x W ⟨⟨v, hv, hrow, _⟩, hB⟩ hlt
    have hc := hv.cell
    have hf := hv.frozen
    have hp : pre.length < 200000 := by have := Hlu.out; omega
    have Hvl := hide (vals_len pre)
    have hvl2 : (vals pre).length < 200000 := by rw [vals_len]; exact hp
    have Hsn := hide (vals_snoc pre x)
    generalize vals pre = vp at *
    gi_wp2_with (gi_at_builtin; refine wpListIn_append_own_at _ rfl _ _ 24 rfl w.heap.size 40 i40 (.int .u16 0) 1 2 Tryd.underlying24 hi40 hz400 hz401 hz402 rfl (by decide) _ _ _ rfl (hrow.alloc _) ⟨W.heap.size, 0, none⟩ 1 1 [.int .u16 ((x.1 : Nat) : Int)] rfl rfl (cell_one_new _ _ _) (by simp [Value.oneCell']) (by unfold maxLen; omega) (by omega) (by have := hB.size; simp; omega) ?_; intro v' w1 hown' hgrow _ hat; obtain ⟨g', cap', rfl⟩ := ownsRow_succ hown'; obtain ⟨hv1, hv2, hr2, hk2, hb2⟩ := hv.appended (by decide) hrow hB.size (Nat.le_refl _) hown' hgrow; have hc1 := hv1.cell; have hf1 := hv1.frozen)
    refine ⟨hk2.from _, keepsX_append hv hown' hgrow hat hv2, ⟨_, hv2, ?_, trivial⟩, hB.trans hb2⟩
    rw [Hsn.out, u16C_snoc]
    simpa using hr2
  case done =>
    rintro D ys W hD hys ⟨⟨v, hv, hrow, _⟩, hB⟩ hK
    have hc := hv.cell
    rw [hys] at hrow
    gi_wp2
    refine ⟨by simp, .inl ⟨_, _, rfl, run_takeDeferred hK, ?_⟩⟩
    exact ⟨_, results_tmp rfl _ _ _, v, rfl, ownsRow_putObj hrow _ hK rfl, hB.trans (belowK_b (w := w) (Nat.le_refl _) W D _ _ (by simp at hD; omega) hK rfl rfl)⟩
  case stop =>
    rintro D c pre W _ _ h _
    exact h.elim
theorem collect_any (ls : List Nat) (Bs : Nat) (w : World) (hls : ∀ c ∈ ls, okN c) (hlu : (unitsN ls).length ≤ 200000) (hBs : Bs < w.heap.size) (hc : w.cell? ⟨Bs, 0, none⟩ = some (.string (textB ls))) :
    Calls Tryd.prog 26 #[.func (.func 30) #[] #[.pointer (some ⟨Bs, 0, none⟩)]] w fun e w' => ∃ v, e = .returned v ∧ w'.ownsRow w.heap.size 40 1 v (unitsN ls).length (u16C (unitsN ls)) ∧ Kept w w' := by
  have h := appseq_any ls Bs w hls hlu hBs hc
  clear hc
  go_enter Tryd.func26, Tryd.ntmps26
  go_wp2_with (go_at_call 31; refine h.mono ?_; rintro e w1 ⟨v, rfl, h1, h2⟩)
  go_ret
  exact ⟨v, rfl, h1, h2⟩
theorem enc_bad (s : ByteArray) (w : World) (hs : s.size ≤ 100000) (hT : Tabs w) (hv : Lib.validD s.data.toList = false) :
    Calls Tryd.prog 14 #[.string s] w fun e w' => e = .returned (.tuple #[.slice none 0 0, .int .i64 4]) ∧ Kept w w' := by
  have hc := count_bad s w hs hT hv
  clear hv
  go_enter Tryd.func14, Tryd.ntmps14
  go_wp2_with (go_at_call 13; refine hc.mono ?_; rintro e w1 ⟨rfl, hk⟩)
  refine bodyPost_ret (v := .tuple #[.slice none 0 0, .int .i64 4]) (by simp [results, Tryd.results14, go_sem]) rfl ?_
  exact ⟨rfl, hk⟩
theorem enc_long (ls : List Nat) (w : World) (hls : ∀ c ∈ ls, okN c) (hs : (textB ls).size ≤ 100000) (hT : Tabs w) (hm : 126 < lenU ls) :
    Calls Tryd.prog 14 #[.string (textB ls)] w fun e w' => e = .returned (.tuple #[.slice none 0 0, .int .i64 3]) ∧ Kept w w' := by
  have hc := count_any ls w hls hs hT
  generalize lenU ls = m at *
  have hm' : (126 : Int) < (m : Int) := by omega
  clear hm
  go_enter Tryd.func14, Tryd.ntmps14
  go_wp2_with (go_at_call 13; refine hc.mono ?_; rintro e w1 ⟨rfl, hk⟩)
  refine bodyPost_ret (v := .tuple #[.slice none 0 0, .int .i64 3]) (by simp [results, Tryd.results14, go_sem]) rfl ?_
  exact ⟨rfl, hk⟩
theorem enc_any (ls : List Nat) (w : World) (hls : ∀ c ∈ ls, okN c) (hs : (textB ls).size ≤ 100000) (hT : Tabs w) (hm : lenU ls ≤ 126) :
    Calls Tryd.prog 14 #[.string (textB ls)] w fun e w' => ∃ g, e = .returned (.tuple #[.slice (some ⟨g, 0, none⟩) (2 + 2 * lenU ls) (2 + 2 * lenU ls), .int .i64 0]) ∧ Fill w' g 5 (2 + 2 * lenU ls) (.int .u8 0) (u8C (toldL (unitsN ls))) ∧ w.heap.size ≤ g ∧ g < w'.heap.size ∧ Kept w w' := by
  have hc := count_any ls w hls hs hT
  have hlu := hide (show (unitsN ls).length = lenU ls from rfl)
  have hul : ∀ u ∈ unitsN ls, u < 65536 := fun u hu => by
    obtain ⟨c, hc, hu⟩ := List.mem_flatMap.1 hu
    exact splitN_lt (hls c hc) u hu
  have Hul := hide hul
  clear hul hs
  generalize hlm : lenU ls = m at *
  have hm' : (m : Int) ≤ 126 := by omega
  have Hm := hide hm
  have Hlm := hide hlm
  clear hm hlm
  go_enter Tryd.func14, Tryd.ntmps14
  go_wp2_with (first
    | (go_at_call 13; refine hc.mono ?_; rintro e w1 ⟨rfl, hk⟩)
    | (go_at_call 24; refine (units_make _ _).mono ?_; rintro e w2 ⟨rfl, rfl⟩)
    | (go_at_call 26; refine (collect_any ls w1.heap.size _ hls (by rw [hlu.out]; have := Hm.out; omega) (by simp) (by have h := (Boxed.new w1 9 (.string (textB ls))).cell; exact h)).mono ?_; rintro e w3 ⟨v3, rfl, hrow3, hk3⟩; obtain ⟨A3, c3, rfl, _, _⟩ := (own_of_row hrow3 rfl Hul.out).isSlice)
    | (go_at_call 25; refine (desc_any _ _ _ (unitsN ls) _ (by rw [hlu.out]; have := Hm.out; omega) (own_of_row hrow3 rfl Hul.out).sl).mono ?_; rintro e w4 ⟨g, rfl, hF, hg1, hg2, hk4⟩))
  refine bodyPost_ret (v := .tuple #[.slice (some ⟨g, 0, none⟩) (2 + 2 * m) (2 + 2 * m), .int .i64 0]) (by simp [results, Tryd.results14, go_sem, hlu.out]) rfl ?_
  rw [hlu.out] at hF
  have hk03 : Kept w w3 := hk.trans' (Below.trans ((Below.refl _ w1).alloc (Nat.le_refl _) _) (hk3.mono (by simp)))
  exact ⟨g, rfl, hF, Nat.le_trans hk03.size hg1, hg2, hk03.trans' hk4⟩
end Go.Proofs.YtokijdgakphfiaaDoor
