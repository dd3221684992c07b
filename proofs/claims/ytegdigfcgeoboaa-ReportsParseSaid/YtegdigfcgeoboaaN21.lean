/- The definition's field, its beginning. -/
import Derived.Test.YtegdigfcgeoboaaChecked
import Derived.Deep.RegionHeld3
import Derived.Deep.DrawnRows
import Derived.Deep.DeepCutAuto
import Derived.Deep.LoopGhost
import Derived.Outline
import Derived.Handy
import Derived.OwnWalk
import Derived.Test.YtegdigfcgeoboaaN2
import Derived.Test.YtegdigfcgeoboaaN19
import Derived.Test.YtegdigfcgeoboaaN20
import Derived.Test.YtegdigfcgeoboaaIeK
import Derived.Test.YtegdigfcgeoboaaN8
set_option linter.unusedVariables false
set_option linter.unusedSimpArgs false
set_option linter.unusedSectionVars false
/- The definition's field: its kind. Printed by gen_m.py. -/
namespace Go.Proofs.Ytegdigfcgeoboaa
open Go.RowKit Go.Maps
attribute [local go_sem ↓] Go.wp_at_zero Go.wp_at_succ

set_option maxRecDepth 1000000 in
set_option maxHeartbeats 8000000 in
theorem fld_88 {Q : Exit → Act → World → Prop} {W W1 : World} {base n c R M S X F cap : Nat} {A A' : Option Addr} {vs vu vf vc : Value} {s : RS} {i : Int} {x : It} {a : Act} {b1 b2 b4 : Bool} (k : Int) (hk : (x.tg = 8 ∧ k = 1) ∨ (x.tg = 9 ∧ k = 2) ∨ (x.tg = 11 ∧ k = 3)) (ha : LiveF a A n c R M S X F vs vu s i x) (h : Sit W base R M S X vs vu vf vc s x) (hB : Bxd W W1 F A' cap s b1 b2 b4 1 0 0 0) (hs : s.Fine) (hw : x.wide = true) (hok : x.ok)
    (hfl : Flags x b1 b2 b4) (heff : effS s x = fieldS s k x) (ho : ¬ s.opn < 0)
    (hN : OkN Q W base A n c R M S X s i x) (hE : OkE Q W R s x) (hP : ∀ c a d v w, Q (.panic c) (a.put d v) w → Q (.panic c) a w) (K K2 : Act → World → Prop) (hK : ∀ a w', Code.wp Try.prog (restC (headC code88)) (Exit.then K2 Q) a w' → K a w') (hK2 : ∀ a w', Code.wp Try.prog (restC code88) Q a w' → K2 a w') : Code.wp Try.prog (headC (headC code88)) (Exit.then K (Exit.then K2 Q)) a W1 := by
  obtain ⟨us, rfl⟩ := ha
  conv => arg 2; whnf
  conv at hK => enter [a, w', 1, 2]; whnf
  conv at hK2 => enter [a, w', 1, 2]; whnf
  dsimp only
  have h' := h.kept hB.kept
  have hMl := heap_lt h'.md.bm
  have hSl := heap_lt h'.md.bs
  have hXl := heap_lt h'.bx
  have hRl := heap_lt h'.br
  have hFl := heap_lt hB.box
  have hMS := h.md.low.2.2
  obtain ⟨l1, l2, l3⟩ := h.low
  have hBn : R < W.heap.size := by have := h.hb; omega
  have t1 : W1.cell? ⟨X, 1, none⟩ = some (.int .u8 x.tg) := cell_heap h'.bx (o := 1) rfl
  have y0 : W1.cell? ⟨F, 0, none⟩ = some (.int .u8 1) := cell_heap hB.box (o := 0) rfl
  have fr0 := frozen_heap hB.box (o := 0)
  have hXF : ¬ X = F := by have := heap_lt h.bx; have := hB.new; omega
  rcases hk with ⟨h1, rfl⟩ | ⟨h1, rfl⟩ | ⟨h1, rfl⟩
  · have d1 : (x.tg == 9) = false := by rw [h1]; rfl
    have d2 : (x.tg == 11) = false := by rw [h1]; rfl
    have d3 : decide (x.tg = 9) = false := by rw [h1]; rfl
    have d4 : decide (x.tg = 11) = false := by rw [h1]; rfl
    go_upto_region 92 with (fail)
    refine fld_92 _ (frame_f rfl rfl rfl rfl rfl rfl rfl rfl rfl rfl rfl rfl rfl rfl) h (hB) hs hw hok hfl heff ho hN hE hP _ _ ?_ ?_
    all_goals assumption
  · have d1 : (x.tg == 9) = true := by rw [h1]; rfl
    have d2 : (x.tg == 11) = false := by rw [h1]; rfl
    have d3 : decide (x.tg = 9) = true := by rw [h1]; rfl
    have d4 : decide (x.tg = 11) = false := by rw [h1]; rfl
    go_upto_region 92 with (fail)
    refine fld_92 _ (frame_f rfl rfl rfl rfl rfl rfl rfl rfl rfl rfl rfl rfl rfl rfl) h (hB.set 0 _ rfl) hs hw hok hfl heff ho hN hE hP _ _ ?_ ?_
    all_goals assumption
  · have d1 : (x.tg == 9) = false := by rw [h1]; rfl
    have d2 : (x.tg == 11) = true := by rw [h1]; rfl
    have d3 : decide (x.tg = 9) = false := by rw [h1]; rfl
    have d4 : decide (x.tg = 11) = true := by rw [h1]; rfl
    go_upto_region 92 with (fail)
    refine fld_92 _ (frame_f rfl rfl rfl rfl rfl rfl rfl rfl rfl rfl rfl rfl rfl rfl) h (hB.set 0 _ rfl) hs hw hok hfl heff ho hN hE hP _ _ ?_ ?_
    all_goals assumption
end Go.Proofs.Ytegdigfcgeoboaa
/- The definition's field: its first region. Printed by gen_m.py. -/
namespace Go.Proofs.Ytegdigfcgeoboaa
open Go.RowKit Go.Maps
attribute [local go_sem ↓] Go.wp_at_zero Go.wp_at_succ

theorem by_one27 : ∀ {W0 : World} {F0 : Nat → Prop} (x : Int) (cs : List Value), u32T.rel W0 F0 x cs → ∀ u ∈ cs, u.oneCell' = true := by
  rintro _ _ x cs ⟨rfl, _⟩ u hu
  simp at hu
  subst hu
  rfl
theorem kept_drew_alloc' (W : World) (o : Obj) : Kept W (W.drew.alloc o) := by
  have h : Kept W (W.alloc o) := (Below.refl _ _).alloc (Nat.le_refl _) o
  exact ⟨h.os, h.tape, h.output, h.size, h.block⟩
theorem Own.row59 {w : World} {base n : Nat} {v : Value} {xs : List Int} (h : Own u32T 27 base w v n xs) {g : Nat} {cs : Array Value} (hb : w.heap[g]? = some (.cells cs 59 (0, 0))) (cs' : Array Value) : Own u32T 27 base (w.setRow g cs') v n xs := by
  have hg : w.grownBy (w.setRow g cs') (some g) := ⟨rfl, rfl, rfl, by rw [size_setRow]; exact Nat.le_refl _, fun k hk hne => by
    show (w.heap.modify g _)[k]? = _
    rw [Array.getElem?_modify, if_neg (fun e => hne (by rw [e]))]⟩
  exact h.grownF flat_u32 hg (.inr (own_not59 h hb (by decide)))
noncomputable def opsG : Array Oper := opsOf (headC code87)
set_option maxRecDepth 1000000 in
set_option maxHeartbeats 8000000 in
theorem fld_87 {Q : Exit → Act → World → Prop} {W : World} {base n c R M S X : Nat} {A : Option Addr} {vs vu vf vc : Value} {s : RS} {i : Int} {x : It} {a : Act} {cc : Int} (k : Int) (hkt : (x.tg = 8 ∧ k = 1) ∨ (x.tg = 9 ∧ k = 2) ∨ (x.tg = 11 ∧ k = 3)) (ha : Live a A n c R M S X vs vu s s i x cc) (h : Sit W base R M S X vs vu vf vc s x)
    (hs : s.Fine) (hw : x.wide = true) (hok : x.ok) (heff : effS s x = fieldS s k x) (ho : ¬ s.opn < 0) (hN : OkN Q W base A n c R M S X s i x) (hE : OkE Q W R s x) (hP : ∀ c a d v w, Q (.panic c) (a.put d v) w → Q (.panic c) a w) (K : Act → World → Prop) (hK : ∀ a w', Code.wp Try.prog (restC code87) Q a w' → K a w') : Code.wp Try.prog (headC code87) (Exit.then K Q) a W := by
  obtain ⟨us, rfl⟩ := ha
  conv => arg 2; whnf
  conv at hK => enter [a, w', 1, 2]; whnf
  dsimp only
  obtain ⟨d0, d1, d2⟩ := data_lt hw hok
  have hSl := heap_lt h.md.bs
  have hrr : IntKind.u8.wrap s.g.report = s.g.report := by rw [IntKind.wrap_u8]; have := hs.report; omega
  have q1 : x.data.tmod 2 = x.data % 2 := Int.tmod_eq_emod_of_nonneg d0
  have q2 : x.data.tdiv 2 = x.data / 2 := Int.tdiv_eq_ediv_of_nonneg d0
  have q4 : x.data.tdiv 4 = x.data / 4 := Int.tdiv_eq_ediv_of_nonneg d0
  have q3 : (x.data / 2).tmod 2 = x.data / 2 % 2 := Int.tmod_eq_emod_of_nonneg (by omega)
  have q5 : (x.data / 4).tmod 2 = x.data / 4 % 2 := Int.tmod_eq_emod_of_nonneg (by omega)
  have wq1 : IntKind.i64.wrap (x.data % 2) = x.data % 2 := by rw [IntKind.wrap_i64]; omega
  have wq2 : IntKind.i64.wrap (x.data / 2) = x.data / 2 := by rw [IntKind.wrap_i64]; omega
  have wq3 : IntKind.i64.wrap (x.data / 2 % 2) = x.data / 2 % 2 := by rw [IntKind.wrap_i64]; omega
  have wq4 : IntKind.i64.wrap (x.data / 4) = x.data / 4 := by rw [IntKind.wrap_i64]; omega
  have wq5 : IntKind.i64.wrap (x.data / 4 % 2) = x.data / 4 % 2 := by rw [IntKind.wrap_i64]; omega
  obtain ⟨b1, hb1⟩ : ∃ b, (x.data % 2 == 1) = b := ⟨_, rfl⟩
  obtain ⟨b2, hb2⟩ : ∃ b, (x.data / 2 % 2 == 0) = b := ⟨_, rfl⟩
  obtain ⟨b4, hb4⟩ : ∃ b, (x.data / 4 % 2 == 1) = b := ⟨_, rfl⟩
  have hul := hs.usages.1
  obtain ⟨A7, c7, rfl, hB1, hB2⟩ := h.md.us.isSlice
  have HM := hide h.md.us
  have p1 : W.cell? ⟨S, 1, none⟩ = some (.int .i64 s.g.lo) := cell_heap h.md.bs (o := 1) rfl
  have p2 : W.cell? ⟨S, 2, none⟩ = some (.int .i64 s.g.hi) := cell_heap h.md.bs (o := 2) rfl
  have p5 : W.cell? ⟨S, 5, none⟩ = some (.int .i64 s.g.report) := cell_heap h.md.bs (o := 5) rfl
  refine wp_region_held_named (ops' := opsG) (n := 27) (S := fun w' => (∀ b o, b < W.heap.size → w'.cell? ⟨b, o, none⟩ = W.cell? ⟨b, o, none⟩) ∧ Kept W w') (by kernel_rfl) (by kernel_rfl) (by kernel_rfl) ⟨fun _ _ _ => rfl, (Below.refl _ _).drew⟩ (fun hS => ?_)
  have ho : opsG[0]? = some (opAt opsG 0) := by kernel_rfl
  conv at ho => rhs; arg 1; whnf
  refine wpAnyH_take (i := 0) (v := ?_) ho (by kernel_rfl) (by kernel_rfl) (by kernel_rfl) (fun c a w h => hP c a _ _ w h) (Or.inl ⟨by kernel_rfl, ?_⟩) hS ?_
  clear ho
  rotate_left
  · intro w' hS'
    have hq := hS'.1
    have hq2 := hS'.2
    clear hS'
    first | (go_simp; done) | (go_simp; with_reducible rfl)
  try clear ho
  try simp only [Act.put, List.getElem_toArray, List.getElem_cons_zero, List.getElem_cons_succ, List.setIfInBounds_toArray, List.set_cons_zero, List.set_cons_succ]
  have ho : opsG[1]? = some (opAt opsG 1) := by kernel_rfl
  conv at ho => rhs; arg 1; whnf
  refine wpAnyH_take (i := 1) (v := ?_) ho (by kernel_rfl) (by kernel_rfl) (by kernel_rfl) (fun c a w h => hP c a _ _ w h) (Or.inl ⟨by kernel_rfl, ?_⟩) hS ?_
  clear ho
  rotate_left
  · intro w' hS'
    have hq := hS'.1
    have hq2 := hS'.2
    clear hS'
    first | (go_simp; done) | (go_simp; with_reducible rfl)
  try clear ho
  try simp only [Act.put, List.getElem_toArray, List.getElem_cons_zero, List.getElem_cons_succ, List.setIfInBounds_toArray, List.set_cons_zero, List.set_cons_succ]
  have ho : opsG[2]? = some (opAt opsG 2) := by kernel_rfl
  conv at ho => rhs; arg 1; whnf
  refine wpAnyH_take (i := 2) (v := ?_) ho (by kernel_rfl) (by kernel_rfl) (by kernel_rfl) (fun c a w h => hP c a _ _ w h) (Or.inl ⟨by kernel_rfl, ?_⟩) hS ?_
  clear ho
  rotate_left
  · intro w' hS'
    have hq := hS'.1
    have hq2 := hS'.2
    clear hS'
    first | (go_simp; done) | (go_simp; with_reducible rfl)
  try clear ho
  try simp only [Act.put, List.getElem_toArray, List.getElem_cons_zero, List.getElem_cons_succ, List.setIfInBounds_toArray, List.set_cons_zero, List.set_cons_succ]
  have ho : opsG[3]? = some (opAt opsG 3) := by kernel_rfl
  conv at ho => rhs; arg 1; whnf
  refine wpAnyH_take (i := 3) (v := ?_) ho (by kernel_rfl) (by kernel_rfl) (by kernel_rfl) (fun c a w h => hP c a _ _ w h) (Or.inl ⟨by kernel_rfl, ?_⟩) hS ?_
  clear ho
  rotate_left
  · intro w' hS'
    have hq := hS'.1
    have hq2 := hS'.2
    clear hS'
    first | (go_simp; done) | (go_simp; with_reducible rfl)
  try clear ho
  try simp only [Act.put, List.getElem_toArray, List.getElem_cons_zero, List.getElem_cons_succ, List.setIfInBounds_toArray, List.set_cons_zero, List.set_cons_succ]
  have ho : opsG[4]? = some (opAt opsG 4) := by kernel_rfl
  conv at ho => rhs; arg 1; whnf
  refine wpAnyH_take (i := 4) (v := ?_) ho (by kernel_rfl) (by kernel_rfl) (by kernel_rfl) (fun c a w h => hP c a _ _ w h) (Or.inl ⟨by kernel_rfl, ?_⟩) hS ?_
  clear ho
  rotate_left
  · intro w' hS'
    have hq := hS'.1
    have hq2 := hS'.2
    clear hS'
    first | (go_simp; done) | (go_simp; with_reducible rfl)
  try clear ho
  try simp only [Act.put, List.getElem_toArray, List.getElem_cons_zero, List.getElem_cons_succ, List.setIfInBounds_toArray, List.set_cons_zero, List.set_cons_succ]
  have ho : opsG[6]? = some (opAt opsG 6) := by kernel_rfl
  conv at ho => rhs; arg 1; whnf
  refine wpAnyH_take (i := 6) (v := ?_) ho (by kernel_rfl) (by kernel_rfl) (by kernel_rfl) (fun c a w h => hP c a _ _ w h) (Or.inl ⟨by kernel_rfl, ?_⟩) hS ?_
  clear ho
  rotate_left
  · intro w' hS'
    have hq := hS'.1
    have hq2 := hS'.2
    clear hS'
    first | (go_simp; done) | (go_simp; with_reducible rfl)
  try clear ho
  try simp only [Act.put, List.getElem_toArray, List.getElem_cons_zero, List.getElem_cons_succ, List.setIfInBounds_toArray, List.set_cons_zero, List.set_cons_succ]
  have ho : opsG[7]? = some (opAt opsG 7) := by kernel_rfl
  conv at ho => rhs; arg 1; whnf
  refine wpAnyH_take (i := 7) (v := ?_) ho (by kernel_rfl) (by kernel_rfl) (by kernel_rfl) (fun c a w h => hP c a _ _ w h) (Or.inl ⟨by kernel_rfl, ?_⟩) hS ?_
  clear ho
  rotate_left
  · intro w' hS'
    have hq := hS'.1
    have hq2 := hS'.2
    clear hS'
    first | (go_simp; done) | (go_simp; with_reducible rfl)
  try clear ho
  try simp only [Act.put, List.getElem_toArray, List.getElem_cons_zero, List.getElem_cons_succ, List.setIfInBounds_toArray, List.set_cons_zero, List.set_cons_succ]
  have ho : opsG[8]? = some (opAt opsG 8) := by kernel_rfl
  conv at ho => rhs; arg 1; whnf
  refine wpAnyH_take (i := 8) (v := ?_) ho (by kernel_rfl) (by kernel_rfl) (by kernel_rfl) (fun c a w h => hP c a _ _ w h) (Or.inl ⟨by kernel_rfl, ?_⟩) hS ?_
  clear ho
  rotate_left
  · intro w' hS'
    have hq := hS'.1
    have hq2 := hS'.2
    clear hS'
    first | (go_simp; done) | (go_simp; with_reducible rfl)
  try clear ho
  try simp only [Act.put, List.getElem_toArray, List.getElem_cons_zero, List.getElem_cons_succ, List.setIfInBounds_toArray, List.set_cons_zero, List.set_cons_succ]
  have ho : opsG[9]? = some (opAt opsG 9) := by kernel_rfl
  conv at ho => rhs; arg 1; whnf
  refine wpAnyH_take (i := 9) (v := ?_) ho (by kernel_rfl) (by kernel_rfl) (by kernel_rfl) (fun c a w h => hP c a _ _ w h) (Or.inl ⟨by kernel_rfl, ?_⟩) hS ?_
  clear ho
  rotate_left
  · intro w' hS'
    have hq := hS'.1
    have hq2 := hS'.2
    clear hS'
    first | (go_simp; done) | (go_simp; with_reducible rfl)
  try clear ho
  try simp only [Act.put, List.getElem_toArray, List.getElem_cons_zero, List.getElem_cons_succ, List.setIfInBounds_toArray, List.set_cons_zero, List.set_cons_succ]
  have ho : opsG[10]? = some (opAt opsG 10) := by kernel_rfl
  conv at ho => rhs; arg 1; whnf
  refine wpAnyH_take (i := 10) (v := ?_) ho (by kernel_rfl) (by kernel_rfl) (by kernel_rfl) (fun c a w h => hP c a _ _ w h) (Or.inl ⟨by kernel_rfl, ?_⟩) hS ?_
  clear ho
  rotate_left
  · intro w' hS'
    have hq := hS'.1
    have hq2 := hS'.2
    clear hS'
    first | (go_simp; done) | (go_simp; with_reducible rfl)
  try clear ho
  try simp only [Act.put, List.getElem_toArray, List.getElem_cons_zero, List.getElem_cons_succ, List.setIfInBounds_toArray, List.set_cons_zero, List.set_cons_succ]
  have ho : opsG[11]? = some (opAt opsG 11) := by kernel_rfl
  conv at ho => rhs; arg 1; whnf
  refine wpAnyH_take (i := 11) (v := ?_) ho (by kernel_rfl) (by kernel_rfl) (by kernel_rfl) (fun c a w h => hP c a _ _ w h) (Or.inl ⟨by kernel_rfl, ?_⟩) hS ?_
  clear ho
  rotate_left
  · intro w' hS'
    have hq := hS'.1
    have hq2 := hS'.2
    clear hS'
    first | (go_simp; done) | (go_simp; with_reducible rfl)
  try clear ho
  try simp only [Act.put, List.getElem_toArray, List.getElem_cons_zero, List.getElem_cons_succ, List.setIfInBounds_toArray, List.set_cons_zero, List.set_cons_succ]
  have ho : opsG[12]? = some (opAt opsG 12) := by kernel_rfl
  conv at ho => rhs; arg 1; whnf
  refine wpAnyH_take (i := 12) (v := ?_) ho (by kernel_rfl) (by kernel_rfl) (by kernel_rfl) (fun c a w h => hP c a _ _ w h) (Or.inl ⟨by kernel_rfl, ?_⟩) hS ?_
  clear ho
  rotate_left
  · intro w' hS'
    have hq := hS'.1
    have hq2 := hS'.2
    clear hS'
    first | (go_simp; done) | (go_simp; with_reducible rfl)
  try clear ho
  try simp only [Act.put, List.getElem_toArray, List.getElem_cons_zero, List.getElem_cons_succ, List.setIfInBounds_toArray, List.set_cons_zero, List.set_cons_succ]
  have ho : opsG[13]? = some (opAt opsG 13) := by kernel_rfl
  conv at ho => rhs; arg 1; whnf
  refine wpAnyH_take (i := 13) (v := ?_) ho (by kernel_rfl) (by kernel_rfl) (by kernel_rfl) (fun c a w h => hP c a _ _ w h) (Or.inl ⟨by kernel_rfl, ?_⟩) hS ?_
  clear ho
  rotate_left
  · intro w' hS'
    have hq := hS'.1
    have hq2 := hS'.2
    clear hS'
    first | (go_simp; done) | (go_simp; with_reducible rfl)
  try clear ho
  try simp only [Act.put, List.getElem_toArray, List.getElem_cons_zero, List.getElem_cons_succ, List.setIfInBounds_toArray, List.set_cons_zero, List.set_cons_succ]
  have ho : opsG[14]? = some (opAt opsG 14) := by kernel_rfl
  conv at ho => rhs; arg 1; whnf
  refine wpAnyH_take (i := 14) (v := ?_) ho (by kernel_rfl) (by kernel_rfl) (by kernel_rfl) (fun c a w h => hP c a _ _ w h) (Or.inl ⟨by kernel_rfl, ?_⟩) hS ?_
  clear ho
  rotate_left
  · intro w' hS'
    have hq := hS'.1
    have hq2 := hS'.2
    clear hS'
    first | (go_simp; done) | (go_simp; with_reducible rfl)
  try clear ho
  try simp only [Act.put, List.getElem_toArray, List.getElem_cons_zero, List.getElem_cons_succ, List.setIfInBounds_toArray, List.set_cons_zero, List.set_cons_succ]
  have ho : opsG[15]? = some (opAt opsG 15) := by kernel_rfl
  conv at ho => rhs; arg 1; whnf
  refine wpAnyH_take (i := 15) (v := ?_) ho (by kernel_rfl) (by kernel_rfl) (by kernel_rfl) (fun c a w h => hP c a _ _ w h) (Or.inl ⟨by kernel_rfl, ?_⟩) hS ?_
  clear ho
  rotate_left
  · intro w' hS'
    have hq := hS'.1
    have hq2 := hS'.2
    clear hS'
    first | (go_simp; done) | (go_simp; with_reducible rfl)
  try clear ho
  try simp only [Act.put, List.getElem_toArray, List.getElem_cons_zero, List.getElem_cons_succ, List.setIfInBounds_toArray, List.set_cons_zero, List.set_cons_succ]
  have ho : opsG[16]? = some (opAt opsG 16) := by kernel_rfl
  conv at ho => rhs; arg 1; whnf
  refine wpAnyH_take (i := 16) (v := ?_) ho (by kernel_rfl) (by kernel_rfl) (by kernel_rfl) (fun c a w h => hP c a _ _ w h) (Or.inl ⟨by kernel_rfl, ?_⟩) hS ?_
  clear ho
  rotate_left
  · intro w' hS'
    have hq := hS'.1
    have hq2 := hS'.2
    clear hS'
    first | (go_simp; done) | (go_simp; with_reducible rfl)
  try clear ho
  try simp only [Act.put, List.getElem_toArray, List.getElem_cons_zero, List.getElem_cons_succ, List.setIfInBounds_toArray, List.set_cons_zero, List.set_cons_succ]
  have ho : opsG[17]? = some (opAt opsG 17) := by kernel_rfl
  conv at ho => rhs; arg 1; whnf
  refine wpAnyH_take (i := 17) (v := ?_) ho (by kernel_rfl) (by kernel_rfl) (by kernel_rfl) (fun c a w h => hP c a _ _ w h) (Or.inl ⟨by kernel_rfl, ?_⟩) hS ?_
  clear ho
  rotate_left
  · intro w' hS'
    have hq := hS'.1
    have hq2 := hS'.2
    clear hS'
    first | (go_simp; done) | (go_simp; with_reducible rfl)
  try clear ho
  try simp only [Act.put, List.getElem_toArray, List.getElem_cons_zero, List.getElem_cons_succ, List.setIfInBounds_toArray, List.set_cons_zero, List.set_cons_succ]
  have ho : opsG[18]? = some (opAt opsG 18) := by kernel_rfl
  conv at ho => rhs; arg 1; whnf
  refine wpAnyH_take (i := 18) (v := ?_) ho (by kernel_rfl) (by kernel_rfl) (by kernel_rfl) (fun c a w h => hP c a _ _ w h) (Or.inl ⟨by kernel_rfl, ?_⟩) hS ?_
  clear ho
  rotate_left
  · intro w' hS'
    have hq := hS'.1
    have hq2 := hS'.2
    clear hS'
    first | (go_simp; done) | (go_simp; with_reducible rfl)
  try clear ho
  try simp only [Act.put, List.getElem_toArray, List.getElem_cons_zero, List.getElem_cons_succ, List.setIfInBounds_toArray, List.set_cons_zero, List.set_cons_succ]
  have ho : opsG[19]? = some (opAt opsG 19) := by kernel_rfl
  conv at ho => rhs; arg 1; whnf
  refine wpAnyH_take (i := 19) (v := ?_) ho (by kernel_rfl) (by kernel_rfl) (by kernel_rfl) (fun c a w h => hP c a _ _ w h) (Or.inl ⟨by kernel_rfl, ?_⟩) hS ?_
  clear ho
  rotate_left
  · intro w' hS'
    have hq := hS'.1
    have hq2 := hS'.2
    clear hS'
    first | (go_simp; done) | (go_simp; with_reducible rfl)
  try clear ho
  try simp only [Act.put, List.getElem_toArray, List.getElem_cons_zero, List.getElem_cons_succ, List.setIfInBounds_toArray, List.set_cons_zero, List.set_cons_succ]
  have ho : opsG[20]? = some (opAt opsG 20) := by kernel_rfl
  conv at ho => rhs; arg 1; whnf
  refine wpAnyH_take (i := 20) (v := ?_) ho (by kernel_rfl) (by kernel_rfl) (by kernel_rfl) (fun c a w h => hP c a _ _ w h) (Or.inl ⟨by kernel_rfl, ?_⟩) hS ?_
  clear ho
  rotate_left
  · intro w' hS'
    have hq := hS'.1
    have hq2 := hS'.2
    clear hS'
    first | (go_simp; done) | (go_simp; with_reducible rfl)
  try clear ho
  try simp only [Act.put, List.getElem_toArray, List.getElem_cons_zero, List.getElem_cons_succ, List.setIfInBounds_toArray, List.set_cons_zero, List.set_cons_succ]
  have ho : opsG[21]? = some (opAt opsG 21) := by kernel_rfl
  conv at ho => rhs; arg 1; whnf
  refine wpAnyH_take (i := 21) (v := ?_) ho (by kernel_rfl) (by kernel_rfl) (by kernel_rfl) (fun c a w h => hP c a _ _ w h) (Or.inl ⟨by kernel_rfl, ?_⟩) hS ?_
  clear ho
  rotate_left
  · intro w' hS'
    have hq := hS'.1
    have hq2 := hS'.2
    clear hS'
    first | (go_simp; done) | (go_simp; with_reducible rfl)
  try clear ho
  try simp only [Act.put, List.getElem_toArray, List.getElem_cons_zero, List.getElem_cons_succ, List.setIfInBounds_toArray, List.set_cons_zero, List.set_cons_succ]
  have ho : opsG[22]? = some (opAt opsG 22) := by kernel_rfl
  conv at ho => rhs; arg 1; whnf
  refine wpAnyH_take (i := 22) (v := ?_) ho (by kernel_rfl) (by kernel_rfl) (by kernel_rfl) (fun c a w h => hP c a _ _ w h) (Or.inl ⟨by kernel_rfl, ?_⟩) hS ?_
  clear ho
  rotate_left
  · intro w' hS'
    have hq := hS'.1
    have hq2 := hS'.2
    clear hS'
    first | (go_simp; done) | (go_simp; with_reducible rfl)
  try clear ho
  try simp only [Act.put, List.getElem_toArray, List.getElem_cons_zero, List.getElem_cons_succ, List.setIfInBounds_toArray, List.set_cons_zero, List.set_cons_succ]
  have ho : opsG[23]? = some (opAt opsG 23) := by kernel_rfl
  conv at ho => rhs; arg 1; whnf
  refine wpAnyH_take (i := 23) (v := ?_) ho (by kernel_rfl) (by kernel_rfl) (by kernel_rfl) (fun c a w h => hP c a _ _ w h) (Or.inl ⟨by kernel_rfl, ?_⟩) hS ?_
  clear ho
  rotate_left
  · intro w' hS'
    have hq := hS'.1
    have hq2 := hS'.2
    clear hS'
    first | (go_simp; done) | (go_simp; with_reducible rfl)
  try clear ho
  try simp only [Act.put, List.getElem_toArray, List.getElem_cons_zero, List.getElem_cons_succ, List.setIfInBounds_toArray, List.set_cons_zero, List.set_cons_succ]
  have ho5 : opsG[5]? = some (opAt opsG 5) := by kernel_rfl
  conv at ho5 => rhs; arg 1; whnf
  have ho25 : opsG[25]? = some (opAt opsG 25) := by kernel_rfl
  conv at ho25 => rhs; arg 1; whnf
  refine wpAnyH_ready (rs := [5, 25]) (by kernel_rfl) (by simp) ?_
  refine (AllReadyH.cons ho5 (fun K hK => ?_) (AllReadyH.cons ho25 (fun K hK => ?_) AllReadyH.nil))
  all_goals clear ho5 ho25
  · obtain ⟨i3, hi3, hz30, hz31, hz32⟩ := info_parts info27
    have hkS := hS.2
    refine step_append_sl (T := u32T) rfl (.const (.slice none 0 0)) (.tmp 249) 57 rfl W.heap.size 27 i3 _ 4 Try.underlying57 hi3 hz30 hz31 hz32 rfl (by decide) (.slice none 0 0) 0 [] (by rfl) (Own.nil _ _ _ _) A7 s.usages.length c7 s.usages (by rfl) ((HM.out.kept hkS).sl_of _ (fun g h1 h2 => ⟨h2, fun e => by cases e⟩) (fun _ _ hr => hr)) by_one27 (by unfold maxLen; omega) (by omega) hkS.size ?_
    intro vv w5 hown5 hg5 hb5 hat5
    obtain ⟨A', cap, hvv, hc1, hc2⟩ := hown5.isSlice
    rw [Nat.zero_add] at hvv
    rw [hvv, Nat.zero_add, List.nil_append] at hown5
    subst hvv
    have hk5 : Kept W w5 := hkS.trans hb5
    clear hg5 hb5 hat5
    refine hK.out _ _ ?_ (fun hS => ?_)
    · exact ⟨(bcell hk5).1, hk5⟩
    clear hK K
    try simp only [Act.put, List.getElem_toArray, List.getElem_cons_zero, List.getElem_cons_succ, List.setIfInBounds_toArray, List.set_cons_zero, List.set_cons_succ]
    have ho : opsG[24]? = some (opAt opsG 24) := by kernel_rfl
    conv at ho => rhs; arg 1; whnf
    refine wpAnyH_take (i := 24) (v := ?_) ho (by kernel_rfl) (by kernel_rfl) (by kernel_rfl) (fun c a w h => hP c a _ _ w h) (Or.inl ⟨by kernel_rfl, ?_⟩) hS ?_
    clear ho
    rotate_left
    · intro w' hS'
      have hq := hS'.1
      have hq2 := hS'.2
      clear hS'
      first | (go_simp; done) | (go_simp; with_reducible rfl)
    try clear ho
    try simp only [Act.put, List.getElem_toArray, List.getElem_cons_zero, List.getElem_cons_succ, List.setIfInBounds_toArray, List.set_cons_zero, List.set_cons_succ]
    have ho25 : opsG[25]? = some (opAt opsG 25) := by kernel_rfl
    conv at ho25 => rhs; arg 1; whnf
    refine wpAnyH_ready (rs := [25]) (by kernel_rfl) (by simp) ?_
    refine (AllReadyH.cons ho25 (fun K hK => ?_) AllReadyH.nil)
    all_goals clear ho25
    go_simp
    try dsimp only
    have k5 := hS.2
    refine hK.out _ _ ?_ (fun hS => ?_)
    · have h1 : Kept W (w5.alloc (.cells #[.int .u8 0, .int .u8 0, .int .i64 0, .slice none 0 0, .int .i64 0, .int .i64 0, .int .i64 0, .int .i64 0, .int .i64 0, .bool false, .bool false, .bool false, .bool false] 59)) := k5.alloc k5.size _
      exact ⟨(bcell h1).1, h1⟩
    clear hK K
    try simp only [Act.put, List.getElem_toArray, List.getElem_cons_zero, List.getElem_cons_succ, List.setIfInBounds_toArray, List.set_cons_zero, List.set_cons_succ]
    have ho26 : opsG[26]? = some (opAt opsG 26) := by kernel_rfl
    conv at ho26 => rhs; arg 1; whnf
    refine wpAnyH_ready (rs := [26]) (by kernel_rfl) (by simp) ?_
    refine (AllReadyH.cons ho26 (fun K hK => ?_) AllReadyH.nil)
    all_goals clear ho26
    rw [if_pos (by kernel_rfl)]
    refine wp_store_row 59 (.tmp 17) (.tmp 269) rfl (w5.heap.size) #[.int .u8 1, .int .u8 s.g.report, .int .i64 s.opn, .slice A' s.usages.length cap, .int .i64 s.g.lo, .int .i64 s.g.hi, .int .i64 0, .int .i64 0, .int .i64 0, .bool b1, .bool b2, .bool (decide (s.g.lo < 0)), .bool b4] (by rfl) (by rfl) 59 _ (heap_at _ rfl) (by kernel_rfl) (by rfl) (by simp [Value.oneCell']) ?_
    have k8 : Kept W (w5.alloc (.cells #[.int .u8 0, .int .u8 0, .int .i64 0, .slice none 0 0, .int .i64 0, .int .i64 0, .int .i64 0, .int .i64 0, .int .i64 0, .bool false, .bool false, .bool false, .bool false] 59)) := hS.2
    have hGW : W.heap.size ≤ w5.heap.size := by exact k5.size
    have k9 : Kept W ((w5.alloc (.cells #[.int .u8 0, .int .u8 0, .int .i64 0, .slice none 0 0, .int .i64 0, .int .i64 0, .int .i64 0, .int .i64 0, .int .i64 0, .bool false, .bool false, .bool false, .bool false] 59)).setRow (w5.heap.size) #[.int .u8 1, .int .u8 s.g.report, .int .i64 s.opn, .slice A' s.usages.length cap, .int .i64 s.g.lo, .int .i64 s.g.hi, .int .i64 0, .int .i64 0, .int .i64 0, .bool b1, .bool b2, .bool (decide (s.g.lo < 0)), .bool b4]) := kept_row k8 hGW _
    have hbx : ((w5.alloc (.cells #[.int .u8 0, .int .u8 0, .int .i64 0, .slice none 0 0, .int .i64 0, .int .i64 0, .int .i64 0, .int .i64 0, .int .i64 0, .bool false, .bool false, .bool false, .bool false] 59)).setRow (w5.heap.size) #[.int .u8 1, .int .u8 s.g.report, .int .i64 s.opn, .slice A' s.usages.length cap, .int .i64 s.g.lo, .int .i64 s.g.hi, .int .i64 0, .int .i64 0, .int .i64 0, .bool b1, .bool b2, .bool (decide (s.g.lo < 0)), .bool b4]).heap[w5.heap.size]? = some (.cells #[.int .u8 1, .int .u8 s.g.report, .int .i64 s.opn, .slice A' s.usages.length cap, .int .i64 s.g.lo, .int .i64 s.g.hi, .int .i64 0, .int .i64 0, .int .i64 0, .bool b1, .bool b2, .bool (decide (s.g.lo < 0)), .bool b4] 59 (0, 0)) := heap_row (heap_at _ rfl)
    refine hK.out _ _ ?_ (fun hS => ?_)
    · exact ⟨(bcell k9).1, k9⟩
    clear hK K
    try simp only [Act.put, List.getElem_toArray, List.getElem_cons_zero, List.getElem_cons_succ, List.setIfInBounds_toArray, List.set_cons_zero, List.set_cons_succ]
    refine wpAnyH_done (by kernel_rfl) ?_ _
    refine hK _ _ ?_
    have hBX : Bxd W ((w5.alloc (.cells #[.int .u8 0, .int .u8 0, .int .i64 0, .slice none 0 0, .int .i64 0, .int .i64 0, .int .i64 0, .int .i64 0, .int .i64 0, .bool false, .bool false, .bool false, .bool false] 59)).setRow (w5.heap.size) #[.int .u8 1, .int .u8 s.g.report, .int .i64 s.opn, .slice A' s.usages.length cap, .int .i64 s.g.lo, .int .i64 s.g.hi, .int .i64 0, .int .i64 0, .int .i64 0, .bool b1, .bool b2, .bool (decide (s.g.lo < 0)), .bool b4]) (w5.heap.size) A' cap s b1 b2 b4 1 0 0 0 := ⟨k9, hbx, hGW, (hown5.kept ((Below.refl _ _).alloc (Nat.le_refl _) _)).row59 (heap_at _ rfl) _⟩
    go_upto_region 88 with (fail)
    refine fld_88 k hkt (frame_f rfl rfl rfl rfl rfl rfl rfl rfl rfl rfl rfl rfl rfl rfl) h hBX hs hw hok ⟨hb1.symm, hb2.symm, hb4.symm⟩ heff ho hN hE hP _ _ ?_ ?_
    all_goals assumption
  · go_simp
    try dsimp only
    refine hK.out _ _ ?_ (fun hS => ?_)
    · have h1 : Kept W (W.drew.alloc (.cells #[.int .u8 0, .int .u8 0, .int .i64 0, .slice none 0 0, .int .i64 0, .int .i64 0, .int .i64 0, .int .i64 0, .int .i64 0, .bool false, .bool false, .bool false, .bool false] 59)) := kept_drew_alloc' W _
      exact ⟨(bcell h1).1, h1⟩
    clear hK K
    try simp only [Act.put, List.getElem_toArray, List.getElem_cons_zero, List.getElem_cons_succ, List.setIfInBounds_toArray, List.set_cons_zero, List.set_cons_succ]
    have ho5 : opsG[5]? = some (opAt opsG 5) := by kernel_rfl
    conv at ho5 => rhs; arg 1; whnf
    refine wpAnyH_ready (rs := [5]) (by kernel_rfl) (by simp) ?_
    refine (AllReadyH.cons ho5 (fun K hK => ?_) AllReadyH.nil)
    all_goals clear ho5
    obtain ⟨i3, hi3, hz30, hz31, hz32⟩ := info_parts info27
    have hkS := hS.2
    have hz5 : W.heap.size < (W.drew.alloc (.cells #[.int .u8 0, .int .u8 0, .int .i64 0, .slice none 0 0, .int .i64 0, .int .i64 0, .int .i64 0, .int .i64 0, .int .i64 0, .bool false, .bool false, .bool false, .bool false] 59)).heap.size := by simp
    have hbz : (W.drew.alloc (.cells #[.int .u8 0, .int .u8 0, .int .i64 0, .slice none 0 0, .int .i64 0, .int .i64 0, .int .i64 0, .int .i64 0, .int .i64 0, .bool false, .bool false, .bool false, .bool false] 59)).heap[W.heap.size]? = some (.cells #[.int .u8 0, .int .u8 0, .int .i64 0, .slice none 0 0, .int .i64 0, .int .i64 0, .int .i64 0, .int .i64 0, .int .i64 0, .bool false, .bool false, .bool false, .bool false] 59 (0, 0)) := heap_at _ rfl
    refine step_append_sl (T := u32T) rfl (.const (.slice none 0 0)) (.tmp 249) 57 rfl W.heap.size 27 i3 _ 4 Try.underlying57 hi3 hz30 hz31 hz32 rfl (by decide) (.slice none 0 0) 0 [] (by rfl) (Own.nil _ _ _ _) A7 s.usages.length c7 s.usages (by rfl) ((HM.out.kept hkS).sl_of _ (fun g h1 h2 => ⟨h2, fun e => by cases e⟩) (fun _ _ hr => hr)) by_one27 (by unfold maxLen; omega) (by omega) hkS.size ?_
    intro vv w5 hown5 hg5 hb5 hat5
    obtain ⟨A', cap, hvv, hc1, hc2⟩ := hown5.isSlice
    rw [Nat.zero_add] at hvv
    rw [hvv, Nat.zero_add, List.nil_append] at hown5
    subst hvv
    have hbz5 := heap_grown hg5 hbz (fun e => by cases e)
    have hk5 : Kept W w5 := hkS.trans hb5
    clear hg5 hb5 hat5
    refine hK.out _ _ ?_ (fun hS => ?_)
    · exact ⟨(bcell hk5).1, hk5⟩
    clear hK K
    try simp only [Act.put, List.getElem_toArray, List.getElem_cons_zero, List.getElem_cons_succ, List.setIfInBounds_toArray, List.set_cons_zero, List.set_cons_succ]
    have ho : opsG[24]? = some (opAt opsG 24) := by kernel_rfl
    conv at ho => rhs; arg 1; whnf
    refine wpAnyH_take (i := 24) (v := ?_) ho (by kernel_rfl) (by kernel_rfl) (by kernel_rfl) (fun c a w h => hP c a _ _ w h) (Or.inl ⟨by kernel_rfl, ?_⟩) hS ?_
    clear ho
    rotate_left
    · intro w' hS'
      have hq := hS'.1
      have hq2 := hS'.2
      clear hS'
      first | (go_simp; done) | (go_simp; with_reducible rfl)
    try clear ho
    try simp only [Act.put, List.getElem_toArray, List.getElem_cons_zero, List.getElem_cons_succ, List.setIfInBounds_toArray, List.set_cons_zero, List.set_cons_succ]
    have ho26 : opsG[26]? = some (opAt opsG 26) := by kernel_rfl
    conv at ho26 => rhs; arg 1; whnf
    refine wpAnyH_ready (rs := [26]) (by kernel_rfl) (by simp) ?_
    refine (AllReadyH.cons ho26 (fun K hK => ?_) AllReadyH.nil)
    all_goals clear ho26
    rw [if_pos (by kernel_rfl)]
    refine wp_store_row 59 (.tmp 17) (.tmp 269) rfl (W.heap.size) #[.int .u8 1, .int .u8 s.g.report, .int .i64 s.opn, .slice A' s.usages.length cap, .int .i64 s.g.lo, .int .i64 s.g.hi, .int .i64 0, .int .i64 0, .int .i64 0, .bool b1, .bool b2, .bool (decide (s.g.lo < 0)), .bool b4] (by rfl) (by rfl) 59 _ hbz5 (by kernel_rfl) (by rfl) (by simp [Value.oneCell']) ?_
    have k8 : Kept W (w5) := hk5
    have hGW : W.heap.size ≤ W.heap.size := by exact Nat.le_refl _
    have k9 : Kept W ((w5).setRow (W.heap.size) #[.int .u8 1, .int .u8 s.g.report, .int .i64 s.opn, .slice A' s.usages.length cap, .int .i64 s.g.lo, .int .i64 s.g.hi, .int .i64 0, .int .i64 0, .int .i64 0, .bool b1, .bool b2, .bool (decide (s.g.lo < 0)), .bool b4]) := kept_row k8 hGW _
    have hbx : ((w5).setRow (W.heap.size) #[.int .u8 1, .int .u8 s.g.report, .int .i64 s.opn, .slice A' s.usages.length cap, .int .i64 s.g.lo, .int .i64 s.g.hi, .int .i64 0, .int .i64 0, .int .i64 0, .bool b1, .bool b2, .bool (decide (s.g.lo < 0)), .bool b4]).heap[W.heap.size]? = some (.cells #[.int .u8 1, .int .u8 s.g.report, .int .i64 s.opn, .slice A' s.usages.length cap, .int .i64 s.g.lo, .int .i64 s.g.hi, .int .i64 0, .int .i64 0, .int .i64 0, .bool b1, .bool b2, .bool (decide (s.g.lo < 0)), .bool b4] 59 (0, 0)) := heap_row hbz5
    refine hK.out _ _ ?_ (fun hS => ?_)
    · exact ⟨(bcell k9).1, k9⟩
    clear hK K
    try simp only [Act.put, List.getElem_toArray, List.getElem_cons_zero, List.getElem_cons_succ, List.setIfInBounds_toArray, List.set_cons_zero, List.set_cons_succ]
    refine wpAnyH_done (by kernel_rfl) ?_ _
    refine hK _ _ ?_
    have hBX : Bxd W ((w5).setRow (W.heap.size) #[.int .u8 1, .int .u8 s.g.report, .int .i64 s.opn, .slice A' s.usages.length cap, .int .i64 s.g.lo, .int .i64 s.g.hi, .int .i64 0, .int .i64 0, .int .i64 0, .bool b1, .bool b2, .bool (decide (s.g.lo < 0)), .bool b4]) (W.heap.size) A' cap s b1 b2 b4 1 0 0 0 := ⟨k9, hbx, hGW, hown5.row59 hbz5 _⟩
    go_upto_region 88 with (fail)
    refine fld_88 k hkt (frame_f rfl rfl rfl rfl rfl rfl rfl rfl rfl rfl rfl rfl rfl rfl) h hBX hs hw hok ⟨hb1.symm, hb2.symm, hb4.symm⟩ heff ho hN hE hP _ _ ?_ ?_
    all_goals assumption
end Go.Proofs.Ytegdigfcgeoboaa
