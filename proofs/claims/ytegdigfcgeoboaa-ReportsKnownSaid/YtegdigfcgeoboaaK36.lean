/- The law of the chapter on reports, part 36: Ig No Nn Nm. -/
import Derived.Test.YtegdigfcgeoboaaK35
set_option maxHeartbeats 16000000
set_option linter.unusedVariables false
set_option linter.unusedSimpArgs false
set_option linter.unusedSectionVars false
namespace Go.Proofs.Ytegdigfcgeoboaa
open Go.RowKit Go.Maps
attribute [local go_sem ↓] Go.wp_at_zero Go.wp_at_succ
theorem by_one27 : ∀ {W0 : World} {F0 : Nat → Prop} (x : Int) (cs : List Value), u32T.rel W0 F0 x cs → ∀ u ∈ cs, u.oneCell' = true := by
 rintro _ _ x cs ⟨rfl, _⟩ u hu
 simp at hu
 subst hu
 rfl
theorem kept_drew_alloc' (W : World) (o : Obj) : Kept W (W.drew.alloc o) := by
 have h : Kept W (W.alloc o) := (Below.refl _ _).alloc (Nat.le_refl _) o
 exact ⟨h.os, h.tape, h.output, h.size, h.block⟩
theorem Own.row59 {w : World} {base n : Nat} {v : Value} {xs : List Int} (h : Own u32T 27 base w v n xs) {g : Nat} {cs : Array Value} (hb : w.heap[g]? = some (.cells cs 59 (0, 0))) (cs' : Array Value) : Own u32T 27 base (w.setRow g cs') v n xs := by
 have hg : w.grownBy (w.setRow g cs') (some g) := ⟨rfl, rfl, rfl, by rw [size_setRow]; exact Nat.le_refl _, fun k hk hne => by
  show (w.heap.modify g _)[k]? = _
  rw [Array.getElem?_modify, if_neg (fun e => hne (by rw [e]))]⟩
 exact h.grownF flat_u32 hg (.inr (own_not59 h hb (by decide)))
noncomputable def opsG : Array Oper := opsOf (headC code87)
set_option maxRecDepth 1000000 in
theorem fld_87 {Q : Exit → Act → World → Prop} {W : World} {base n c R M S X : Nat} {A : Option Addr} {vs vu vf vc : Value} {s : RS} {i : Int} {x : It} {a : Act} {cc : Int} (k : Int) (hkt : (x.tg = 8 ∧ k = 1) ∨ (x.tg = 9 ∧ k = 2) ∨ (x.tg = 11 ∧ k = 3)) (ha : Live a A n c R M S X vs vu s s i x cc) (h : Sit W base R M S X vs vu vf vc s x)
  (hs : s.Fine) (hw : x.wide = true) (hok : x.ok) (heff : effS s x = fieldS s k x) (ho : ¬ s.opn < 0) (hN : OkN Q W base A n c R M S X s i x) (hE : OkE Q W R s x) (hP : ∀ c a d v w, Q (.panic c) (a.put d v) w → Q (.panic c) a w) (K : Act → World → Prop) (hK : ∀ a w', Code.wp Try.prog (restC code87) Q a w' → K a w') : Code.wp Try.prog (headC code87) (Exit.then K Q) a W := by
 obtain ⟨us, rfl⟩ := ha
 conv => arg 2; whnf
 conv at hK => enter [a, w', 1, 2]; whnf
 dsimp only
 obtain ⟨d0, d1, d2⟩ := data_lt hw hok
 have hSl := heap_lt h.md.bs
 have hrr : IntKind.u8.wrap s.g.report = s.g.report := by rw [IntKind.wrap_u8]; have := hs.report; omega
 have q1 : x.data.tmod 2 = x.data % 2 := Int.tmod_eq_emod_of_nonneg d0
 have q2 : x.data.tdiv 2 = x.data / 2 := Int.tdiv_eq_ediv_of_nonneg d0
 have q4 : x.data.tdiv 4 = x.data / 4 := Int.tdiv_eq_ediv_of_nonneg d0
 have q3 : (x.data / 2).tmod 2 = x.data / 2 % 2 := Int.tmod_eq_emod_of_nonneg (by omega)
 have q5 : (x.data / 4).tmod 2 = x.data / 4 % 2 := Int.tmod_eq_emod_of_nonneg (by omega)
 have wq1 : IntKind.i64.wrap (x.data % 2) = x.data % 2 := by rw [IntKind.wrap_i64]; omega
 have wq2 : IntKind.i64.wrap (x.data / 2) = x.data / 2 := by rw [IntKind.wrap_i64]; omega
 have wq3 : IntKind.i64.wrap (x.data / 2 % 2) = x.data / 2 % 2 := by rw [IntKind.wrap_i64]; omega
 have wq4 : IntKind.i64.wrap (x.data / 4) = x.data / 4 := by rw [IntKind.wrap_i64]; omega
 have wq5 : IntKind.i64.wrap (x.data / 4 % 2) = x.data / 4 % 2 := by rw [IntKind.wrap_i64]; omega
 obtain ⟨b1, hb1⟩ : ∃ b, (x.data % 2 == 1) = b := ⟨_, rfl⟩
 obtain ⟨b2, hb2⟩ : ∃ b, (x.data / 2 % 2 == 0) = b := ⟨_, rfl⟩
 obtain ⟨b4, hb4⟩ : ∃ b, (x.data / 4 % 2 == 1) = b := ⟨_, rfl⟩
 have hul := hs.usages.1
 obtain ⟨A7, c7, rfl, hB1, hB2⟩ := h.md.us.isSlice
 have HM := hide h.md.us
 have p1 : W.cell? ⟨S, 1, none⟩ = some (.int .i64 s.g.lo) := cell_heap h.md.bs (o := 1) rfl
 have p2 : W.cell? ⟨S, 2, none⟩ = some (.int .i64 s.g.hi) := cell_heap h.md.bs (o := 2) rfl
 have p5 : W.cell? ⟨S, 5, none⟩ = some (.int .i64 s.g.report) := cell_heap h.md.bs (o := 5) rfl
 refine wp_region_held_named (ops' := opsG) (n := 27) (S := fun w' => (∀ b o, b < W.heap.size → w'.cell? ⟨b, o, none⟩ = W.cell? ⟨b, o, none⟩) ∧ Kept W w') (by kernel_rfl) (by kernel_rfl) (by kernel_rfl) ⟨fun _ _ _ => rfl, (Below.refl _ _).drew⟩ (fun hS => ?_)
 have ho := opE opsG 0 (by kernel_rfl)
 conv at ho => rhs; arg 1; whnf
 refine tkE (v := ?_) ho (by kernel_rfl) (fun c a w h => hP c a _ _ w h) hS ?_ ?_ <;> clear ho
 rotate_left
 ·intro w' hq hq2; first | (go_simp; done) | (go_simp; with_reducible rfl)
 try simp only [Act.put, zp1, zp2, zp3, zp4, zp5, zp6]
 have ho := opE opsG 1 (by kernel_rfl)
 conv at ho => rhs; arg 1; whnf
 refine tkE (v := ?_) ho (by kernel_rfl) (fun c a w h => hP c a _ _ w h) hS ?_ ?_ <;> clear ho
 rotate_left
 ·intro w' hq hq2; first | (go_simp; done) | (go_simp; with_reducible rfl)
 try simp only [Act.put, zp1, zp2, zp3, zp4, zp5, zp6]
 have ho := opE opsG 2 (by kernel_rfl)
 conv at ho => rhs; arg 1; whnf
 refine tkE (v := ?_) ho (by kernel_rfl) (fun c a w h => hP c a _ _ w h) hS ?_ ?_ <;> clear ho
 rotate_left
 ·intro w' hq hq2; first | (go_simp; done) | (go_simp; with_reducible rfl)
 try simp only [Act.put, zp1, zp2, zp3, zp4, zp5, zp6]
 have ho := opE opsG 3 (by kernel_rfl)
 conv at ho => rhs; arg 1; whnf
 refine tkE (v := ?_) ho (by kernel_rfl) (fun c a w h => hP c a _ _ w h) hS ?_ ?_ <;> clear ho
 rotate_left
 ·intro w' hq hq2; first | (go_simp; done) | (go_simp; with_reducible rfl)
 try simp only [Act.put, zp1, zp2, zp3, zp4, zp5, zp6]
 have ho := opE opsG 4 (by kernel_rfl)
 conv at ho => rhs; arg 1; whnf
 refine tkE (v := ?_) ho (by kernel_rfl) (fun c a w h => hP c a _ _ w h) hS ?_ ?_ <;> clear ho
 rotate_left
 ·intro w' hq hq2; first | (go_simp; done) | (go_simp; with_reducible rfl)
 try simp only [Act.put, zp1, zp2, zp3, zp4, zp5, zp6]
 have ho := opE opsG 6 (by kernel_rfl)
 conv at ho => rhs; arg 1; whnf
 refine tkE (v := ?_) ho (by kernel_rfl) (fun c a w h => hP c a _ _ w h) hS ?_ ?_ <;> clear ho
 rotate_left
 ·intro w' hq hq2; first | (go_simp; done) | (go_simp; with_reducible rfl)
 try simp only [Act.put, zp1, zp2, zp3, zp4, zp5, zp6]
 have ho := opE opsG 7 (by kernel_rfl)
 conv at ho => rhs; arg 1; whnf
 refine tkE (v := ?_) ho (by kernel_rfl) (fun c a w h => hP c a _ _ w h) hS ?_ ?_ <;> clear ho
 rotate_left
 ·intro w' hq hq2; first | (go_simp; done) | (go_simp; with_reducible rfl)
 try simp only [Act.put, zp1, zp2, zp3, zp4, zp5, zp6]
 have ho := opE opsG 8 (by kernel_rfl)
 conv at ho => rhs; arg 1; whnf
 refine tkE (v := ?_) ho (by kernel_rfl) (fun c a w h => hP c a _ _ w h) hS ?_ ?_ <;> clear ho
 rotate_left
 ·intro w' hq hq2; first | (go_simp; done) | (go_simp; with_reducible rfl)
 try simp only [Act.put, zp1, zp2, zp3, zp4, zp5, zp6]
 have ho := opE opsG 9 (by kernel_rfl)
 conv at ho => rhs; arg 1; whnf
 refine tkE (v := ?_) ho (by kernel_rfl) (fun c a w h => hP c a _ _ w h) hS ?_ ?_ <;> clear ho
 rotate_left
 ·intro w' hq hq2; first | (go_simp; done) | (go_simp; with_reducible rfl)
 try simp only [Act.put, zp1, zp2, zp3, zp4, zp5, zp6]
 have ho := opE opsG 10 (by kernel_rfl)
 conv at ho => rhs; arg 1; whnf
 refine tkE (v := ?_) ho (by kernel_rfl) (fun c a w h => hP c a _ _ w h) hS ?_ ?_ <;> clear ho
 rotate_left
 ·intro w' hq hq2; first | (go_simp; done) | (go_simp; with_reducible rfl)
 try simp only [Act.put, zp1, zp2, zp3, zp4, zp5, zp6]
 have ho := opE opsG 11 (by kernel_rfl)
 conv at ho => rhs; arg 1; whnf
 refine tkE (v := ?_) ho (by kernel_rfl) (fun c a w h => hP c a _ _ w h) hS ?_ ?_ <;> clear ho
 rotate_left
 ·intro w' hq hq2; first | (go_simp; done) | (go_simp; with_reducible rfl)
 try simp only [Act.put, zp1, zp2, zp3, zp4, zp5, zp6]
 have ho := opE opsG 12 (by kernel_rfl)
 conv at ho => rhs; arg 1; whnf
 refine tkE (v := ?_) ho (by kernel_rfl) (fun c a w h => hP c a _ _ w h) hS ?_ ?_ <;> clear ho
 rotate_left
 ·intro w' hq hq2; first | (go_simp; done) | (go_simp; with_reducible rfl)
 try simp only [Act.put, zp1, zp2, zp3, zp4, zp5, zp6]
 have ho := opE opsG 13 (by kernel_rfl)
 conv at ho => rhs; arg 1; whnf
 refine tkE (v := ?_) ho (by kernel_rfl) (fun c a w h => hP c a _ _ w h) hS ?_ ?_ <;> clear ho
 rotate_left
 ·intro w' hq hq2; first | (go_simp; done) | (go_simp; with_reducible rfl)
 try simp only [Act.put, zp1, zp2, zp3, zp4, zp5, zp6]
 have ho := opE opsG 14 (by kernel_rfl)
 conv at ho => rhs; arg 1; whnf
 refine tkE (v := ?_) ho (by kernel_rfl) (fun c a w h => hP c a _ _ w h) hS ?_ ?_ <;> clear ho
 rotate_left
 ·intro w' hq hq2; first | (go_simp; done) | (go_simp; with_reducible rfl)
 try simp only [Act.put, zp1, zp2, zp3, zp4, zp5, zp6]
 have ho := opE opsG 15 (by kernel_rfl)
 conv at ho => rhs; arg 1; whnf
 refine tkE (v := ?_) ho (by kernel_rfl) (fun c a w h => hP c a _ _ w h) hS ?_ ?_ <;> clear ho
 rotate_left
 ·intro w' hq hq2; first | (go_simp; done) | (go_simp; with_reducible rfl)
 try simp only [Act.put, zp1, zp2, zp3, zp4, zp5, zp6]
 have ho := opE opsG 16 (by kernel_rfl)
 conv at ho => rhs; arg 1; whnf
 refine tkE (v := ?_) ho (by kernel_rfl) (fun c a w h => hP c a _ _ w h) hS ?_ ?_ <;> clear ho
 rotate_left
 ·intro w' hq hq2; first | (go_simp; done) | (go_simp; with_reducible rfl)
 try simp only [Act.put, zp1, zp2, zp3, zp4, zp5, zp6]
 have ho := opE opsG 17 (by kernel_rfl)
 conv at ho => rhs; arg 1; whnf
 refine tkE (v := ?_) ho (by kernel_rfl) (fun c a w h => hP c a _ _ w h) hS ?_ ?_ <;> clear ho
 rotate_left
 ·intro w' hq hq2; first | (go_simp; done) | (go_simp; with_reducible rfl)
 try simp only [Act.put, zp1, zp2, zp3, zp4, zp5, zp6]
 have ho := opE opsG 18 (by kernel_rfl)
 conv at ho => rhs; arg 1; whnf
 refine tkE (v := ?_) ho (by kernel_rfl) (fun c a w h => hP c a _ _ w h) hS ?_ ?_ <;> clear ho
 rotate_left
 ·intro w' hq hq2; first | (go_simp; done) | (go_simp; with_reducible rfl)
 try simp only [Act.put, zp1, zp2, zp3, zp4, zp5, zp6]
 have ho := opE opsG 19 (by kernel_rfl)
 conv at ho => rhs; arg 1; whnf
 refine tkE (v := ?_) ho (by kernel_rfl) (fun c a w h => hP c a _ _ w h) hS ?_ ?_ <;> clear ho
 rotate_left
 ·intro w' hq hq2; first | (go_simp; done) | (go_simp; with_reducible rfl)
 try simp only [Act.put, zp1, zp2, zp3, zp4, zp5, zp6]
 have ho := opE opsG 20 (by kernel_rfl)
 conv at ho => rhs; arg 1; whnf
 refine tkE (v := ?_) ho (by kernel_rfl) (fun c a w h => hP c a _ _ w h) hS ?_ ?_ <;> clear ho
 rotate_left
 ·intro w' hq hq2; first | (go_simp; done) | (go_simp; with_reducible rfl)
 try simp only [Act.put, zp1, zp2, zp3, zp4, zp5, zp6]
 have ho := opE opsG 21 (by kernel_rfl)
 conv at ho => rhs; arg 1; whnf
 refine tkE (v := ?_) ho (by kernel_rfl) (fun c a w h => hP c a _ _ w h) hS ?_ ?_ <;> clear ho
 rotate_left
 ·intro w' hq hq2; first | (go_simp; done) | (go_simp; with_reducible rfl)
 try simp only [Act.put, zp1, zp2, zp3, zp4, zp5, zp6]
 have ho := opE opsG 22 (by kernel_rfl)
 conv at ho => rhs; arg 1; whnf
 refine tkE (v := ?_) ho (by kernel_rfl) (fun c a w h => hP c a _ _ w h) hS ?_ ?_ <;> clear ho
 rotate_left
 ·intro w' hq hq2; first | (go_simp; done) | (go_simp; with_reducible rfl)
 try simp only [Act.put, zp1, zp2, zp3, zp4, zp5, zp6]
 have ho := opE opsG 23 (by kernel_rfl)
 conv at ho => rhs; arg 1; whnf
 refine tkE (v := ?_) ho (by kernel_rfl) (fun c a w h => hP c a _ _ w h) hS ?_ ?_ <;> clear ho
 rotate_left
 ·intro w' hq hq2; first | (go_simp; done) | (go_simp; with_reducible rfl)
 try simp only [Act.put, zp1, zp2, zp3, zp4, zp5, zp6]
 have ho5 := opE opsG 5 (by kernel_rfl)
 conv at ho5 => rhs; arg 1; whnf
 have ho25 := opE opsG 25 (by kernel_rfl)
 conv at ho25 => rhs; arg 1; whnf
 refine wpAnyH_ready (rs := [5, 25]) (by kernel_rfl) (by simp) ?_
 refine (AllReadyH.cons ho5 (fun K hK => ?_) (AllReadyH.cons ho25 (fun K hK => ?_) AllReadyH.nil))
 all_goals clear ho5 ho25
 ·obtain ⟨i3, hi3, hz30, hz31, hz32⟩ := info_parts info27
  have hkS := hS.2
  refine step_append_sl (T := u32T) rfl (.const (.slice none 0 0)) (.tmp 249) 57 rfl W.heap.size 27 i3 _ 4 Try.underlying57 hi3 hz30 hz31 hz32 rfl (by decide) (.slice none 0 0) 0 [] (by rfl) (Own.nil _ _ _ _) A7 s.usages.length c7 s.usages (by rfl) ((HM.out.kept hkS).sl_of _ (fun g h1 h2 => ⟨h2, fun e => by cases e⟩) (fun _ _ hr => hr)) by_one27 (by unfold maxLen; omega) (by omega) hkS.size ?_
  intro vv w5 hown5 hg5 hb5 hat5
  obtain ⟨A', cap, hvv, hc1, hc2⟩ := hown5.isSlice
  rw [Nat.zero_add] at hvv
  rw [hvv, Nat.zero_add, List.nil_append] at hown5
  subst hvv
  have hk5 : Kept W w5 := hkS.trans hb5
  clear hg5 hb5 hat5
  refine hK.out _ _ ?_ (fun hS => ?_)
  ·exact ⟨(bcell hk5).1, hk5⟩
  clear hK K
  try simp only [Act.put, zp1, zp2, zp3, zp4, zp5, zp6]
  have ho := opE opsG 24 (by kernel_rfl)
  conv at ho => rhs; arg 1; whnf
  refine tkE (v := ?_) ho (by kernel_rfl) (fun c a w h => hP c a _ _ w h) hS ?_ ?_ <;> clear ho
  rotate_left
  ·intro w' hq hq2; first | (go_simp; done) | (go_simp; with_reducible rfl)
  try simp only [Act.put, zp1, zp2, zp3, zp4, zp5, zp6]
  have ho25 := opE opsG 25 (by kernel_rfl)
  conv at ho25 => rhs; arg 1; whnf
  refine wpAnyH_ready (rs := [25]) (by kernel_rfl) (by simp) ?_
  refine (AllReadyH.cons ho25 (fun K hK => ?_) AllReadyH.nil)
  all_goals clear ho25
  go_simp
  try dsimp only
  have k5 := hS.2
  refine hK.out _ _ ?_ (fun hS => ?_)
  ·have h1 : Kept W (w5.alloc (.cells #[.int .u8 0, .int .u8 0, .int .i64 0, .slice none 0 0, .int .i64 0, .int .i64 0, .int .i64 0, .int .i64 0, .int .i64 0, .bool false, .bool false, .bool false, .bool false] 59)) := k5.alloc k5.size _
   exact ⟨(bcell h1).1, h1⟩
  clear hK K
  try simp only [Act.put, zp1, zp2, zp3, zp4, zp5, zp6]
  have ho26 := opE opsG 26 (by kernel_rfl)
  conv at ho26 => rhs; arg 1; whnf
  refine wpAnyH_ready (rs := [26]) (by kernel_rfl) (by simp) ?_
  refine (AllReadyH.cons ho26 (fun K hK => ?_) AllReadyH.nil)
  all_goals clear ho26
  rw [if_pos (by kernel_rfl)]
  refine wp_store_row 59 (.tmp 17) (.tmp 269) rfl (w5.heap.size) #[.int .u8 1, .int .u8 s.g.report, .int .i64 s.opn, .slice A' s.usages.length cap, .int .i64 s.g.lo, .int .i64 s.g.hi, .int .i64 0, .int .i64 0, .int .i64 0, .bool b1, .bool b2, .bool (decide (s.g.lo < 0)), .bool b4] (by rfl) (by rfl) 59 _ (heap_at _ rfl) (by kernel_rfl) (by rfl) (by simp [Value.oneCell']) ?_
  have k8 : Kept W (w5.alloc (.cells #[.int .u8 0, .int .u8 0, .int .i64 0, .slice none 0 0, .int .i64 0, .int .i64 0, .int .i64 0, .int .i64 0, .int .i64 0, .bool false, .bool false, .bool false, .bool false] 59)) := hS.2
  have hGW : W.heap.size ≤ w5.heap.size := by exact k5.size
  have k9 : Kept W ((w5.alloc (.cells #[.int .u8 0, .int .u8 0, .int .i64 0, .slice none 0 0, .int .i64 0, .int .i64 0, .int .i64 0, .int .i64 0, .int .i64 0, .bool false, .bool false, .bool false, .bool false] 59)).setRow (w5.heap.size) #[.int .u8 1, .int .u8 s.g.report, .int .i64 s.opn, .slice A' s.usages.length cap, .int .i64 s.g.lo, .int .i64 s.g.hi, .int .i64 0, .int .i64 0, .int .i64 0, .bool b1, .bool b2, .bool (decide (s.g.lo < 0)), .bool b4]) := kept_row k8 hGW _
  have hbx : ((w5.alloc (.cells #[.int .u8 0, .int .u8 0, .int .i64 0, .slice none 0 0, .int .i64 0, .int .i64 0, .int .i64 0, .int .i64 0, .int .i64 0, .bool false, .bool false, .bool false, .bool false] 59)).setRow (w5.heap.size) #[.int .u8 1, .int .u8 s.g.report, .int .i64 s.opn, .slice A' s.usages.length cap, .int .i64 s.g.lo, .int .i64 s.g.hi, .int .i64 0, .int .i64 0, .int .i64 0, .bool b1, .bool b2, .bool (decide (s.g.lo < 0)), .bool b4]).heap[w5.heap.size]? = some (.cells #[.int .u8 1, .int .u8 s.g.report, .int .i64 s.opn, .slice A' s.usages.length cap, .int .i64 s.g.lo, .int .i64 s.g.hi, .int .i64 0, .int .i64 0, .int .i64 0, .bool b1, .bool b2, .bool (decide (s.g.lo < 0)), .bool b4] 59 (0, 0)) := heap_row (heap_at _ rfl)
  refine hK.out _ _ ?_ (fun hS => ?_)
  ·exact ⟨(bcell k9).1, k9⟩
  clear hK K
  try simp only [Act.put, zp1, zp2, zp3, zp4, zp5, zp6]
  refine wpAnyH_done (by kernel_rfl) ?_ _
  refine hK _ _ ?_
  have hBX : Bxd W ((w5.alloc (.cells #[.int .u8 0, .int .u8 0, .int .i64 0, .slice none 0 0, .int .i64 0, .int .i64 0, .int .i64 0, .int .i64 0, .int .i64 0, .bool false, .bool false, .bool false, .bool false] 59)).setRow (w5.heap.size) #[.int .u8 1, .int .u8 s.g.report, .int .i64 s.opn, .slice A' s.usages.length cap, .int .i64 s.g.lo, .int .i64 s.g.hi, .int .i64 0, .int .i64 0, .int .i64 0, .bool b1, .bool b2, .bool (decide (s.g.lo < 0)), .bool b4]) (w5.heap.size) A' cap s b1 b2 b4 1 0 0 0 := ⟨k9, hbx, hGW, (hown5.kept ((Below.refl _ _).alloc (Nat.le_refl _) _)).row59 (heap_at _ rfl) _⟩
  go_upto_region 88 with (fail)
  refine fld_88 k hkt (frame_f rfl rfl rfl rfl rfl rfl rfl rfl rfl rfl rfl rfl rfl rfl) h hBX hs hw hok ⟨hb1.symm, hb2.symm, hb4.symm⟩ heff ho hN hE hP _ _ ?_ ?_
  all_goals assumption
 ·go_simp
  try dsimp only
  refine hK.out _ _ ?_ (fun hS => ?_)
  ·have h1 : Kept W (W.drew.alloc (.cells #[.int .u8 0, .int .u8 0, .int .i64 0, .slice none 0 0, .int .i64 0, .int .i64 0, .int .i64 0, .int .i64 0, .int .i64 0, .bool false, .bool false, .bool false, .bool false] 59)) := kept_drew_alloc' W _
   exact ⟨(bcell h1).1, h1⟩
  clear hK K
  try simp only [Act.put, zp1, zp2, zp3, zp4, zp5, zp6]
  have ho5 := opE opsG 5 (by kernel_rfl)
  conv at ho5 => rhs; arg 1; whnf
  refine wpAnyH_ready (rs := [5]) (by kernel_rfl) (by simp) ?_
  refine (AllReadyH.cons ho5 (fun K hK => ?_) AllReadyH.nil)
  all_goals clear ho5
  obtain ⟨i3, hi3, hz30, hz31, hz32⟩ := info_parts info27
  have hkS := hS.2
  have hz5 : W.heap.size < (W.drew.alloc (.cells #[.int .u8 0, .int .u8 0, .int .i64 0, .slice none 0 0, .int .i64 0, .int .i64 0, .int .i64 0, .int .i64 0, .int .i64 0, .bool false, .bool false, .bool false, .bool false] 59)).heap.size := by simp
  have hbz : (W.drew.alloc (.cells #[.int .u8 0, .int .u8 0, .int .i64 0, .slice none 0 0, .int .i64 0, .int .i64 0, .int .i64 0, .int .i64 0, .int .i64 0, .bool false, .bool false, .bool false, .bool false] 59)).heap[W.heap.size]? = some (.cells #[.int .u8 0, .int .u8 0, .int .i64 0, .slice none 0 0, .int .i64 0, .int .i64 0, .int .i64 0, .int .i64 0, .int .i64 0, .bool false, .bool false, .bool false, .bool false] 59 (0, 0)) := heap_at _ rfl
  refine step_append_sl (T := u32T) rfl (.const (.slice none 0 0)) (.tmp 249) 57 rfl W.heap.size 27 i3 _ 4 Try.underlying57 hi3 hz30 hz31 hz32 rfl (by decide) (.slice none 0 0) 0 [] (by rfl) (Own.nil _ _ _ _) A7 s.usages.length c7 s.usages (by rfl) ((HM.out.kept hkS).sl_of _ (fun g h1 h2 => ⟨h2, fun e => by cases e⟩) (fun _ _ hr => hr)) by_one27 (by unfold maxLen; omega) (by omega) hkS.size ?_
  intro vv w5 hown5 hg5 hb5 hat5
  obtain ⟨A', cap, hvv, hc1, hc2⟩ := hown5.isSlice
  rw [Nat.zero_add] at hvv
  rw [hvv, Nat.zero_add, List.nil_append] at hown5
  subst hvv
  have hbz5 := heap_grown hg5 hbz (fun e => by cases e)
  have hk5 : Kept W w5 := hkS.trans hb5
  clear hg5 hb5 hat5
  refine hK.out _ _ ?_ (fun hS => ?_)
  ·exact ⟨(bcell hk5).1, hk5⟩
  clear hK K
  try simp only [Act.put, zp1, zp2, zp3, zp4, zp5, zp6]
  have ho := opE opsG 24 (by kernel_rfl)
  conv at ho => rhs; arg 1; whnf
  refine tkE (v := ?_) ho (by kernel_rfl) (fun c a w h => hP c a _ _ w h) hS ?_ ?_ <;> clear ho
  rotate_left
  ·intro w' hq hq2; first | (go_simp; done) | (go_simp; with_reducible rfl)
  try simp only [Act.put, zp1, zp2, zp3, zp4, zp5, zp6]
  have ho26 := opE opsG 26 (by kernel_rfl)
  conv at ho26 => rhs; arg 1; whnf
  refine wpAnyH_ready (rs := [26]) (by kernel_rfl) (by simp) ?_
  refine (AllReadyH.cons ho26 (fun K hK => ?_) AllReadyH.nil)
  all_goals clear ho26
  rw [if_pos (by kernel_rfl)]
  refine wp_store_row 59 (.tmp 17) (.tmp 269) rfl (W.heap.size) #[.int .u8 1, .int .u8 s.g.report, .int .i64 s.opn, .slice A' s.usages.length cap, .int .i64 s.g.lo, .int .i64 s.g.hi, .int .i64 0, .int .i64 0, .int .i64 0, .bool b1, .bool b2, .bool (decide (s.g.lo < 0)), .bool b4] (by rfl) (by rfl) 59 _ hbz5 (by kernel_rfl) (by rfl) (by simp [Value.oneCell']) ?_
  have k8 : Kept W (w5) := hk5
  have hGW : W.heap.size ≤ W.heap.size := by exact Nat.le_refl _
  have k9 : Kept W ((w5).setRow (W.heap.size) #[.int .u8 1, .int .u8 s.g.report, .int .i64 s.opn, .slice A' s.usages.length cap, .int .i64 s.g.lo, .int .i64 s.g.hi, .int .i64 0, .int .i64 0, .int .i64 0, .bool b1, .bool b2, .bool (decide (s.g.lo < 0)), .bool b4]) := kept_row k8 hGW _
  have hbx : ((w5).setRow (W.heap.size) #[.int .u8 1, .int .u8 s.g.report, .int .i64 s.opn, .slice A' s.usages.length cap, .int .i64 s.g.lo, .int .i64 s.g.hi, .int .i64 0, .int .i64 0, .int .i64 0, .bool b1, .bool b2, .bool (decide (s.g.lo < 0)), .bool b4]).heap[W.heap.size]? = some (.cells #[.int .u8 1, .int .u8 s.g.report, .int .i64 s.opn, .slice A' s.usages.length cap, .int .i64 s.g.lo, .int .i64 s.g.hi, .int .i64 0, .int .i64 0, .int .i64 0, .bool b1, .bool b2, .bool (decide (s.g.lo < 0)), .bool b4] 59 (0, 0)) := heap_row hbz5
  refine hK.out _ _ ?_ (fun hS => ?_)
  ·exact ⟨(bcell k9).1, k9⟩
  clear hK K
  try simp only [Act.put, zp1, zp2, zp3, zp4, zp5, zp6]
  refine wpAnyH_done (by kernel_rfl) ?_ _
  refine hK _ _ ?_
  have hBX : Bxd W ((w5).setRow (W.heap.size) #[.int .u8 1, .int .u8 s.g.report, .int .i64 s.opn, .slice A' s.usages.length cap, .int .i64 s.g.lo, .int .i64 s.g.hi, .int .i64 0, .int .i64 0, .int .i64 0, .bool b1, .bool b2, .bool (decide (s.g.lo < 0)), .bool b4]) (W.heap.size) A' cap s b1 b2 b4 1 0 0 0 := ⟨k9, hbx, hGW, hown5.row59 hbz5 _⟩
  go_upto_region 88 with (fail)
  refine fld_88 k hkt (frame_f rfl rfl rfl rfl rfl rfl rfl rfl rfl rfl rfl rfl rfl rfl) h hBX hs hw hok ⟨hb1.symm, hb2.symm, hb4.symm⟩ heff ho hN hE hP _ _ ?_ ?_
  all_goals assumption
noncomputable def codeM78' : Code := (Try.f13.body.bind (findR 78)).getD .skip
noncomputable def codeM82 : Code := elseC (restC codeM78')
set_option maxRecDepth 1000000 in
theorem sw_82 {Q : Exit → Act → World → Prop} {W : World} {base n c R M S X : Nat} {A : Option Addr} {vs vu vf vc : Value} {s : RS} {i : Int} {x : It} {a : Act} {cc : Int} (hcc : x.ty * 16 + x.tg = cc) (ha : Live a A n c R M S X vs vu s s i x cc) (h : Sit W base R M S X vs vu vf vc s x)
  (hs : s.Fine) (hw : x.wide = true) (hok : x.ok) (hN : OkN Q W base A n c R M S X s i x) (hE : OkE Q W R s x) (hP : ∀ c a d v w, Q (.panic c) (a.put d v) w → Q (.panic c) a w) (hne : ∀ v ∈ ([12, 10, 34, 33, 32, 27, 26, 25, 24, 23, 22, 21, 20, 19, 18, 17, 16] : List Int), cc ≠ v) (K K2 : Act → World → Prop) (hK : ∀ a w', Code.wp Try.prog (restC (headC codeM82)) (Exit.then K2 Q) a w' → K a w') (hK2 : ∀ a w', Code.wp Try.prog (restC codeM82) Q a w' → K2 a w') : Code.wp Try.prog (headC (headC codeM82)) (Exit.then K (Exit.then K2 Q)) a W := by
 obtain ⟨us, rfl⟩ := ha
 conv => arg 2; whnf
 conv at hK => enter [a, w', 1, 2]; whnf
 conv at hK2 => enter [a, w', 1, 2]; whnf
 dsimp only
 obtain ⟨w1, w2, w3, w4, _⟩ := wide_iff hw hok
 have hMl := heap_lt h.md.bm
 have hSl := heap_lt h.md.bs
 have hXl := heap_lt h.bx
 have hRl := heap_lt h.br
 have hMS := h.md.low.2.2
 obtain ⟨l1, l2, l3⟩ := h.low
 have r0 : W.cell? ⟨R, 0, none⟩ = some (.slice none 0 0) := cell_heap h.br (o := 0) rfl
 have r1 : W.cell? ⟨R, 1, none⟩ = some (.slice none 0 0) := cell_heap h.br (o := 1) rfl
 have r2 : W.cell? ⟨R, 2, none⟩ = some (.bool false) := cell_heap h.br (o := 2) rfl
 have g0 := frozen_heap h.br (o := 0)
 have g1 := frozen_heap h.br (o := 1)
 have g2 := frozen_heap h.br (o := 2)
 by_cases hv : cc = 8 ∨ cc = 9 ∨ cc = 11
 ·have h1 : x.ty = 0 := by omega
  obtain ⟨k, hkf⟩ : ∃ k, effS s x = fieldS s k x := by
   rcases hv with hv | hv | hv
   ·exact ⟨1, by simp [effS, h1, show x.tg = 8 by omega]⟩
   ·exact ⟨2, by simp [effS, h1, show x.tg = 9 by omega]⟩
   ·exact ⟨3, by simp [effS, h1, show x.tg = 11 by omega]⟩
  by_cases hd : s.opn < 0
  ·have hF : effS s x = (4, s) := by rw [hkf]; unfold fieldS; rw [if_pos hd]
   have hd' : decide (s.opn < 0) = true := decide_eq_true hd
   clear hkf
   rcases hv with rfl | rfl | rfl
   all_goals
    go_wp2_with fail
    refine hE _ _ 4 (by rw [hF]) (by decide) rfl rfl rfl ?_ ?_
    ·exact (zeroed h.br).1
    ·exact (zeroed h.br).2
  ·have hd' : decide (s.opn < 0) = false := decide_eq_false hd
   clear hkf
   rcases hv with hv | hv | hv
   ·have hkf : effS s x = fieldS s 1 x := by simp [effS, h1, show x.tg = 8 by omega]
    have htg : x.tg = 8 := by omega
    subst hv
    have Htg := hide htg
    have Hkf := hide hkf
    have Hd := hide hd
    clear htg hkf hd
    go_upto_region 87 with (fail)
    refine fld_87 1 (.inl ⟨Htg.out, rfl⟩) (frame_item rfl rfl rfl rfl rfl rfl rfl rfl rfl rfl rfl rfl rfl rfl rfl rfl) h hs hw hok Hkf.out Hd.out ?_ (fun a' W' E h1 h2 h3 h4 h5 h6 h7 => hE a' W' E h1 h2 h3 h4 h5 h6 h7) (fun c a d v w h => hP c a d v w h) _ ?_
    ·intro a' W' vs' vu' vf' vc' s' hF hL hS hfr
     obtain ⟨us', rfl⟩ := hL
     dsimp only
     go_wp2_with fail
     exact hN _ _ vs' vu' vf' vc' s' hF (frame_end rfl rfl rfl rfl rfl rfl rfl rfl rfl rfl rfl rfl) hS hfr
    ·assumption
   ·have hkf : effS s x = fieldS s 2 x := by simp [effS, h1, show x.tg = 9 by omega]
    have htg : x.tg = 9 := by omega
    subst hv
    have Htg := hide htg
    have Hkf := hide hkf
    have Hd := hide hd
    clear htg hkf hd
    go_upto_region 87 with (fail)
    refine fld_87 2 (.inr (.inl ⟨Htg.out, rfl⟩)) (frame_item rfl rfl rfl rfl rfl rfl rfl rfl rfl rfl rfl rfl rfl rfl rfl rfl) h hs hw hok Hkf.out Hd.out ?_ (fun a' W' E h1 h2 h3 h4 h5 h6 h7 => hE a' W' E h1 h2 h3 h4 h5 h6 h7) (fun c a d v w h => hP c a d v w h) _ ?_
    ·intro a' W' vs' vu' vf' vc' s' hF hL hS hfr
     obtain ⟨us', rfl⟩ := hL
     dsimp only
     go_wp2_with fail
     exact hN _ _ vs' vu' vf' vc' s' hF (frame_end rfl rfl rfl rfl rfl rfl rfl rfl rfl rfl rfl rfl) hS hfr
    ·assumption
   ·have hkf : effS s x = fieldS s 3 x := by simp [effS, h1, show x.tg = 11 by omega]
    have htg : x.tg = 11 := by omega
    subst hv
    have Htg := hide htg
    have Hkf := hide hkf
    have Hd := hide hd
    clear htg hkf hd
    go_upto_region 87 with (fail)
    refine fld_87 3 (.inr (.inr ⟨Htg.out, rfl⟩)) (frame_item rfl rfl rfl rfl rfl rfl rfl rfl rfl rfl rfl rfl rfl rfl rfl rfl) h hs hw hok Hkf.out Hd.out ?_ (fun a' W' E h1 h2 h3 h4 h5 h6 h7 => hE a' W' E h1 h2 h3 h4 h5 h6 h7) (fun c a d v w h => hP c a d v w h) _ ?_
    ·intro a' W' vs' vu' vf' vc' s' hF hL hS hfr
     obtain ⟨us', rfl⟩ := hL
     dsimp only
     go_wp2_with fail
     exact hN _ _ vs' vu' vf' vc' s' hF (frame_end rfl rfl rfl rfl rfl rfl rfl rfl rfl rfl rfl rfl) hS hfr
    ·assumption
 ·have hF : effS s x = (4, s) := by
   have t1 : x.ty = 0 ∨ x.ty = 1 ∨ x.ty = 2 := by omega
   have hn : ∀ v ∈ ([12, 10, 34, 33, 32, 27, 26, 25, 24, 23, 22, 21, 20, 19, 18, 17, 16] : List Int), cc ≠ v := hne
   simp only [List.mem_cons, List.not_mem_nil, or_false, forall_eq_or_imp, forall_eq] at hn
   unfold effS
   rcases t1 with t | t | t <;> rw [t] at hcc ⊢
   ·rw [if_pos rfl, if_neg (by omega), if_neg (by omega), if_neg (by omega), if_neg (by omega), if_neg (by omega)]
   ·rw [if_neg (by decide), if_pos rfl, if_neg (by omega), if_neg (by omega), if_neg (by omega), if_neg (by omega), if_neg (by omega), if_neg (by omega), if_neg (by omega), if_neg (by omega), if_neg (by omega)]
   ·rw [if_neg (by decide), if_neg (by decide), if_pos rfl, if_neg (by omega), if_neg (by omega), if_neg (by omega)]
  have hv1 : (cc == 8) = false := beq_false_of_ne (by omega)
  have hv2 : (cc == 9) = false := beq_false_of_ne (by omega)
  have hv3 : (cc == 11) = false := beq_false_of_ne (by omega)
  go_wp2_with fail
  refine hE _ _ 4 (by rw [hF]) (by decide) rfl rfl rfl ?_ ?_
  ·exact (zeroed h.br).1
  ·exact (zeroed h.br).2
noncomputable def codeM78 : Code := (Try.f13.body.bind (findR 78)).getD .skip
set_option maxRecDepth 1000000 in
theorem sw_78 {Q : Exit → Act → World → Prop} {W : World} {base n c R M S X : Nat} {A : Option Addr} {vs vu vf vc : Value} {s : RS} {i : Int} {x : It} {a : Act} {cc : Int} (hcc : x.ty * 16 + x.tg = cc) (ha : Live a A n c R M S X vs vu s s i x cc) (h : Sit W base R M S X vs vu vf vc s x)
  (hs : s.Fine) (hw : x.wide = true) (hok : x.ok) (hN : OkN Q W base A n c R M S X s i x) (hE : OkE Q W R s x) (hP : ∀ c a d v w, Q (.panic c) (a.put d v) w → Q (.panic c) a w) (hne : ∀ v ∈ ([10, 34, 33, 32, 27, 26, 25, 24, 23, 22, 21, 20, 19, 18, 17, 16] : List Int), cc ≠ v) (K : Act → World → Prop) (hK : ∀ a w', Code.wp Try.prog (restC codeM78) Q a w' → K a w') : Code.wp Try.prog (headC codeM78) (Exit.then K Q) a W := by
 obtain ⟨us, rfl⟩ := ha
 conv => arg 2; whnf
 conv at hK => enter [a, w', 1, 2]; whnf
 dsimp only
 obtain ⟨w1, w2, w3, w4, _⟩ := wide_iff hw hok
 have hMl := heap_lt h.md.bm
 have hSl := heap_lt h.md.bs
 have hXl := heap_lt h.bx
 have hRl := heap_lt h.br
 have hMS := h.md.low.2.2
 obtain ⟨l1, l2, l3⟩ := h.low
 have r0 : W.cell? ⟨R, 0, none⟩ = some (.slice none 0 0) := cell_heap h.br (o := 0) rfl
 have r1 : W.cell? ⟨R, 1, none⟩ = some (.slice none 0 0) := cell_heap h.br (o := 1) rfl
 have r2 : W.cell? ⟨R, 2, none⟩ = some (.bool false) := cell_heap h.br (o := 2) rfl
 have g0 := frozen_heap h.br (o := 0)
 have g1 := frozen_heap h.br (o := 1)
 have g2 := frozen_heap h.br (o := 2)
 by_cases hv : cc = 12
 ·subst hv
  have h1 : x.ty = 0 := by omega
  have h2 : x.tg = 12 := by omega
  have hE' : effS s x = if s.opn < 0 then (4, s) else (0, { s with opn := ((s.colls[s.opn.toNat]?).map Co.parent).getD (-1) }) := by simp [effS, h1, h2]
  obtain ⟨A8, c8, rfl, hC1, hC2⟩ := h.md.cs.isSlice
  have m1 : W.cell? ⟨M, 1, none⟩ = some (.slice A8 s.colls.length c8) := cell_heap h.md.bm (o := 1) rfl
  by_cases hd : s.opn < 0
  ·have hF : effS s x = (4, s) := by rw [hE', if_pos hd]
   have hd' : decide (s.opn < 0) = true := decide_eq_true hd
   go_wp2_with fail
   refine hE _ _ 4 (by rw [hF]) (by decide) rfl rfl rfl ?_ ?_
   ·exact (zeroed h.br).1
   ·exact (zeroed h.br).2
  ·obtain ⟨k, hk⟩ : ∃ k : Nat, s.opn = (k : Int) := ⟨s.opn.toNat, by omega⟩
   have hkl : k < s.colls.length := by have := hs.opn.2; omega
   obtain ⟨y, b, off, cs, hy, rfl, hbb, ⟨rfl, _⟩, hcs⟩ := h.md.cs.sl.at hkl
   have hF : effS s x = (0, { s with opn := y.parent }) := by
    rw [hE', if_neg hd, hk, Int.toNat_natCast, hy]; rfl
   have y2 : W.cell? ⟨b, off + k * 3 + 2, none⟩ = some (.int .i64 y.parent) := hcs 2 _ rfl
   have hbl : b < W.heap.size := hbb
   clear hcs
   rw [hk]
   go_wp2_with fail
   refine hN _ _ vs vu vf _ _ (hF) (frame_end rfl rfl rfl rfl rfl rfl rfl rfl rfl rfl rfl rfl) (h.same rfl rfl rfl rfl rfl rfl) (FrM.refl)
 ·have hv' : decide (cc = 12) = false := decide_eq_false hv
  go_upto_region 82 with (fail)
  refine sw_82 hcc (frame_item rfl rfl rfl rfl rfl rfl rfl rfl rfl rfl rfl rfl rfl rfl rfl rfl) h hs hw hok hN hE hP ?_ _ _ ?_ ?_
  ·intro u hu
   rcases List.mem_cons.1 hu with rfl | hu
   ·exact hv
   ·exact hne u hu
  all_goals assumption
noncomputable def codeM70 : Code := (Try.f13.body.bind (findR 70)).getD .skip
set_option maxRecDepth 1000000 in
theorem sw_70 {Q : Exit → Act → World → Prop} {W : World} {base n c R M S X : Nat} {A : Option Addr} {vs vu vf vc : Value} {s : RS} {i : Int} {x : It} {a : Act} {cc : Int} (hcc : x.ty * 16 + x.tg = cc) (ha : Live a A n c R M S X vs vu s s i x cc) (h : Sit W base R M S X vs vu vf vc s x)
  (hs : s.Fine) (hw : x.wide = true) (hok : x.ok) (hN : OkN Q W base A n c R M S X s i x) (hE : OkE Q W R s x) (hP : ∀ c a d v w, Q (.panic c) (a.put d v) w → Q (.panic c) a w) (hne : ∀ v ∈ ([34, 33, 32, 27, 26, 25, 24, 23, 22, 21, 20, 19, 18, 17, 16] : List Int), cc ≠ v) (K : Act → World → Prop) (hK : ∀ a w', Code.wp Try.prog (restC codeM70) Q a w' → K a w') : Code.wp Try.prog (headC codeM70) (Exit.then K Q) a W := by
 obtain ⟨us, rfl⟩ := ha
 conv => arg 2; whnf
 conv at hK => enter [a, w', 1, 2]; whnf
 dsimp only
 obtain ⟨w1, w2, w3, w4, _⟩ := wide_iff hw hok
 have hMl := heap_lt h.md.bm
 have hSl := heap_lt h.md.bs
 have hXl := heap_lt h.bx
 have hRl := heap_lt h.br
 have hMS := h.md.low.2.2
 obtain ⟨l1, l2, l3⟩ := h.low
 have r0 : W.cell? ⟨R, 0, none⟩ = some (.slice none 0 0) := cell_heap h.br (o := 0) rfl
 have r1 : W.cell? ⟨R, 1, none⟩ = some (.slice none 0 0) := cell_heap h.br (o := 1) rfl
 have r2 : W.cell? ⟨R, 2, none⟩ = some (.bool false) := cell_heap h.br (o := 2) rfl
 have g0 := frozen_heap h.br (o := 0)
 have g1 := frozen_heap h.br (o := 1)
 have g2 := frozen_heap h.br (o := 2)
 by_cases hv : cc = 10
 ·subst hv
  have h1 : x.ty = 0 := by omega
  have h2 : x.tg = 10 := by omega
  have hE' : effS s x = if 64 ≤ s.colls.length then (3, s) else (0, { s with opn := s.colls.length, colls := s.colls ++ [⟨x.data % 256, s.usages.headD 0, s.opn⟩] }) := by simp [effS, h1, h2]
  have hcl := hs.colls.1
  have hul := hs.usages.1
  obtain ⟨d0, d1, _⟩ := data_lt hw hok
  obtain ⟨A8, c8, rfl, hC1, hC2⟩ := h.md.cs.isSlice
  obtain ⟨A7, c7, rfl, hB1, hB2⟩ := h.md.us.isSlice
  obtain ⟨i1, hi1, hz0, hz1, hz2⟩ := info_parts info68
  have m1 : W.cell? ⟨M, 1, none⟩ = some (.slice A8 s.colls.length c8) := cell_heap h.md.bm (o := 1) rfl
  by_cases hd : 64 ≤ s.colls.length
  ·have hF : effS s x = (3, s) := by rw [hE', if_pos hd]
   have hd' : decide ((s.colls.length : Int) = 64) = true := decide_eq_true (by omega)
   have hd2 : ((s.colls.length : Int) == 64) = true := by rw [beq_iff_eq]; omega
   go_wp2_with fail
   refine hE _ _ 3 (by rw [hF]) (by decide) rfl rfl rfl ?_ ?_
   ·exact (zeroed h.br).1
   ·exact (zeroed h.br).2
  ·have hd' : decide ((s.colls.length : Int) = 64) = false := decide_eq_false (by omega)
   have hd2 : ((s.colls.length : Int) == 64) = false := beq_false_of_ne (by omega)
   have hwr : x.data.tmod 256 = x.data % 256 := Int.tmod_eq_emod_of_nonneg d0
   have hwu : IntKind.u8.wrap (x.data % 256) = x.data % 256 := by rw [IntKind.wrap_u8]; omega
   have hwi : IntKind.i64.wrap (x.data % 256) = x.data % 256 := by rw [IntKind.wrap_i64]; omega
   by_cases hu0 : s.usages.length = 0
   ·have hF : effS s x = (0, { s with opn := s.colls.length, colls := s.colls ++ [⟨x.data % 256, 0, s.opn⟩] }) := by
     rw [hE', if_neg hd, List.eq_nil_of_length_eq_zero hu0]; rfl
    rw [hu0] at h
    go_upto_region 76 with (fail)
    refine wp_at (fun W2 => Kept W W2 ∧ W2.heap[W.heap.size]? = some (.cells #[.int .u8 (x.data % 256), .int .u32 0, .int .i64 s.opn] 68 (0, 0))) ⟨by go_grown, heap_at _ rfl⟩ (fun W2 hW2 => ?_)
    obtain ⟨hk2, hc2⟩ := hW2
    have h2' := h.kept hk2
    have hMl2 := heap_lt h2'.md.bm
    have hcl2 := heap_lt hc2
    have hm1 : W2.cell? ⟨M, 1, none⟩ = some (.slice A8 s.colls.length c8) := cell_heap h2'.md.bm (o := 1) rfl
    have z0 : W2.cell? ⟨W.heap.size, 0, none⟩ = some (.int .u8 (x.data % 256)) := cell_heap hc2 (o := 0) rfl
    have z1 : W2.cell? ⟨W.heap.size, 1, none⟩ = some (.int .u32 0) := cell_heap hc2 (o := 1) rfl
    have z2 : W2.cell? ⟨W.heap.size, 2, none⟩ = some (.int .i64 s.opn) := cell_heap hc2 (o := 2) rfl
    clear hc2
    go_wp2_with (at_builtin; go_must (refine wpList_append_el (T := coT) rfl (.tmp 222) (.tmp 224) 38 rfl base 68 i1 _ 16 Try.underlying38 hi1 hz0 hz1 hz2 rfl (by decide) _ s.colls.length s.colls (by rfl) (h2'.md.cs.alloc _) W2.heap.size _ _ ⟨x.data % 256, 0, s.opn⟩ (by rfl) (heap_at _ rfl) ⟨rfl, trivial⟩ (by simp [Value.oneCell']) (by unfold maxLen; omega) (by omega) (Nat.le_trans h2'.hb (by simp)) ?_); intro g cap w4 hown4 hg4 hb4 hat4 hlt4; have bm4 := heap_grown hg4 (heap_past h2'.md.bm) (fun e => h2'.md.cs.not_at h2'.md.low.1 e.symm); have mm1 := cell_heap bm4 (o := 1) rfl; have mf1 := frozen_heap bm4 (o := 1); have ml4 := heap_lt bm4)
    have hkW : Kept W2 (W2.alloc (.cells #[.int .u8 (x.data % 256), .int .u32 0, .int .i64 s.opn] 68)) := (Below.refl _ _).alloc (Nat.le_refl _) _
    have h9 := ((h2'.kept hkW).csTo (v' := .slice (some ⟨g, 0, none⟩) (s.colls.length + 1) cap) hg4 (by rw [List.length_append]; exact hown4) (hat4.elim (fun e => .inr (.inl e.symm)) (fun e => .inr (.inr (by rw [e]; rfl))))).same (s' := { s with opn := s.colls.length, colls := s.colls ++ [⟨x.data % 256, 0, s.opn⟩] }) rfl rfl rfl rfl rfl rfl
    refine hN _ _ vs _ vf _ _ (hF) (frame_end rfl rfl rfl rfl rfl rfl rfl rfl rfl rfl rfl rfl) (h9) ((((FrM.kept hk2 h.hb).trans (FrM.kept hkW h2'.hb)).trans (FrM.below hb4)).trans (FrM.setM 1 _))
   ·obtain ⟨u0, b, off, cs, hy, rfl, hbb, ⟨rfl, _⟩, hcs⟩ := h.md.us.sl.at (show 0 < s.usages.length by omega)
    have hhd : s.usages.headD 0 = u0 := by
     cases hl : s.usages with
     | nil => rw [hl] at hu0; exact absurd rfl hu0
     | cons a l => rw [hl] at hy; injection hy
    have hF : effS s x = (0, { s with opn := s.colls.length, colls := s.colls ++ [⟨x.data % 256, u0, s.opn⟩] }) := by
     rw [hE', if_neg hd, hhd]
    have hu1 : decide (0 < (s.usages.length : Int)) = true := decide_eq_true (by omega)
    have hu2 : 0 < (s.usages.length : Int) := by omega
    have q0 : W.cell? ⟨b, off, none⟩ = some (.int .u32 u0) := by simpa using hcs 0 _ rfl
    have hbl : b < W.heap.size := hbb
    clear hcs hy hhd
    go_upto_region 76 with (fail)
    refine wp_at (fun W2 => Kept W W2 ∧ W2.heap[W.heap.size]? = some (.cells #[.int .u8 (x.data % 256), .int .u32 u0, .int .i64 s.opn] 68 (0, 0))) ⟨by go_grown, heap_at _ rfl⟩ (fun W2 hW2 => ?_)
    obtain ⟨hk2, hc2⟩ := hW2
    have h2' := h.kept hk2
    have hMl2 := heap_lt h2'.md.bm
    have hcl2 := heap_lt hc2
    have hm1 : W2.cell? ⟨M, 1, none⟩ = some (.slice A8 s.colls.length c8) := cell_heap h2'.md.bm (o := 1) rfl
    have z0 : W2.cell? ⟨W.heap.size, 0, none⟩ = some (.int .u8 (x.data % 256)) := cell_heap hc2 (o := 0) rfl
    have z1 : W2.cell? ⟨W.heap.size, 1, none⟩ = some (.int .u32 u0) := cell_heap hc2 (o := 1) rfl
    have z2 : W2.cell? ⟨W.heap.size, 2, none⟩ = some (.int .i64 s.opn) := cell_heap hc2 (o := 2) rfl
    clear hc2
    go_wp2_with (at_builtin; go_must (refine wpList_append_el (T := coT) rfl (.tmp 222) (.tmp 224) 38 rfl base 68 i1 _ 16 Try.underlying38 hi1 hz0 hz1 hz2 rfl (by decide) _ s.colls.length s.colls (by rfl) (h2'.md.cs.alloc _) W2.heap.size _ _ ⟨x.data % 256, u0, s.opn⟩ (by rfl) (heap_at _ rfl) ⟨rfl, trivial⟩ (by simp [Value.oneCell']) (by unfold maxLen; omega) (by omega) (Nat.le_trans h2'.hb (by simp)) ?_); intro g cap w4 hown4 hg4 hb4 hat4 hlt4; have bm4 := heap_grown hg4 (heap_past h2'.md.bm) (fun e => h2'.md.cs.not_at h2'.md.low.1 e.symm); have mm1 := cell_heap bm4 (o := 1) rfl; have mf1 := frozen_heap bm4 (o := 1); have ml4 := heap_lt bm4)
    have hkW : Kept W2 (W2.alloc (.cells #[.int .u8 (x.data % 256), .int .u32 u0, .int .i64 s.opn] 68)) := (Below.refl _ _).alloc (Nat.le_refl _) _
    have h9 := ((h2'.kept hkW).csTo (v' := .slice (some ⟨g, 0, none⟩) (s.colls.length + 1) cap) hg4 (by rw [List.length_append]; exact hown4) (hat4.elim (fun e => .inr (.inl e.symm)) (fun e => .inr (.inr (by rw [e]; rfl))))).same (s' := { s with opn := s.colls.length, colls := s.colls ++ [⟨x.data % 256, u0, s.opn⟩] }) rfl rfl rfl rfl rfl rfl
    refine hN _ _ vs _ vf _ _ (hF) (frame_end rfl rfl rfl rfl rfl rfl rfl rfl rfl rfl rfl rfl) (h9) ((((FrM.kept hk2 h.hb).trans (FrM.kept hkW h2'.hb)).trans (FrM.below hb4)).trans (FrM.setM 1 _))
 ·have hv' : decide (cc = 10) = false := decide_eq_false hv
  go_upto_region 78 with (fail)
  refine sw_78 hcc (frame_item rfl rfl rfl rfl rfl rfl rfl rfl rfl rfl rfl rfl rfl rfl rfl rfl) h hs hw hok hN hE hP ?_ _ ?_
  ·intro u hu
   rcases List.mem_cons.1 hu with rfl | hu
   ·exact hv
   ·exact hne u hu
  all_goals assumption
end Go.Proofs.Ytegdigfcgeoboaa
