/- The law of the chapter on reports, part 31: Lf Lg. -/
import Derived.Test.YtegdigfcgeoboaaK30
set_option maxHeartbeats 16000000
set_option linter.unusedVariables false
set_option linter.unusedSimpArgs false
set_option linter.unusedSectionVars false
namespace Go.Proofs.Ytegdigfcgeoboaa
open Go.RowKit
attribute [local go_sem ↓] Go.wp_at_zero Go.wp_at_succ
variable {u0 u1 u2 u8 u9 gI kI gJ jY eG eH u16 eE eF dX dY dZ eA eB eC eD eI eJ eK eL eM eN u32 eO eP iN iO iP iQ iR fK iS iT iU iV iW iX gK gL gM gN gO gP gQ gR gS gT iY iZ jA jB jC jD jE u64 jF jG jH jJ jK jL jM jN jO jP jQ jR jZ kE kF kG kH jS jT jU jV jW jX kJ kK kM kN kO kP kQ kR kS kT kU kV aK aG aA aB aC aD aE aF aH aI aJ aL bC bD bE bF bG bH bI bJ bK bL aR aM aN aO aP aQ aS aT aU aV aW aX aY aZ bA bM bN bP bQ : Value}
set_option maxRecDepth 1000000 in
theorem lim_3a {B : Nat} {w W : World} {P : Nat} {n : Int} {v0 v1 v2 v3 v4 v5 v6 : Value} (hn : -1 ≤ n ∧ n ≤ 1) (hk : Kept w W) (hPw : w.heap.size ≤ P) (hP : W.heap[P]? = some (.cells #[v0, v1, v2, v3, v4] 48 (0, 0)))
  (h5 : PartIs P B W v5 headL) (h6 : PartIs P B W v6 endL) (hPB : P < B) (hBW : B ≤ W.heap.size) (p0 : PartIs P B W v0 (partL n 0)) (p1 : PartIs P B W v1 (partL n 1)) (hv2 : v2 = .slice none 0 0) (hv3 : v3 = .slice none 0 0) (hv4 : v4 = .slice none 0 0)
  (K : Act → World → Prop) (hK : ∀ a w', Code.wp Try.prog (restC code14) (bodyPost Try.prog Try.f5 fun e w' => e = .returned (.bool true) ∧ Kept w w') a w' → K a w') :
  Code.wp Try.prog (headC code14) (Exit.then K (bodyPost Try.prog Try.f5 fun e w' => e = .returned (.bool true) ∧ Kept w w')) ⟨#[u0, u1, u2, .int .i64 n, .bool (decide (0 < n)), v5, v6, .pointer (some ⟨P, 0, none⟩), u8, u9, gI, kI, gJ, jY, eG, eH, u16, eE, eF, dX, dY, dZ, eA, eB, eC, eD, eI, eJ, eK, eL, eM, eN, u32, eO, eP, iN, iO, iP, iQ, iR, fK, iS, iT, iU, iV, iW, iX, gK, gL, gM, gN, gO, gP, gQ, gR, gS, gT, iY, iZ, jA, jB, jC, jD, jE, u64, jF, jG, jH, jJ, jK, jL, jM, jN, jO, jP, jQ, jR, jZ, kE, kF, kG, kH, jS, jT, jU, jV, jW, jX, kJ, kK, kM, kN, kO, kP, kQ, kR, kS, kT, kU, kV, aK, aG, aA, aB, aC, aD, aE, aF, aH, aI, aJ, aL, bC, bD, bE, bF, bG, bH, bI, bJ, bK, bL, aR, aM, aN, aO, aP, aQ, aS, aT, aU, aV, aW, aX, aY, aZ, bA, bM, bN, bP, bQ], []⟩ W := by
 conv => arg 2; whnf
 conv at hK => enter [a, w', 1, 2]; whnf
 dsimp only
 subst hv2
 subst hv3
 subst hv4
 obtain ⟨i29, hi29, hz0, hz1, hz2⟩ := info_parts info29
 obtain ⟨hn1, hn2⟩ := hn
 have Hk := hide hk
 clear hk
 replace h5 := h5.mono hBW
 replace h6 := h6.mono hBW
 replace p0 := p0.mono hBW
 replace p1 := p1.mono hBW
 clear hPB hBW
 have hPB := heap_lt hP
 have hBW := Nat.le_refl W.heap.size
 obtain ⟨y0, hy0⟩ : ∃ y, iI 2 1 1 = y := ⟨_, rfl⟩
 have hit0 := item17i 2 1 1 (by omega) (by omega) y0 hy0
 obtain ⟨y1, hy1⟩ : ∃ y, iI 2 2 (512 + n) = y := ⟨_, rfl⟩
 have hit1 := item17i 2 2 (512 + n) (by omega) (by omega) y1 hy1
 have Hok : Hid (∀ x ∈ [y0, y1], x.ok) := hide (by
  intro x hx
  simp at hx
  rcases hx with rfl | rfl
  ·rw [← hy0]; exact iI_ok (by decide) (by decide)
  ·rw [← hy1]; exact iI_ok (by decide) (by decide))
 have Hy0 := hide hy0
 have Hy1 := hide hy1
 clear hy0 hy1
 have hw : IntKind.i64.wrap (512 + n) = 512 + n := by rw [IntKind.wrap_i64]; omega
 have HP := hide hP
 have c2 : W.cell? ⟨P, 2, none⟩ = some (.slice none 0 0) := cell_heap hP (o := 2) rfl
 have f2 := frozen_heap hP (o := 2)
 clear hP
 go_wp2_with fail
 go_at_call 17
 refine (hit0 _).mono ?_
 rintro e w1 ⟨rfl, hk1⟩
 go_wp2_with fail
 go_at_call 17
 refine (hit1 _).mono ?_
 rintro e w2 ⟨rfl, hk2⟩
 have k2 : Kept W w2 := hk1.trans' hk2
 have hP2 := heap_kept k2 HP.out
 have hPl2 := heap_lt hP2
 have d2 : w2.cell? ⟨P, 2, none⟩ = some (.slice none 0 0) := cell_heap hP2 (o := 2) rfl
 have g2 := frozen_heap hP2 (o := 2)
 clear hit0 hit1 hk1 hk2 c2 f2
 go_upto_region 15 with (fail)
 refine wp_at (fun W3 => W3.heap[P]? = some (.cells #[v0, v1, .slice (some ⟨w2.heap.size, 0, none⟩) 2 2, .slice none 0 0, .slice none 0 0] 48 (0, 0)) ∧ KeptTo P W.heap.size W W3 ∧ PartIs P W3.heap.size W3 (.slice (some ⟨w2.heap.size, 0, none⟩) 2 2) (partL n 2)) ?_ (fun W3 hW3 => ?_)
 ·have hz2 := k2.size
  have kb : Kept W (w2.alloc (.cells #[.int .u8 y0.ty, .int .u8 y0.tg, .int .i64 y0.size, .int .u32 y0.data, .int .u8 y1.ty, .int .u8 y1.tg, .int .i64 y1.size, .int .u32 y1.data] 29)) := k2.alloc hz2 _
  have hPX := heap_kept kb HP.out
  have hkt := (KeptTo.of (P := P) kb (Nat.le_refl _)).trans (KeptTo.set (P := P) 2 (.slice (some ⟨w2.heap.size, 0, none⟩) 2 2))
  refine ⟨by first | exact heap_store (i := 2) hPX _ | exact heap_past (heap_store (i := 2) hP2 _), by first | exact hkt | exact ((KeptTo.of (P := P) k2 (Nat.le_refl _)).trans (KeptTo.set (P := P) 2 (.slice (some ⟨w2.heap.size, 0, none⟩) 2 2))).trans (KeptTo.of ((Below.refl _ _).alloc (Nat.le_refl _) _) (by simp only [World.size_setCell]; exact hz2)), ?_⟩
  have e : [y0, y1] = partL n 2 := by rw [← Hy0.out, ← Hy1.out]; rfl
  rw [← e]
  refine ⟨some ⟨w2.heap.size, 0, none⟩, 2, rfl, Nat.le_refl _, by decide, ?_⟩
  refine sl_it_heap (cs := #[.int .u8 y0.ty, .int .u8 y0.tg, .int .i64 y0.size, .int .u32 y0.data, .int .u8 y1.ty, .int .u8 y1.tg, .int .i64 y1.size, .int .u32 y1.data]) (t := 29) ?_ rfl Hok.out ⟨by simp, by omega⟩
  first | exact heap_other (heap_at _ rfl) (by show w2.heap.size ≠ P; omega) | exact heap_at _ (by simp)
 obtain ⟨hP3, hkt, h2⟩ := hW3
 refine lim_3 (B := W3.heap.size) ⟨hn1, hn2⟩ (hkt.kept Hk.out hPw hPB) hPw hP3 ((h5.keep hkt).mono hkt.size) ((h6.keep hkt).mono hkt.size) (Nat.lt_of_lt_of_le hPB hkt.size) (Nat.le_refl _) ((p0.keep hkt).mono hkt.size) ((p1.keep hkt).mono hkt.size) h2 rfl rfl _ _ ?_ ?_ <;> assumption
noncomputable def code5 : Code := (Try.f5.body.bind (fromR 5)).getD .skip
noncomputable def codeLb : Code := restC (restC code5)
set_option maxRecDepth 1000000 in
theorem lim_2 {B : Nat} {w W : World} {P : Nat} {n : Int} {v0 v1 v2 v3 v4 v5 v6 : Value} (hn : -1 ≤ n ∧ n ≤ 1) (hk : Kept w W) (hPw : w.heap.size ≤ P) (hP : W.heap[P]? = some (.cells #[v0, v1, v2, v3, v4] 48 (0, 0)))
  (h5 : PartIs P B W v5 headL) (h6 : PartIs P B W v6 endL) (hPB : P < B) (hBW : B ≤ W.heap.size) (p0 : PartIs P B W v0 (partL n 0)) (hv1 : v1 = .slice none 0 0) (hv2 : v2 = .slice none 0 0) (hv3 : v3 = .slice none 0 0) (hv4 : v4 = .slice none 0 0)
  (K K2 : Act → World → Prop) (hK : ∀ a w', Code.wp Try.prog (restC (headC codeLb)) (Exit.then K2 (bodyPost Try.prog Try.f5 fun e w' => e = .returned (.bool true) ∧ Kept w w')) a w' → K a w') (hK2 : ∀ a w', Code.wp Try.prog (restC codeLb) (bodyPost Try.prog Try.f5 fun e w' => e = .returned (.bool true) ∧ Kept w w') a w' → K2 a w') :
  Code.wp Try.prog (headC (headC codeLb)) (Exit.then K (Exit.then K2 (bodyPost Try.prog Try.f5 fun e w' => e = .returned (.bool true) ∧ Kept w w'))) ⟨#[u0, u1, u2, .int .i64 n, .bool (decide (0 < n)), v5, v6, .pointer (some ⟨P, 0, none⟩), u8, u9, gI, kI, gJ, jY, eG, eH, u16, eE, eF, dX, dY, dZ, eA, eB, eC, eD, eI, eJ, eK, eL, eM, eN, u32, eO, eP, iN, iO, iP, iQ, iR, fK, iS, iT, iU, iV, iW, iX, gK, gL, gM, gN, gO, gP, gQ, gR, gS, gT, iY, iZ, jA, jB, jC, jD, jE, u64, jF, jG, jH, jJ, jK, jL, jM, jN, jO, jP, jQ, jR, jZ, kE, kF, kG, kH, jS, jT, jU, jV, jW, jX, kJ, kK, kM, kN, kO, kP, kQ, kR, kS, kT, kU, kV, aK, aG, aA, aB, aC, aD, aE, aF, aH, aI, aJ, aL, bC, bD, bE, bF, bG, bH, bI, bJ, bK, bL, aR, aM, aN, aO, aP, aQ, aS, aT, aU, aV, aW, aX, aY, aZ, bA, bM, bN, bP, bQ], []⟩ W := by
 conv => arg 2; whnf
 conv at hK => enter [a, w', 1, 2]; whnf
 conv at hK2 => enter [a, w', 1, 2]; whnf
 dsimp only
 subst hv1
 subst hv2
 subst hv3
 subst hv4
 obtain ⟨i29, hi29, hz0, hz1, hz2⟩ := info_parts info29
 obtain ⟨hn1, hn2⟩ := hn
 have Hk := hide hk
 clear hk
 replace h5 := h5.mono hBW
 replace h6 := h6.mono hBW
 replace p0 := p0.mono hBW
 clear hPB hBW
 have hPB := heap_lt hP
 have hBW := Nat.le_refl W.heap.size
 have HL0 : Hid (([] : List It).length ≤ 1000) := hide (by decide)
 have own : Own itT 29 W.heap.size W (.slice none 0 0) ([] : List It).length [] := Own.nil _ _ _ _
 obtain ⟨y0, hy0⟩ : ∃ y, iI 0 10 0 = y := ⟨_, rfl⟩
 have hit0 := item17i 0 10 0 (by omega) (by omega) y0 hy0
 obtain ⟨y1, hy1⟩ : ∃ y, iI 0 12 0 = y := ⟨_, rfl⟩
 have hit1 := item17i 0 12 0 (by omega) (by omega) y1 hy1
 have Hok : Hid (∀ x ∈ [y0, y1], x.ok) := hide (by
  intro x hx
  simp at hx
  rcases hx with rfl | rfl
  ·rw [← hy0]; exact iI_ok (by decide) (by decide)
  ·rw [← hy1]; exact iI_ok (by decide) (by decide))
 have Hy0 := hide hy0
 have Hy1 := hide hy1
 clear hy0 hy1
 obtain ⟨NN, hNN⟩ : ∃ NN : Nat, (63 + n).toNat = NN := ⟨_, rfl⟩
 have hNI : 63 + n = (NN : Int) := by rw [← hNN]; omega
 have HNN := hide hNN
 have hNN3 : NN ≤ 300 := by rw [← hNN]; omega
 clear hNN
 have hwr : IntKind.i64.wrap (63 + n) = (NN : Int) := by rw [← hNI, IntKind.wrap_i64]; omega
 go_wp2_with fail
 go_loopg [9] NN (fun g sc wr => ∃ (i : Nat) (v : Value), i + g = NN ∧ sc = .int .i64 i ∧ wr.heap[P]? = some (.cells #[v0, v, .slice none 0 0, .slice none 0 0, .slice none 0 0] 48 (0, 0)) ∧ Own itT 29 W.heap.size wr v (([] : List It) ++ repL i [y0, y1]).length (([] : List It) ++ repL i [y0, y1]) ∧ KeptTo P W.heap.size W wr)
 case atStart => exact ⟨0, _, by omega, rfl, hP, by rw [show repL 0 [y0, y1] = [] from rfl, List.append_nil]; exact own, KeptTo.refl⟩
 case round =>
  obtain ⟨i, v, hi, rfl, hPr0, hown, hkt⟩ := hrel
  have Hi := hide hi
  have HPr := hide hPr0
  have hPr := heap_lt hPr0
  have hcr : wr.cell? ⟨P, 1, none⟩ = some v := cell_heap hPr0 (o := 1) rfl
  have hBr : W.heap.size ≤ wr.heap.size := Nat.le_trans hBW hkt.size
  clear hi hPr0
  by_cases hlt : i < NN
  ·have hi0 : (0 : Int) ≤ (i : Int) := by omega
   have hlt' : (i : Int) < (NN : Int) := by omega
   have hln0 : (([] : List It) ++ repL i [y0, y1]).length ≤ 5000 := by rw [List.length_append, repL_len]; have h3 : i * [y0, y1].length ≤ 900 := (by show i * 2 ≤ 900; omega); have h4 := HL0.out; omega
   obtain ⟨X, hX⟩ : ∃ X, ([] : List It) ++ repL i [y0, y1] = X := ⟨_, rfl⟩
   rw [hX] at hown hln0
   obtain ⟨ln, hln⟩ : ∃ ln, X.length = ln := ⟨_, rfl⟩
   rw [hln] at hown hln0
   have HX := hide hX
   have Hln := hide hln
   clear hX hln
   go_wp2_with fail
   refine wp_region_held_drew (S := fun _ => True ∧ True) (by kernel_rfl) ⟨trivial, trivial⟩ (fun hS => ?_)
   refine tk0 (i := 0) (v := ?_) rfl (by kernel_rfl) hS ?_ ?_
   rotate_left
   ·intro w' hq hq2; first | (go_simp; done) | (go_simp; with_reducible rfl)
   try simp only [Act.put, zp1, zp2, zp3, zp4, zp5, zp6]
   refine wpAnyH_ready (rs := [1, 2]) (by kernel_rfl) (by simp) ?_
   refine (AllReadyH.cons rfl (fun K hK => ?_) (AllReadyH.cons rfl (fun K hK => ?_) AllReadyH.nil))
   ·go_simp
    try dsimp only
    refine hK.out _ _ ?_ (fun hS => ?_)
    ·exact hS
    clear hK K
    try simp only [Act.put, zp1, zp2, zp3, zp4, zp5, zp6]
    refine wpAnyH_ready (rs := [2]) (by kernel_rfl) (by simp) ?_
    refine (AllReadyH.cons rfl (fun K hK => ?_) AllReadyH.nil)
    go_simp
    go_at_call 17
    refine (hit0 _).mono ?_
    rintro e w0 ⟨rfl, hk0⟩
    try dsimp only
    refine hK.out _ _ ?_ (fun hS => ?_)
    ·exact hS
    clear hK K
    try simp only [Act.put, zp1, zp2, zp3, zp4, zp5, zp6]
    have kk0 : Kept wr w0 := Kept.trans' (((Below.refl wr.heap.size wr).drew)) hk0
    have ce0 : w0.cell? ⟨P, 1, none⟩ = some v := (kk0.cell (p := ⟨P, 1, none⟩) hPr).trans hcr
    have lz0 : P < w0.heap.size := Nat.lt_of_lt_of_le hPr kk0.size
    refine wpAnyH_ready (rs := [3]) (by kernel_rfl) (by simp) ?_
    refine (AllReadyH.cons rfl (fun K hK => ?_) AllReadyH.nil)
    go_simp
    go_at_call 17
    refine (hit1 _).mono ?_
    rintro e w1 ⟨rfl, hk1⟩
    try dsimp only
    refine hK.out _ _ ?_ (fun hS => ?_)
    ·exact hS
    clear hK K
    try simp only [Act.put, zp1, zp2, zp3, zp4, zp5, zp6]
    have kk1 : Kept wr w1 := Kept.trans' (kk0) hk1
    have ce1 : w1.cell? ⟨P, 1, none⟩ = some v := (kk1.cell (p := ⟨P, 1, none⟩) hPr).trans hcr
    have lz1 : P < w1.heap.size := Nat.lt_of_lt_of_le hPr kk1.size
    refine wpAnyH_ready (rs := [4]) (by kernel_rfl) (by simp) ?_
    refine (AllReadyH.cons rfl (fun K hK => ?_) AllReadyH.nil)
    go_simp
    try dsimp only
    refine hK.out _ _ ?_ (fun hS => ?_)
    ·exact hS
    clear hK K
    try simp only [Act.put, zp1, zp2, zp3, zp4, zp5, zp6]
    refine wpAnyH_ready (rs := [5]) (by kernel_rfl) (by simp) ?_
    refine (AllReadyH.cons rfl (fun K hK => ?_) AllReadyH.nil)
    have kkb : Kept wr (w1.alloc (.cells #[.int .u8 y0.ty, .int .u8 y0.tg, .int .i64 y0.size, .int .u32 y0.data, .int .u8 y1.ty, .int .u8 y1.tg, .int .i64 y1.size, .int .u32 y1.data] 29)) := kk1.alloc kk1.size _
    have hownB := hown.kept kkb
    have hnew : Sl itT (w1.alloc (.cells #[.int .u8 y0.ty, .int .u8 y0.tg, .int .i64 y0.size, .int .u32 y0.data, .int .u8 y1.ty, .int .u8 y1.tg, .int .i64 y1.size, .int .u32 y1.data] 29)) (apart (w1.alloc (.cells #[.int .u8 y0.ty, .int .u8 y0.tg, .int .i64 y0.size, .int .u32 y0.data, .int .u8 y1.ty, .int .u8 y1.tg, .int .i64 y1.size, .int .u32 y1.data] 29)) v) (some ⟨w1.heap.size, 0, none⟩) 2 [y0, y1] := sl_it_heap (heap_at _ rfl) rfl Hok.out ⟨by simp, fun e => by have h1 := (hown.lt e).2; have h2 := kk1.size; omega⟩
    refine step_append_sl (T := itT) rfl (.tmp 52) (.tmp 55) 22 rfl W.heap.size 29 i29 _ 24 Try.underlying22 hi29 hz0 hz1 hz2 rfl (show 0 < 4 by decide) v ln X (by rfl) hownB (some ⟨w1.heap.size, 0, none⟩) 2 2 [y0, y1] (by rfl) hnew (by_one29 _ _) (by unfold maxLen; omega) (by omega) (Nat.le_trans hBr kkb.size) ?_
    intro u7 x7 hown7 hg7 hb7 hat7
    obtain ⟨Au, cu, rfl, hu1, hu2⟩ := hown7.isSlice
    clear hu1 hu2
    have hP7 := (hb7.block P hPB).trans (heap_kept kkb HPr.out)
    have cz7 : x7.cell? ⟨P, 1, none⟩ = some v := cell_heap hP7 (o := 1) rfl
    have fz7 := frozen_heap hP7 (o := 1)
    have lz7 := heap_lt hP7
    refine hK.out _ _ ?_ (fun hS => ?_)
    ·exact hS
    clear hK K
    try simp only [Act.put, zp1, zp2, zp3, zp4, zp5, zp6]
    refine tk0 (i := 6) (v := ?_) rfl (by kernel_rfl) hS ?_ ?_
    rotate_left
    ·intro w' hq hq2; first | (go_simp; done) | (go_simp; with_reducible rfl)
    try simp only [Act.put, zp1, zp2, zp3, zp4, zp5, zp6]
    refine wpAnyH_ready (rs := [7]) (by kernel_rfl) (by simp) ?_
    refine (AllReadyH.cons rfl (fun K hK => ?_) AllReadyH.nil)
    go_simp
    try dsimp only
    refine hK.out _ _ ?_ (fun hS => ?_)
    ·exact hS
    clear hK K
    try simp only [Act.put, zp1, zp2, zp3, zp4, zp5, zp6]
    refine wpAnyH_done (by kernel_rfl) ?_ _
    have hkt7 := hkt.trans ((KeptTo.of kkb hBr).trans ((KeptTo.below hb7).trans (KeptTo.set (P := P) 1 (.slice Au (ln + 2) cu))))
    have hP8 := heap_store (i := 1) hP7 (.slice Au (ln + 2) cu)
    have hown8 := hown7.setCell (fun h => h) (p := ⟨P, 1, none⟩) hPB (.slice Au (ln + 2) cu)
    clear hS cz7 fz7 hown7 hb7 hg7 hat7 hP7 hownB hnew
    go_wp2_with fail
    go_roundg (gk - 1)
    case measure => have := Hi.out; omega
    case rel =>
     refine ⟨i + 1, _, by have := Hi.out; omega, by go_num, hP8, ?_, hkt7⟩
     have e : ([] : List It) ++ repL (i + 1) [y0, y1] = X ++ [y0, y1] := by rw [repL_succ, ← List.append_assoc, HX.out]
     have e2 : (([] : List It) ++ repL (i + 1) [y0, y1]).length = ln + 2 := by rw [e, List.length_append, Hln.out]; rfl
     rw [e2, e]
     exact hown8
   ·go_simp
    go_at_call 17
    refine (hit0 _).mono ?_
    rintro e w0 ⟨rfl, hk0⟩
    try dsimp only
    refine hK.out _ _ ?_ (fun hS => ?_)
    ·exact hS
    clear hK K
    try simp only [Act.put, zp1, zp2, zp3, zp4, zp5, zp6]
    have kk0 : Kept wr w0 := Kept.trans' (((Below.refl wr.heap.size wr).drew)) hk0
    have ce0 : w0.cell? ⟨P, 1, none⟩ = some v := (kk0.cell (p := ⟨P, 1, none⟩) hPr).trans hcr
    have lz0 : P < w0.heap.size := Nat.lt_of_lt_of_le hPr kk0.size
    refine wpAnyH_ready (rs := [1, 3]) (by kernel_rfl) (by simp) ?_
    refine (AllReadyH.cons rfl (fun K hK => ?_) (AllReadyH.cons rfl (fun K hK => ?_) AllReadyH.nil))
    ·go_simp
     try dsimp only
     refine hK.out _ _ ?_ (fun hS => ?_)
     ·exact hS
     clear hK K
     try simp only [Act.put, zp1, zp2, zp3, zp4, zp5, zp6]
     refine wpAnyH_ready (rs := [3]) (by kernel_rfl) (by simp) ?_
     refine (AllReadyH.cons rfl (fun K hK => ?_) AllReadyH.nil)
     go_simp
     go_at_call 17
     refine (hit1 _).mono ?_
     rintro e w1 ⟨rfl, hk1⟩
     try dsimp only
     refine hK.out _ _ ?_ (fun hS => ?_)
     ·exact hS
     clear hK K
     try simp only [Act.put, zp1, zp2, zp3, zp4, zp5, zp6]
     have kk1 : Kept wr w1 := Kept.trans' (kk0) hk1
     have ce1 : w1.cell? ⟨P, 1, none⟩ = some v := (kk1.cell (p := ⟨P, 1, none⟩) hPr).trans hcr
     have lz1 : P < w1.heap.size := Nat.lt_of_lt_of_le hPr kk1.size
     refine wpAnyH_ready (rs := [4]) (by kernel_rfl) (by simp) ?_
     refine (AllReadyH.cons rfl (fun K hK => ?_) AllReadyH.nil)
     go_simp
     try dsimp only
     refine hK.out _ _ ?_ (fun hS => ?_)
     ·exact hS
     clear hK K
     try simp only [Act.put, zp1, zp2, zp3, zp4, zp5, zp6]
     refine wpAnyH_ready (rs := [5]) (by kernel_rfl) (by simp) ?_
     refine (AllReadyH.cons rfl (fun K hK => ?_) AllReadyH.nil)
     have kkb : Kept wr (w1.alloc (.cells #[.int .u8 y0.ty, .int .u8 y0.tg, .int .i64 y0.size, .int .u32 y0.data, .int .u8 y1.ty, .int .u8 y1.tg, .int .i64 y1.size, .int .u32 y1.data] 29)) := kk1.alloc kk1.size _
     have hownB := hown.kept kkb
     have hnew : Sl itT (w1.alloc (.cells #[.int .u8 y0.ty, .int .u8 y0.tg, .int .i64 y0.size, .int .u32 y0.data, .int .u8 y1.ty, .int .u8 y1.tg, .int .i64 y1.size, .int .u32 y1.data] 29)) (apart (w1.alloc (.cells #[.int .u8 y0.ty, .int .u8 y0.tg, .int .i64 y0.size, .int .u32 y0.data, .int .u8 y1.ty, .int .u8 y1.tg, .int .i64 y1.size, .int .u32 y1.data] 29)) v) (some ⟨w1.heap.size, 0, none⟩) 2 [y0, y1] := sl_it_heap (heap_at _ rfl) rfl Hok.out ⟨by simp, fun e => by have h1 := (hown.lt e).2; have h2 := kk1.size; omega⟩
     refine step_append_sl (T := itT) rfl (.tmp 52) (.tmp 55) 22 rfl W.heap.size 29 i29 _ 24 Try.underlying22 hi29 hz0 hz1 hz2 rfl (show 0 < 4 by decide) v ln X (by rfl) hownB (some ⟨w1.heap.size, 0, none⟩) 2 2 [y0, y1] (by rfl) hnew (by_one29 _ _) (by unfold maxLen; omega) (by omega) (Nat.le_trans hBr kkb.size) ?_
     intro u7 x7 hown7 hg7 hb7 hat7
     obtain ⟨Au, cu, rfl, hu1, hu2⟩ := hown7.isSlice
     clear hu1 hu2
     have hP7 := (hb7.block P hPB).trans (heap_kept kkb HPr.out)
     have cz7 : x7.cell? ⟨P, 1, none⟩ = some v := cell_heap hP7 (o := 1) rfl
     have fz7 := frozen_heap hP7 (o := 1)
     have lz7 := heap_lt hP7
     refine hK.out _ _ ?_ (fun hS => ?_)
     ·exact hS
     clear hK K
     try simp only [Act.put, zp1, zp2, zp3, zp4, zp5, zp6]
     refine tk0 (i := 6) (v := ?_) rfl (by kernel_rfl) hS ?_ ?_
     rotate_left
     ·intro w' hq hq2; first | (go_simp; done) | (go_simp; with_reducible rfl)
     try simp only [Act.put, zp1, zp2, zp3, zp4, zp5, zp6]
     refine wpAnyH_ready (rs := [7]) (by kernel_rfl) (by simp) ?_
     refine (AllReadyH.cons rfl (fun K hK => ?_) AllReadyH.nil)
     go_simp
     try dsimp only
     refine hK.out _ _ ?_ (fun hS => ?_)
     ·exact hS
     clear hK K
     try simp only [Act.put, zp1, zp2, zp3, zp4, zp5, zp6]
     refine wpAnyH_done (by kernel_rfl) ?_ _
     have hkt7 := hkt.trans ((KeptTo.of kkb hBr).trans ((KeptTo.below hb7).trans (KeptTo.set (P := P) 1 (.slice Au (ln + 2) cu))))
     have hP8 := heap_store (i := 1) hP7 (.slice Au (ln + 2) cu)
     have hown8 := hown7.setCell (fun h => h) (p := ⟨P, 1, none⟩) hPB (.slice Au (ln + 2) cu)
     clear hS cz7 fz7 hown7 hb7 hg7 hat7 hP7 hownB hnew
     go_wp2_with fail
     go_roundg (gk - 1)
     case measure => have := Hi.out; omega
     case rel =>
      refine ⟨i + 1, _, by have := Hi.out; omega, by go_num, hP8, ?_, hkt7⟩
      have e : ([] : List It) ++ repL (i + 1) [y0, y1] = X ++ [y0, y1] := by rw [repL_succ, ← List.append_assoc, HX.out]
      have e2 : (([] : List It) ++ repL (i + 1) [y0, y1]).length = ln + 2 := by rw [e, List.length_append, Hln.out]; rfl
      rw [e2, e]
      exact hown8
    ·go_simp
     go_at_call 17
     refine (hit1 _).mono ?_
     rintro e w1 ⟨rfl, hk1⟩
     try dsimp only
     refine hK.out _ _ ?_ (fun hS => ?_)
     ·exact hS
     clear hK K
     try simp only [Act.put, zp1, zp2, zp3, zp4, zp5, zp6]
     have kk1 : Kept wr w1 := Kept.trans' (kk0) hk1
     have ce1 : w1.cell? ⟨P, 1, none⟩ = some v := (kk1.cell (p := ⟨P, 1, none⟩) hPr).trans hcr
     have lz1 : P < w1.heap.size := Nat.lt_of_lt_of_le hPr kk1.size
     refine wpAnyH_ready (rs := [1, 4]) (by kernel_rfl) (by simp) ?_
     refine (AllReadyH.cons rfl (fun K hK => ?_) (AllReadyH.cons rfl (fun K hK => ?_) AllReadyH.nil))
     ·go_simp
      try dsimp only
      refine hK.out _ _ ?_ (fun hS => ?_)
      ·exact hS
      clear hK K
      try simp only [Act.put, zp1, zp2, zp3, zp4, zp5, zp6]
      refine wpAnyH_ready (rs := [4]) (by kernel_rfl) (by simp) ?_
      refine (AllReadyH.cons rfl (fun K hK => ?_) AllReadyH.nil)
      go_simp
      try dsimp only
      refine hK.out _ _ ?_ (fun hS => ?_)
      ·exact hS
      clear hK K
      try simp only [Act.put, zp1, zp2, zp3, zp4, zp5, zp6]
      refine wpAnyH_ready (rs := [5]) (by kernel_rfl) (by simp) ?_
      refine (AllReadyH.cons rfl (fun K hK => ?_) AllReadyH.nil)
      have kkb : Kept wr (w1.alloc (.cells #[.int .u8 y0.ty, .int .u8 y0.tg, .int .i64 y0.size, .int .u32 y0.data, .int .u8 y1.ty, .int .u8 y1.tg, .int .i64 y1.size, .int .u32 y1.data] 29)) := kk1.alloc kk1.size _
      have hownB := hown.kept kkb
      have hnew : Sl itT (w1.alloc (.cells #[.int .u8 y0.ty, .int .u8 y0.tg, .int .i64 y0.size, .int .u32 y0.data, .int .u8 y1.ty, .int .u8 y1.tg, .int .i64 y1.size, .int .u32 y1.data] 29)) (apart (w1.alloc (.cells #[.int .u8 y0.ty, .int .u8 y0.tg, .int .i64 y0.size, .int .u32 y0.data, .int .u8 y1.ty, .int .u8 y1.tg, .int .i64 y1.size, .int .u32 y1.data] 29)) v) (some ⟨w1.heap.size, 0, none⟩) 2 [y0, y1] := sl_it_heap (heap_at _ rfl) rfl Hok.out ⟨by simp, fun e => by have h1 := (hown.lt e).2; have h2 := kk1.size; omega⟩
      refine step_append_sl (T := itT) rfl (.tmp 52) (.tmp 55) 22 rfl W.heap.size 29 i29 _ 24 Try.underlying22 hi29 hz0 hz1 hz2 rfl (show 0 < 4 by decide) v ln X (by rfl) hownB (some ⟨w1.heap.size, 0, none⟩) 2 2 [y0, y1] (by rfl) hnew (by_one29 _ _) (by unfold maxLen; omega) (by omega) (Nat.le_trans hBr kkb.size) ?_
      intro u7 x7 hown7 hg7 hb7 hat7
      obtain ⟨Au, cu, rfl, hu1, hu2⟩ := hown7.isSlice
      clear hu1 hu2
      have hP7 := (hb7.block P hPB).trans (heap_kept kkb HPr.out)
      have cz7 : x7.cell? ⟨P, 1, none⟩ = some v := cell_heap hP7 (o := 1) rfl
      have fz7 := frozen_heap hP7 (o := 1)
      have lz7 := heap_lt hP7
      refine hK.out _ _ ?_ (fun hS => ?_)
      ·exact hS
      clear hK K
      try simp only [Act.put, zp1, zp2, zp3, zp4, zp5, zp6]
      refine tk0 (i := 6) (v := ?_) rfl (by kernel_rfl) hS ?_ ?_
      rotate_left
      ·intro w' hq hq2; first | (go_simp; done) | (go_simp; with_reducible rfl)
      try simp only [Act.put, zp1, zp2, zp3, zp4, zp5, zp6]
      refine wpAnyH_ready (rs := [7]) (by kernel_rfl) (by simp) ?_
      refine (AllReadyH.cons rfl (fun K hK => ?_) AllReadyH.nil)
      go_simp
      try dsimp only
      refine hK.out _ _ ?_ (fun hS => ?_)
      ·exact hS
      clear hK K
      try simp only [Act.put, zp1, zp2, zp3, zp4, zp5, zp6]
      refine wpAnyH_done (by kernel_rfl) ?_ _
      have hkt7 := hkt.trans ((KeptTo.of kkb hBr).trans ((KeptTo.below hb7).trans (KeptTo.set (P := P) 1 (.slice Au (ln + 2) cu))))
      have hP8 := heap_store (i := 1) hP7 (.slice Au (ln + 2) cu)
      have hown8 := hown7.setCell (fun h => h) (p := ⟨P, 1, none⟩) hPB (.slice Au (ln + 2) cu)
      clear hS cz7 fz7 hown7 hb7 hg7 hat7 hP7 hownB hnew
      go_wp2_with fail
      go_roundg (gk - 1)
      case measure => have := Hi.out; omega
      case rel =>
       refine ⟨i + 1, _, by have := Hi.out; omega, by go_num, hP8, ?_, hkt7⟩
       have e : ([] : List It) ++ repL (i + 1) [y0, y1] = X ++ [y0, y1] := by rw [repL_succ, ← List.append_assoc, HX.out]
       have e2 : (([] : List It) ++ repL (i + 1) [y0, y1]).length = ln + 2 := by rw [e, List.length_append, Hln.out]; rfl
       rw [e2, e]
       exact hown8
     ·go_simp
      try dsimp only
      refine hK.out _ _ ?_ (fun hS => ?_)
      ·exact hS
      clear hK K
      try simp only [Act.put, zp1, zp2, zp3, zp4, zp5, zp6]
      refine wpAnyH_ready (rs := [1]) (by kernel_rfl) (by simp) ?_
      refine (AllReadyH.cons rfl (fun K hK => ?_) AllReadyH.nil)
      go_simp
      try dsimp only
      refine hK.out _ _ ?_ (fun hS => ?_)
      ·exact hS
      clear hK K
      try simp only [Act.put, zp1, zp2, zp3, zp4, zp5, zp6]
      refine wpAnyH_ready (rs := [5]) (by kernel_rfl) (by simp) ?_
      refine (AllReadyH.cons rfl (fun K hK => ?_) AllReadyH.nil)
      have kkb : Kept wr (w1.alloc (.cells #[.int .u8 y0.ty, .int .u8 y0.tg, .int .i64 y0.size, .int .u32 y0.data, .int .u8 y1.ty, .int .u8 y1.tg, .int .i64 y1.size, .int .u32 y1.data] 29)) := kk1.alloc kk1.size _
      have hownB := hown.kept kkb
      have hnew : Sl itT (w1.alloc (.cells #[.int .u8 y0.ty, .int .u8 y0.tg, .int .i64 y0.size, .int .u32 y0.data, .int .u8 y1.ty, .int .u8 y1.tg, .int .i64 y1.size, .int .u32 y1.data] 29)) (apart (w1.alloc (.cells #[.int .u8 y0.ty, .int .u8 y0.tg, .int .i64 y0.size, .int .u32 y0.data, .int .u8 y1.ty, .int .u8 y1.tg, .int .i64 y1.size, .int .u32 y1.data] 29)) v) (some ⟨w1.heap.size, 0, none⟩) 2 [y0, y1] := sl_it_heap (heap_at _ rfl) rfl Hok.out ⟨by simp, fun e => by have h1 := (hown.lt e).2; have h2 := kk1.size; omega⟩
      refine step_append_sl (T := itT) rfl (.tmp 52) (.tmp 55) 22 rfl W.heap.size 29 i29 _ 24 Try.underlying22 hi29 hz0 hz1 hz2 rfl (show 0 < 4 by decide) v ln X (by rfl) hownB (some ⟨w1.heap.size, 0, none⟩) 2 2 [y0, y1] (by rfl) hnew (by_one29 _ _) (by unfold maxLen; omega) (by omega) (Nat.le_trans hBr kkb.size) ?_
      intro u7 x7 hown7 hg7 hb7 hat7
      obtain ⟨Au, cu, rfl, hu1, hu2⟩ := hown7.isSlice
      clear hu1 hu2
      have hP7 := (hb7.block P hPB).trans (heap_kept kkb HPr.out)
      have cz7 : x7.cell? ⟨P, 1, none⟩ = some v := cell_heap hP7 (o := 1) rfl
      have fz7 := frozen_heap hP7 (o := 1)
      have lz7 := heap_lt hP7
      refine hK.out _ _ ?_ (fun hS => ?_)
      ·exact hS
      clear hK K
      try simp only [Act.put, zp1, zp2, zp3, zp4, zp5, zp6]
      refine tk0 (i := 6) (v := ?_) rfl (by kernel_rfl) hS ?_ ?_
      rotate_left
      ·intro w' hq hq2; first | (go_simp; done) | (go_simp; with_reducible rfl)
      try simp only [Act.put, zp1, zp2, zp3, zp4, zp5, zp6]
      refine wpAnyH_ready (rs := [7]) (by kernel_rfl) (by simp) ?_
      refine (AllReadyH.cons rfl (fun K hK => ?_) AllReadyH.nil)
      go_simp
      try dsimp only
      refine hK.out _ _ ?_ (fun hS => ?_)
      ·exact hS
      clear hK K
      try simp only [Act.put, zp1, zp2, zp3, zp4, zp5, zp6]
      refine wpAnyH_done (by kernel_rfl) ?_ _
      have hkt7 := hkt.trans ((KeptTo.of kkb hBr).trans ((KeptTo.below hb7).trans (KeptTo.set (P := P) 1 (.slice Au (ln + 2) cu))))
      have hP8 := heap_store (i := 1) hP7 (.slice Au (ln + 2) cu)
      have hown8 := hown7.setCell (fun h => h) (p := ⟨P, 1, none⟩) hPB (.slice Au (ln + 2) cu)
      clear hS cz7 fz7 hown7 hb7 hg7 hat7 hP7 hownB hnew
      go_wp2_with fail
      go_roundg (gk - 1)
      case measure => have := Hi.out; omega
      case rel =>
       refine ⟨i + 1, _, by have := Hi.out; omega, by go_num, hP8, ?_, hkt7⟩
       have e : ([] : List It) ++ repL (i + 1) [y0, y1] = X ++ [y0, y1] := by rw [repL_succ, ← List.append_assoc, HX.out]
       have e2 : (([] : List It) ++ repL (i + 1) [y0, y1]).length = ln + 2 := by rw [e, List.length_append, Hln.out]; rfl
       rw [e2, e]
       exact hown8
  ·have hge : (NN : Int) ≤ (i : Int) := by omega
   have hiN : i = NN := by have := Hi.out; omega
   subst hiN
   have hsz := hkt.size
   have h1 : PartIs P wr.heap.size wr v (partL n 1) := by
    have e : ([] : List It) ++ repL i [y0, y1] = partL n 1 := by rw [List.nil_append, ← HNN.out, ← Hy0.out, ← Hy1.out]; rfl
    rw [e] at hown
    exact PartIs.own hown hPB
   go_upto_region 14 with (fail)
   refine lim_3a (B := wr.heap.size) ⟨hn1, hn2⟩ (hkt.kept Hk.out hPw hPB) hPw HPr.out ((h5.keep hkt).mono hsz) ((h6.keep hkt).mono hsz) (Nat.lt_of_lt_of_le hPB hsz) (Nat.le_refl _) ((p0.keep hkt).mono hsz) h1 rfl rfl rfl _ ?_ <;> assumption
end Go.Proofs.Ytegdigfcgeoboaa
