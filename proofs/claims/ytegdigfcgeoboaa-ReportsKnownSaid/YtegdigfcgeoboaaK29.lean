/- The law of the chapter on reports, part 29: Lc Ld. -/
import Derived.Test.YtegdigfcgeoboaaK28
set_option maxHeartbeats 16000000
set_option linter.unusedVariables false
set_option linter.unusedSimpArgs false
set_option linter.unusedSectionVars false
namespace Go.Proofs.Ytegdigfcgeoboaa
open Go.RowKit
attribute [local go_sem ↓] Go.wp_at_zero Go.wp_at_succ
variable {u0 u1 u2 u8 u9 gI kI gJ jY eG eH u16 eE eF dX dY dZ eA eB eC eD eI eJ eK eL eM eN u32 eO eP iN iO iP iQ iR fK iS iT iU iV iW iX gK gL gM gN gO gP gQ gR gS gT iY iZ jA jB jC jD jE u64 jF jG jH jJ jK jL jM jN jO jP jQ jR jZ kE kF kG kH jS jT jU jV jW jX kJ kK kM kN kO kP kQ kR kS kT kU kV aK aG aA aB aC aD aE aF aH aI aJ aL bC bD bE bF bG bH bI bJ bK bL aR aM aN aO aP aQ aS aT aU aV aW aX aY aZ bA bM bN bP bQ : Value}
noncomputable def codeL5 : Code := restC (restC code19)
set_option maxRecDepth 1000000 in
theorem lim_5 {B : Nat} {w W : World} {P : Nat} {n : Int} {v0 v1 v2 v3 v4 v5 v6 : Value} (hn : -1 ≤ n ∧ n ≤ 1) (hk : Kept w W) (hPw : w.heap.size ≤ P) (hP : W.heap[P]? = some (.cells #[v0, v1, v2, v3, v4] 48 (0, 0)))
  (h5 : PartIs P B W v5 headL) (h6 : PartIs P B W v6 endL) (hPB : P < B) (hBW : B ≤ W.heap.size) (p0 : PartIs P B W v0 (partL n 0)) (p1 : PartIs P B W v1 (partL n 1)) (p2 : PartIs P B W v2 (partL n 2)) (p3 : PartIs P B W v3 (partL n 3)) (own : Own itT 29 B W v4 (repL (8 + n).toNat [iI 1 10 0]).length (repL (8 + n).toNat [iI 1 10 0]))
  (K K2 : Act → World → Prop) (hK : ∀ a w', Code.wp Try.prog (restC (headC codeL5)) (Exit.then K2 (bodyPost Try.prog Try.f5 fun e w' => e = .returned (.bool true) ∧ Kept w w')) a w' → K a w') (hK2 : ∀ a w', Code.wp Try.prog (restC codeL5) (bodyPost Try.prog Try.f5 fun e w' => e = .returned (.bool true) ∧ Kept w w') a w' → K2 a w') :
  Code.wp Try.prog (headC (headC codeL5)) (Exit.then K (Exit.then K2 (bodyPost Try.prog Try.f5 fun e w' => e = .returned (.bool true) ∧ Kept w w'))) ⟨#[u0, u1, u2, .int .i64 n, .bool (decide (0 < n)), v5, v6, .pointer (some ⟨P, 0, none⟩), u8, u9, gI, kI, gJ, jY, eG, eH, u16, eE, eF, dX, dY, dZ, eA, eB, eC, eD, eI, eJ, eK, eL, eM, eN, u32, eO, eP, iN, iO, iP, iQ, iR, fK, iS, iT, iU, iV, iW, iX, gK, gL, gM, gN, gO, gP, gQ, gR, gS, gT, iY, iZ, jA, jB, jC, jD, jE, u64, jF, jG, jH, jJ, jK, jL, jM, jN, jO, jP, jQ, jR, jZ, kE, kF, kG, kH, jS, jT, jU, jV, jW, jX, kJ, kK, kM, kN, kO, kP, kQ, kR, kS, kT, kU, kV, aK, aG, aA, aB, aC, aD, aE, aF, aH, aI, aJ, aL, bC, bD, bE, bF, bG, bH, bI, bJ, bK, bL, aR, aM, aN, aO, aP, aQ, aS, aT, aU, aV, aW, aX, aY, aZ, bA, bM, bN, bP, bQ], []⟩ W := by
 conv => arg 2; whnf
 conv at hK => enter [a, w', 1, 2]; whnf
 conv at hK2 => enter [a, w', 1, 2]; whnf
 dsimp only
 obtain ⟨i29, hi29, hz0, hz1, hz2⟩ := info_parts info29
 obtain ⟨hn1, hn2⟩ := hn
 have Hk := hide hk
 clear hk
 obtain ⟨L0, hL0⟩ : ∃ L0, repL (8 + n).toNat [iI 1 10 0] = L0 := ⟨_, rfl⟩
 have HL0 : Hid (L0.length ≤ 1000) := hide (by rw [← hL0, repL_len]; show (8 + n).toNat * 1 ≤ 1000; omega)
 have HL0e := hide hL0
 rw [hL0] at own
 clear hL0
 obtain ⟨y0, hy0⟩ : ∃ y, iI 1 11 0 = y := ⟨_, rfl⟩
 have hit0 := item17i 1 11 0 (by omega) (by omega) y0 hy0
 have Hok : Hid (∀ x ∈ [y0], x.ok) := hide (by
  intro x hx
  simp at hx
  subst hx
  rw [← hy0]; exact iI_ok (by decide) (by decide))
 have Hy0 := hide hy0
 clear hy0
 obtain ⟨NN, hNN⟩ : ∃ NN : Nat, (8 + n).toNat = NN := ⟨_, rfl⟩
 have hNI : 8 + n = (NN : Int) := by rw [← hNN]; omega
 have HNN := hide hNN
 have hNN3 : NN ≤ 300 := by rw [← hNN]; omega
 clear hNN
 have hwr : IntKind.i64.wrap (8 + n) = (NN : Int) := by rw [← hNI, IntKind.wrap_i64]; omega
 go_wp2_with fail
 go_loopg [12] NN (fun g sc wr => ∃ (i : Nat) (v : Value), i + g = NN ∧ sc = .int .i64 i ∧ wr.heap[P]? = some (.cells #[v0, v1, v2, v3, v] 48 (0, 0)) ∧ Own itT 29 B wr v (L0 ++ repL i [y0]).length (L0 ++ repL i [y0]) ∧ KeptTo P B W wr)
 case atStart => exact ⟨0, _, by omega, rfl, hP, by rw [show repL 0 [y0] = [] from rfl, List.append_nil]; exact own, KeptTo.refl⟩
 case round =>
  obtain ⟨i, v, hi, rfl, hPr0, hown, hkt⟩ := hrel
  have Hi := hide hi
  have HPr := hide hPr0
  have hPr := heap_lt hPr0
  have hcr : wr.cell? ⟨P, 4, none⟩ = some v := cell_heap hPr0 (o := 4) rfl
  have hBr : B ≤ wr.heap.size := Nat.le_trans hBW hkt.size
  clear hi hPr0
  by_cases hlt : i < NN
  ·have hi0 : (0 : Int) ≤ (i : Int) := by omega
   have hlt' : (i : Int) < (NN : Int) := by omega
   have hln0 : (L0 ++ repL i [y0]).length ≤ 5000 := by rw [List.length_append, repL_len]; have h3 : i * [y0].length ≤ 900 := (by show i * 1 ≤ 900; omega); have h4 := HL0.out; omega
   obtain ⟨X, hX⟩ : ∃ X, L0 ++ repL i [y0] = X := ⟨_, rfl⟩
   rw [hX] at hown hln0
   obtain ⟨ln, hln⟩ : ∃ ln, X.length = ln := ⟨_, rfl⟩
   rw [hln] at hown hln0
   have HX := hide hX
   have Hln := hide hln
   clear hX hln
   go_wp2_with fail
   refine wp_region_held_drew (S := fun _ => True ∧ True) (by kernel_rfl) ⟨trivial, trivial⟩ (fun hS => ?_)
   refine tk0 (i := 0) (v := ?_) rfl (by kernel_rfl) hS ?_ ?_
   rotate_left
   ·intro w' hq hq2; first | (go_simp; done) | (go_simp; with_reducible rfl)
   try simp only [Act.put, zp1, zp2, zp3, zp4, zp5, zp6]
   refine wpAnyH_ready (rs := [1, 2]) (by kernel_rfl) (by simp) ?_
   refine (AllReadyH.cons rfl (fun K hK => ?_) (AllReadyH.cons rfl (fun K hK => ?_) AllReadyH.nil))
   ·go_simp
    try dsimp only
    refine hK.out _ _ ?_ (fun hS => ?_)
    ·exact hS
    clear hK K
    try simp only [Act.put, zp1, zp2, zp3, zp4, zp5, zp6]
    refine wpAnyH_ready (rs := [2]) (by kernel_rfl) (by simp) ?_
    refine (AllReadyH.cons rfl (fun K hK => ?_) AllReadyH.nil)
    go_simp
    go_at_call 17
    refine (hit0 _).mono ?_
    rintro e w0 ⟨rfl, hk0⟩
    try dsimp only
    refine hK.out _ _ ?_ (fun hS => ?_)
    ·exact hS
    clear hK K
    try simp only [Act.put, zp1, zp2, zp3, zp4, zp5, zp6]
    have kk0 : Kept wr w0 := Kept.trans' (((Below.refl wr.heap.size wr).drew)) hk0
    have ce0 : w0.cell? ⟨P, 4, none⟩ = some v := (kk0.cell (p := ⟨P, 4, none⟩) hPr).trans hcr
    have lz0 : P < w0.heap.size := Nat.lt_of_lt_of_le hPr kk0.size
    refine wpAnyH_ready (rs := [3]) (by kernel_rfl) (by simp) ?_
    refine (AllReadyH.cons rfl (fun K hK => ?_) AllReadyH.nil)
    go_simp
    try dsimp only
    refine hK.out _ _ ?_ (fun hS => ?_)
    ·exact hS
    clear hK K
    try simp only [Act.put, zp1, zp2, zp3, zp4, zp5, zp6]
    refine wpAnyH_ready (rs := [4]) (by kernel_rfl) (by simp) ?_
    refine (AllReadyH.cons rfl (fun K hK => ?_) AllReadyH.nil)
    have kkb : Kept wr (w0.alloc (.cells #[.int .u8 y0.ty, .int .u8 y0.tg, .int .i64 y0.size, .int .u32 y0.data] 29)) := kk0.alloc kk0.size _
    have hownB := hown.kept kkb
    have hnew : Sl itT (w0.alloc (.cells #[.int .u8 y0.ty, .int .u8 y0.tg, .int .i64 y0.size, .int .u32 y0.data] 29)) (apart (w0.alloc (.cells #[.int .u8 y0.ty, .int .u8 y0.tg, .int .i64 y0.size, .int .u32 y0.data] 29)) v) (some ⟨w0.heap.size, 0, none⟩) 1 [y0] := sl_it_heap (heap_at _ rfl) rfl Hok.out ⟨by simp, fun e => by have h1 := (hown.lt e).2; have h2 := kk0.size; omega⟩
    refine step_append_sl (T := itT) rfl (.tmp 104) (.tmp 106) 22 rfl B 29 i29 _ 24 Try.underlying22 hi29 hz0 hz1 hz2 rfl (show 0 < 4 by decide) v ln X (by rfl) hownB (some ⟨w0.heap.size, 0, none⟩) 1 1 [y0] (by rfl) hnew (by_one29 _ _) (by unfold maxLen; omega) (by omega) (Nat.le_trans hBr kkb.size) ?_
    intro u7 x7 hown7 hg7 hb7 hat7
    obtain ⟨Au, cu, rfl, hu1, hu2⟩ := hown7.isSlice
    clear hu1 hu2
    have hP7 := (hb7.block P hPB).trans (heap_kept kkb HPr.out)
    have cz7 : x7.cell? ⟨P, 4, none⟩ = some v := cell_heap hP7 (o := 4) rfl
    have fz7 := frozen_heap hP7 (o := 4)
    have lz7 := heap_lt hP7
    refine hK.out _ _ ?_ (fun hS => ?_)
    ·exact hS
    clear hK K
    try simp only [Act.put, zp1, zp2, zp3, zp4, zp5, zp6]
    refine tk0 (i := 5) (v := ?_) rfl (by kernel_rfl) hS ?_ ?_
    rotate_left
    ·intro w' hq hq2; first | (go_simp; done) | (go_simp; with_reducible rfl)
    try simp only [Act.put, zp1, zp2, zp3, zp4, zp5, zp6]
    refine wpAnyH_ready (rs := [6]) (by kernel_rfl) (by simp) ?_
    refine (AllReadyH.cons rfl (fun K hK => ?_) AllReadyH.nil)
    go_simp
    try dsimp only
    refine hK.out _ _ ?_ (fun hS => ?_)
    ·exact hS
    clear hK K
    try simp only [Act.put, zp1, zp2, zp3, zp4, zp5, zp6]
    refine wpAnyH_done (by kernel_rfl) ?_ _
    have hkt7 := hkt.trans ((KeptTo.of kkb hBr).trans ((KeptTo.below hb7).trans (KeptTo.set (P := P) 4 (.slice Au (ln + 1) cu))))
    have hP8 := heap_store (i := 4) hP7 (.slice Au (ln + 1) cu)
    have hown8 := hown7.setCell (fun h => h) (p := ⟨P, 4, none⟩) hPB (.slice Au (ln + 1) cu)
    clear hS cz7 fz7 hown7 hb7 hg7 hat7 hP7 hownB hnew
    go_wp2_with fail
    go_roundg (gk - 1)
    case measure => have := Hi.out; omega
    case rel =>
     refine ⟨i + 1, _, by have := Hi.out; omega, by go_num, hP8, ?_, hkt7⟩
     have e : L0 ++ repL (i + 1) [y0] = X ++ [y0] := by rw [repL_succ, ← List.append_assoc, HX.out]
     have e2 : (L0 ++ repL (i + 1) [y0]).length = ln + 1 := by rw [e, List.length_append, Hln.out]; rfl
     rw [e2, e]
     exact hown8
   ·go_simp
    go_at_call 17
    refine (hit0 _).mono ?_
    rintro e w0 ⟨rfl, hk0⟩
    try dsimp only
    refine hK.out _ _ ?_ (fun hS => ?_)
    ·exact hS
    clear hK K
    try simp only [Act.put, zp1, zp2, zp3, zp4, zp5, zp6]
    have kk0 : Kept wr w0 := Kept.trans' (((Below.refl wr.heap.size wr).drew)) hk0
    have ce0 : w0.cell? ⟨P, 4, none⟩ = some v := (kk0.cell (p := ⟨P, 4, none⟩) hPr).trans hcr
    have lz0 : P < w0.heap.size := Nat.lt_of_lt_of_le hPr kk0.size
    refine wpAnyH_ready (rs := [1, 3]) (by kernel_rfl) (by simp) ?_
    refine (AllReadyH.cons rfl (fun K hK => ?_) (AllReadyH.cons rfl (fun K hK => ?_) AllReadyH.nil))
    ·go_simp
     try dsimp only
     refine hK.out _ _ ?_ (fun hS => ?_)
     ·exact hS
     clear hK K
     try simp only [Act.put, zp1, zp2, zp3, zp4, zp5, zp6]
     refine wpAnyH_ready (rs := [3]) (by kernel_rfl) (by simp) ?_
     refine (AllReadyH.cons rfl (fun K hK => ?_) AllReadyH.nil)
     go_simp
     try dsimp only
     refine hK.out _ _ ?_ (fun hS => ?_)
     ·exact hS
     clear hK K
     try simp only [Act.put, zp1, zp2, zp3, zp4, zp5, zp6]
     refine wpAnyH_ready (rs := [4]) (by kernel_rfl) (by simp) ?_
     refine (AllReadyH.cons rfl (fun K hK => ?_) AllReadyH.nil)
     have kkb : Kept wr (w0.alloc (.cells #[.int .u8 y0.ty, .int .u8 y0.tg, .int .i64 y0.size, .int .u32 y0.data] 29)) := kk0.alloc kk0.size _
     have hownB := hown.kept kkb
     have hnew : Sl itT (w0.alloc (.cells #[.int .u8 y0.ty, .int .u8 y0.tg, .int .i64 y0.size, .int .u32 y0.data] 29)) (apart (w0.alloc (.cells #[.int .u8 y0.ty, .int .u8 y0.tg, .int .i64 y0.size, .int .u32 y0.data] 29)) v) (some ⟨w0.heap.size, 0, none⟩) 1 [y0] := sl_it_heap (heap_at _ rfl) rfl Hok.out ⟨by simp, fun e => by have h1 := (hown.lt e).2; have h2 := kk0.size; omega⟩
     refine step_append_sl (T := itT) rfl (.tmp 104) (.tmp 106) 22 rfl B 29 i29 _ 24 Try.underlying22 hi29 hz0 hz1 hz2 rfl (show 0 < 4 by decide) v ln X (by rfl) hownB (some ⟨w0.heap.size, 0, none⟩) 1 1 [y0] (by rfl) hnew (by_one29 _ _) (by unfold maxLen; omega) (by omega) (Nat.le_trans hBr kkb.size) ?_
     intro u7 x7 hown7 hg7 hb7 hat7
     obtain ⟨Au, cu, rfl, hu1, hu2⟩ := hown7.isSlice
     clear hu1 hu2
     have hP7 := (hb7.block P hPB).trans (heap_kept kkb HPr.out)
     have cz7 : x7.cell? ⟨P, 4, none⟩ = some v := cell_heap hP7 (o := 4) rfl
     have fz7 := frozen_heap hP7 (o := 4)
     have lz7 := heap_lt hP7
     refine hK.out _ _ ?_ (fun hS => ?_)
     ·exact hS
     clear hK K
     try simp only [Act.put, zp1, zp2, zp3, zp4, zp5, zp6]
     refine tk0 (i := 5) (v := ?_) rfl (by kernel_rfl) hS ?_ ?_
     rotate_left
     ·intro w' hq hq2; first | (go_simp; done) | (go_simp; with_reducible rfl)
     try simp only [Act.put, zp1, zp2, zp3, zp4, zp5, zp6]
     refine wpAnyH_ready (rs := [6]) (by kernel_rfl) (by simp) ?_
     refine (AllReadyH.cons rfl (fun K hK => ?_) AllReadyH.nil)
     go_simp
     try dsimp only
     refine hK.out _ _ ?_ (fun hS => ?_)
     ·exact hS
     clear hK K
     try simp only [Act.put, zp1, zp2, zp3, zp4, zp5, zp6]
     refine wpAnyH_done (by kernel_rfl) ?_ _
     have hkt7 := hkt.trans ((KeptTo.of kkb hBr).trans ((KeptTo.below hb7).trans (KeptTo.set (P := P) 4 (.slice Au (ln + 1) cu))))
     have hP8 := heap_store (i := 4) hP7 (.slice Au (ln + 1) cu)
     have hown8 := hown7.setCell (fun h => h) (p := ⟨P, 4, none⟩) hPB (.slice Au (ln + 1) cu)
     clear hS cz7 fz7 hown7 hb7 hg7 hat7 hP7 hownB hnew
     go_wp2_with fail
     go_roundg (gk - 1)
     case measure => have := Hi.out; omega
     case rel =>
      refine ⟨i + 1, _, by have := Hi.out; omega, by go_num, hP8, ?_, hkt7⟩
      have e : L0 ++ repL (i + 1) [y0] = X ++ [y0] := by rw [repL_succ, ← List.append_assoc, HX.out]
      have e2 : (L0 ++ repL (i + 1) [y0]).length = ln + 1 := by rw [e, List.length_append, Hln.out]; rfl
      rw [e2, e]
      exact hown8
    ·go_simp
     try dsimp only
     refine hK.out _ _ ?_ (fun hS => ?_)
     ·exact hS
     clear hK K
     try simp only [Act.put, zp1, zp2, zp3, zp4, zp5, zp6]
     refine wpAnyH_ready (rs := [1]) (by kernel_rfl) (by simp) ?_
     refine (AllReadyH.cons rfl (fun K hK => ?_) AllReadyH.nil)
     go_simp
     try dsimp only
     refine hK.out _ _ ?_ (fun hS => ?_)
     ·exact hS
     clear hK K
     try simp only [Act.put, zp1, zp2, zp3, zp4, zp5, zp6]
     refine wpAnyH_ready (rs := [4]) (by kernel_rfl) (by simp) ?_
     refine (AllReadyH.cons rfl (fun K hK => ?_) AllReadyH.nil)
     have kkb : Kept wr (w0.alloc (.cells #[.int .u8 y0.ty, .int .u8 y0.tg, .int .i64 y0.size, .int .u32 y0.data] 29)) := kk0.alloc kk0.size _
     have hownB := hown.kept kkb
     have hnew : Sl itT (w0.alloc (.cells #[.int .u8 y0.ty, .int .u8 y0.tg, .int .i64 y0.size, .int .u32 y0.data] 29)) (apart (w0.alloc (.cells #[.int .u8 y0.ty, .int .u8 y0.tg, .int .i64 y0.size, .int .u32 y0.data] 29)) v) (some ⟨w0.heap.size, 0, none⟩) 1 [y0] := sl_it_heap (heap_at _ rfl) rfl Hok.out ⟨by simp, fun e => by have h1 := (hown.lt e).2; have h2 := kk0.size; omega⟩
     refine step_append_sl (T := itT) rfl (.tmp 104) (.tmp 106) 22 rfl B 29 i29 _ 24 Try.underlying22 hi29 hz0 hz1 hz2 rfl (show 0 < 4 by decide) v ln X (by rfl) hownB (some ⟨w0.heap.size, 0, none⟩) 1 1 [y0] (by rfl) hnew (by_one29 _ _) (by unfold maxLen; omega) (by omega) (Nat.le_trans hBr kkb.size) ?_
     intro u7 x7 hown7 hg7 hb7 hat7
     obtain ⟨Au, cu, rfl, hu1, hu2⟩ := hown7.isSlice
     clear hu1 hu2
     have hP7 := (hb7.block P hPB).trans (heap_kept kkb HPr.out)
     have cz7 : x7.cell? ⟨P, 4, none⟩ = some v := cell_heap hP7 (o := 4) rfl
     have fz7 := frozen_heap hP7 (o := 4)
     have lz7 := heap_lt hP7
     refine hK.out _ _ ?_ (fun hS => ?_)
     ·exact hS
     clear hK K
     try simp only [Act.put, zp1, zp2, zp3, zp4, zp5, zp6]
     refine tk0 (i := 5) (v := ?_) rfl (by kernel_rfl) hS ?_ ?_
     rotate_left
     ·intro w' hq hq2; first | (go_simp; done) | (go_simp; with_reducible rfl)
     try simp only [Act.put, zp1, zp2, zp3, zp4, zp5, zp6]
     refine wpAnyH_ready (rs := [6]) (by kernel_rfl) (by simp) ?_
     refine (AllReadyH.cons rfl (fun K hK => ?_) AllReadyH.nil)
     go_simp
     try dsimp only
     refine hK.out _ _ ?_ (fun hS => ?_)
     ·exact hS
     clear hK K
     try simp only [Act.put, zp1, zp2, zp3, zp4, zp5, zp6]
     refine wpAnyH_done (by kernel_rfl) ?_ _
     have hkt7 := hkt.trans ((KeptTo.of kkb hBr).trans ((KeptTo.below hb7).trans (KeptTo.set (P := P) 4 (.slice Au (ln + 1) cu))))
     have hP8 := heap_store (i := 4) hP7 (.slice Au (ln + 1) cu)
     have hown8 := hown7.setCell (fun h => h) (p := ⟨P, 4, none⟩) hPB (.slice Au (ln + 1) cu)
     clear hS cz7 fz7 hown7 hb7 hg7 hat7 hP7 hownB hnew
     go_wp2_with fail
     go_roundg (gk - 1)
     case measure => have := Hi.out; omega
     case rel =>
      refine ⟨i + 1, _, by have := Hi.out; omega, by go_num, hP8, ?_, hkt7⟩
      have e : L0 ++ repL (i + 1) [y0] = X ++ [y0] := by rw [repL_succ, ← List.append_assoc, HX.out]
      have e2 : (L0 ++ repL (i + 1) [y0]).length = ln + 1 := by rw [e, List.length_append, Hln.out]; rfl
      rw [e2, e]
      exact hown8
  ·have hge : (NN : Int) ≤ (i : Int) := by omega
   have hiN : i = NN := by have := Hi.out; omega
   subst hiN
   have hsz := hkt.size
   have h4 : PartIs P wr.heap.size wr v (partL n 4) := by
    have e : L0 ++ repL i [y0] = partL n 4 := by
     rw [← HL0e.out, ← HNN.out, ← Hy0.out]; rfl
    rw [e] at hown
    exact PartIs.own hown hPB
   go_upto_region 28 with (fail)
   refine lim_6 (B := wr.heap.size) ⟨hn1, hn2⟩ (hkt.kept Hk.out hPw hPB) hPw HPr.out ((h5.keep hkt).mono hBr) ((h6.keep hkt).mono hBr) (by omega) (Nat.le_refl _) ((p0.keep hkt).mono hBr) ((p1.keep hkt).mono hBr) ((p2.keep hkt).mono hBr) ((p3.keep hkt).mono hBr) h4 _ _ ?_ ?_ <;> assumption
noncomputable def codeL4 : Code := restC code19
set_option maxRecDepth 1000000 in
theorem lim_4 {B : Nat} {w W : World} {P : Nat} {n : Int} {v0 v1 v2 v3 v4 v5 v6 : Value} (hn : -1 ≤ n ∧ n ≤ 1) (hk : Kept w W) (hPw : w.heap.size ≤ P) (hP : W.heap[P]? = some (.cells #[v0, v1, v2, v3, v4] 48 (0, 0)))
  (h5 : PartIs P B W v5 headL) (h6 : PartIs P B W v6 endL) (hPB : P < B) (hBW : B ≤ W.heap.size) (p0 : PartIs P B W v0 (partL n 0)) (p1 : PartIs P B W v1 (partL n 1)) (p2 : PartIs P B W v2 (partL n 2)) (p3 : PartIs P B W v3 (partL n 3)) (hv4 : v4 = .slice none 0 0)
  (K K2 : Act → World → Prop) (hK : ∀ a w', Code.wp Try.prog (restC (headC codeL4)) (Exit.then K2 (bodyPost Try.prog Try.f5 fun e w' => e = .returned (.bool true) ∧ Kept w w')) a w' → K a w') (hK2 : ∀ a w', Code.wp Try.prog (restC codeL4) (bodyPost Try.prog Try.f5 fun e w' => e = .returned (.bool true) ∧ Kept w w') a w' → K2 a w') :
  Code.wp Try.prog (headC (headC codeL4)) (Exit.then K (Exit.then K2 (bodyPost Try.prog Try.f5 fun e w' => e = .returned (.bool true) ∧ Kept w w'))) ⟨#[u0, u1, u2, .int .i64 n, .bool (decide (0 < n)), v5, v6, .pointer (some ⟨P, 0, none⟩), u8, u9, gI, kI, gJ, jY, eG, eH, u16, eE, eF, dX, dY, dZ, eA, eB, eC, eD, eI, eJ, eK, eL, eM, eN, u32, eO, eP, iN, iO, iP, iQ, iR, fK, iS, iT, iU, iV, iW, iX, gK, gL, gM, gN, gO, gP, gQ, gR, gS, gT, iY, iZ, jA, jB, jC, jD, jE, u64, jF, jG, jH, jJ, jK, jL, jM, jN, jO, jP, jQ, jR, jZ, kE, kF, kG, kH, jS, jT, jU, jV, jW, jX, kJ, kK, kM, kN, kO, kP, kQ, kR, kS, kT, kU, kV, aK, aG, aA, aB, aC, aD, aE, aF, aH, aI, aJ, aL, bC, bD, bE, bF, bG, bH, bI, bJ, bK, bL, aR, aM, aN, aO, aP, aQ, aS, aT, aU, aV, aW, aX, aY, aZ, bA, bM, bN, bP, bQ], []⟩ W := by
 conv => arg 2; whnf
 conv at hK => enter [a, w', 1, 2]; whnf
 conv at hK2 => enter [a, w', 1, 2]; whnf
 dsimp only
 subst hv4
 obtain ⟨i29, hi29, hz0, hz1, hz2⟩ := info_parts info29
 obtain ⟨hn1, hn2⟩ := hn
 have Hk := hide hk
 clear hk
 replace h5 := h5.mono hBW
 replace h6 := h6.mono hBW
 replace p0 := p0.mono hBW
 replace p1 := p1.mono hBW
 replace p2 := p2.mono hBW
 replace p3 := p3.mono hBW
 clear hPB hBW
 have hPB := heap_lt hP
 have hBW := Nat.le_refl W.heap.size
 have HL0 : Hid (([] : List It).length ≤ 1000) := hide (by decide)
 have own : Own itT 29 W.heap.size W (.slice none 0 0) ([] : List It).length [] := Own.nil _ _ _ _
 obtain ⟨y0, hy0⟩ : ∃ y, iI 1 10 0 = y := ⟨_, rfl⟩
 have hit0 := item17i 1 10 0 (by omega) (by omega) y0 hy0
 have Hok : Hid (∀ x ∈ [y0], x.ok) := hide (by
  intro x hx
  simp at hx
  subst hx
  rw [← hy0]; exact iI_ok (by decide) (by decide))
 have Hy0 := hide hy0
 clear hy0
 obtain ⟨NN, hNN⟩ : ∃ NN : Nat, (8 + n).toNat = NN := ⟨_, rfl⟩
 have hNI : 8 + n = (NN : Int) := by rw [← hNN]; omega
 have HNN := hide hNN
 have hNN3 : NN ≤ 300 := by rw [← hNN]; omega
 clear hNN
 have hwr : IntKind.i64.wrap (8 + n) = (NN : Int) := by rw [← hNI, IntKind.wrap_i64]; omega
 go_wp2_with fail
 go_loopg [11] NN (fun g sc wr => ∃ (i : Nat) (v : Value), i + g = NN ∧ sc = .int .i64 i ∧ wr.heap[P]? = some (.cells #[v0, v1, v2, v3, v] 48 (0, 0)) ∧ Own itT 29 W.heap.size wr v (([] : List It) ++ repL i [y0]).length (([] : List It) ++ repL i [y0]) ∧ KeptTo P W.heap.size W wr)
 case atStart => exact ⟨0, _, by omega, rfl, hP, by rw [show repL 0 [y0] = [] from rfl, List.append_nil]; exact own, KeptTo.refl⟩
 case round =>
  obtain ⟨i, v, hi, rfl, hPr0, hown, hkt⟩ := hrel
  have Hi := hide hi
  have HPr := hide hPr0
  have hPr := heap_lt hPr0
  have hcr : wr.cell? ⟨P, 4, none⟩ = some v := cell_heap hPr0 (o := 4) rfl
  have hBr : W.heap.size ≤ wr.heap.size := Nat.le_trans hBW hkt.size
  clear hi hPr0
  by_cases hlt : i < NN
  ·have hi0 : (0 : Int) ≤ (i : Int) := by omega
   have hlt' : (i : Int) < (NN : Int) := by omega
   have hln0 : (([] : List It) ++ repL i [y0]).length ≤ 5000 := by rw [List.length_append, repL_len]; have h3 : i * [y0].length ≤ 900 := (by show i * 1 ≤ 900; omega); have h4 := HL0.out; omega
   obtain ⟨X, hX⟩ : ∃ X, ([] : List It) ++ repL i [y0] = X := ⟨_, rfl⟩
   rw [hX] at hown hln0
   obtain ⟨ln, hln⟩ : ∃ ln, X.length = ln := ⟨_, rfl⟩
   rw [hln] at hown hln0
   have HX := hide hX
   have Hln := hide hln
   clear hX hln
   go_wp2_with fail
   refine wp_region_held_drew (S := fun _ => True ∧ True) (by kernel_rfl) ⟨trivial, trivial⟩ (fun hS => ?_)
   refine tk0 (i := 0) (v := ?_) rfl (by kernel_rfl) hS ?_ ?_
   rotate_left
   ·intro w' hq hq2; first | (go_simp; done) | (go_simp; with_reducible rfl)
   try simp only [Act.put, zp1, zp2, zp3, zp4, zp5, zp6]
   refine wpAnyH_ready (rs := [1, 2]) (by kernel_rfl) (by simp) ?_
   refine (AllReadyH.cons rfl (fun K hK => ?_) (AllReadyH.cons rfl (fun K hK => ?_) AllReadyH.nil))
   ·go_simp
    try dsimp only
    refine hK.out _ _ ?_ (fun hS => ?_)
    ·exact hS
    clear hK K
    try simp only [Act.put, zp1, zp2, zp3, zp4, zp5, zp6]
    refine wpAnyH_ready (rs := [2]) (by kernel_rfl) (by simp) ?_
    refine (AllReadyH.cons rfl (fun K hK => ?_) AllReadyH.nil)
    go_simp
    go_at_call 17
    refine (hit0 _).mono ?_
    rintro e w0 ⟨rfl, hk0⟩
    try dsimp only
    refine hK.out _ _ ?_ (fun hS => ?_)
    ·exact hS
    clear hK K
    try simp only [Act.put, zp1, zp2, zp3, zp4, zp5, zp6]
    have kk0 : Kept wr w0 := Kept.trans' (((Below.refl wr.heap.size wr).drew)) hk0
    have ce0 : w0.cell? ⟨P, 4, none⟩ = some v := (kk0.cell (p := ⟨P, 4, none⟩) hPr).trans hcr
    have lz0 : P < w0.heap.size := Nat.lt_of_lt_of_le hPr kk0.size
    refine wpAnyH_ready (rs := [3]) (by kernel_rfl) (by simp) ?_
    refine (AllReadyH.cons rfl (fun K hK => ?_) AllReadyH.nil)
    go_simp
    try dsimp only
    refine hK.out _ _ ?_ (fun hS => ?_)
    ·exact hS
    clear hK K
    try simp only [Act.put, zp1, zp2, zp3, zp4, zp5, zp6]
    refine wpAnyH_ready (rs := [4]) (by kernel_rfl) (by simp) ?_
    refine (AllReadyH.cons rfl (fun K hK => ?_) AllReadyH.nil)
    have kkb : Kept wr (w0.alloc (.cells #[.int .u8 y0.ty, .int .u8 y0.tg, .int .i64 y0.size, .int .u32 y0.data] 29)) := kk0.alloc kk0.size _
    have hownB := hown.kept kkb
    have hnew : Sl itT (w0.alloc (.cells #[.int .u8 y0.ty, .int .u8 y0.tg, .int .i64 y0.size, .int .u32 y0.data] 29)) (apart (w0.alloc (.cells #[.int .u8 y0.ty, .int .u8 y0.tg, .int .i64 y0.size, .int .u32 y0.data] 29)) v) (some ⟨w0.heap.size, 0, none⟩) 1 [y0] := sl_it_heap (heap_at _ rfl) rfl Hok.out ⟨by simp, fun e => by have h1 := (hown.lt e).2; have h2 := kk0.size; omega⟩
    refine step_append_sl (T := itT) rfl (.tmp 92) (.tmp 94) 22 rfl W.heap.size 29 i29 _ 24 Try.underlying22 hi29 hz0 hz1 hz2 rfl (show 0 < 4 by decide) v ln X (by rfl) hownB (some ⟨w0.heap.size, 0, none⟩) 1 1 [y0] (by rfl) hnew (by_one29 _ _) (by unfold maxLen; omega) (by omega) (Nat.le_trans hBr kkb.size) ?_
    intro u7 x7 hown7 hg7 hb7 hat7
    obtain ⟨Au, cu, rfl, hu1, hu2⟩ := hown7.isSlice
    clear hu1 hu2
    have hP7 := (hb7.block P hPB).trans (heap_kept kkb HPr.out)
    have cz7 : x7.cell? ⟨P, 4, none⟩ = some v := cell_heap hP7 (o := 4) rfl
    have fz7 := frozen_heap hP7 (o := 4)
    have lz7 := heap_lt hP7
    refine hK.out _ _ ?_ (fun hS => ?_)
    ·exact hS
    clear hK K
    try simp only [Act.put, zp1, zp2, zp3, zp4, zp5, zp6]
    refine tk0 (i := 5) (v := ?_) rfl (by kernel_rfl) hS ?_ ?_
    rotate_left
    ·intro w' hq hq2; first | (go_simp; done) | (go_simp; with_reducible rfl)
    try simp only [Act.put, zp1, zp2, zp3, zp4, zp5, zp6]
    refine wpAnyH_ready (rs := [6]) (by kernel_rfl) (by simp) ?_
    refine (AllReadyH.cons rfl (fun K hK => ?_) AllReadyH.nil)
    go_simp
    try dsimp only
    refine hK.out _ _ ?_ (fun hS => ?_)
    ·exact hS
    clear hK K
    try simp only [Act.put, zp1, zp2, zp3, zp4, zp5, zp6]
    refine wpAnyH_done (by kernel_rfl) ?_ _
    have hkt7 := hkt.trans ((KeptTo.of kkb hBr).trans ((KeptTo.below hb7).trans (KeptTo.set (P := P) 4 (.slice Au (ln + 1) cu))))
    have hP8 := heap_store (i := 4) hP7 (.slice Au (ln + 1) cu)
    have hown8 := hown7.setCell (fun h => h) (p := ⟨P, 4, none⟩) hPB (.slice Au (ln + 1) cu)
    clear hS cz7 fz7 hown7 hb7 hg7 hat7 hP7 hownB hnew
    go_wp2_with fail
    go_roundg (gk - 1)
    case measure => have := Hi.out; omega
    case rel =>
     refine ⟨i + 1, _, by have := Hi.out; omega, by go_num, hP8, ?_, hkt7⟩
     have e : ([] : List It) ++ repL (i + 1) [y0] = X ++ [y0] := by rw [repL_succ, ← List.append_assoc, HX.out]
     have e2 : (([] : List It) ++ repL (i + 1) [y0]).length = ln + 1 := by rw [e, List.length_append, Hln.out]; rfl
     rw [e2, e]
     exact hown8
   ·go_simp
    go_at_call 17
    refine (hit0 _).mono ?_
    rintro e w0 ⟨rfl, hk0⟩
    try dsimp only
    refine hK.out _ _ ?_ (fun hS => ?_)
    ·exact hS
    clear hK K
    try simp only [Act.put, zp1, zp2, zp3, zp4, zp5, zp6]
    have kk0 : Kept wr w0 := Kept.trans' (((Below.refl wr.heap.size wr).drew)) hk0
    have ce0 : w0.cell? ⟨P, 4, none⟩ = some v := (kk0.cell (p := ⟨P, 4, none⟩) hPr).trans hcr
    have lz0 : P < w0.heap.size := Nat.lt_of_lt_of_le hPr kk0.size
    refine wpAnyH_ready (rs := [1, 3]) (by kernel_rfl) (by simp) ?_
    refine (AllReadyH.cons rfl (fun K hK => ?_) (AllReadyH.cons rfl (fun K hK => ?_) AllReadyH.nil))
    ·go_simp
     try dsimp only
     refine hK.out _ _ ?_ (fun hS => ?_)
     ·exact hS
     clear hK K
     try simp only [Act.put, zp1, zp2, zp3, zp4, zp5, zp6]
     refine wpAnyH_ready (rs := [3]) (by kernel_rfl) (by simp) ?_
     refine (AllReadyH.cons rfl (fun K hK => ?_) AllReadyH.nil)
     go_simp
     try dsimp only
     refine hK.out _ _ ?_ (fun hS => ?_)
     ·exact hS
     clear hK K
     try simp only [Act.put, zp1, zp2, zp3, zp4, zp5, zp6]
     refine wpAnyH_ready (rs := [4]) (by kernel_rfl) (by simp) ?_
     refine (AllReadyH.cons rfl (fun K hK => ?_) AllReadyH.nil)
     have kkb : Kept wr (w0.alloc (.cells #[.int .u8 y0.ty, .int .u8 y0.tg, .int .i64 y0.size, .int .u32 y0.data] 29)) := kk0.alloc kk0.size _
     have hownB := hown.kept kkb
     have hnew : Sl itT (w0.alloc (.cells #[.int .u8 y0.ty, .int .u8 y0.tg, .int .i64 y0.size, .int .u32 y0.data] 29)) (apart (w0.alloc (.cells #[.int .u8 y0.ty, .int .u8 y0.tg, .int .i64 y0.size, .int .u32 y0.data] 29)) v) (some ⟨w0.heap.size, 0, none⟩) 1 [y0] := sl_it_heap (heap_at _ rfl) rfl Hok.out ⟨by simp, fun e => by have h1 := (hown.lt e).2; have h2 := kk0.size; omega⟩
     refine step_append_sl (T := itT) rfl (.tmp 92) (.tmp 94) 22 rfl W.heap.size 29 i29 _ 24 Try.underlying22 hi29 hz0 hz1 hz2 rfl (show 0 < 4 by decide) v ln X (by rfl) hownB (some ⟨w0.heap.size, 0, none⟩) 1 1 [y0] (by rfl) hnew (by_one29 _ _) (by unfold maxLen; omega) (by omega) (Nat.le_trans hBr kkb.size) ?_
     intro u7 x7 hown7 hg7 hb7 hat7
     obtain ⟨Au, cu, rfl, hu1, hu2⟩ := hown7.isSlice
     clear hu1 hu2
     have hP7 := (hb7.block P hPB).trans (heap_kept kkb HPr.out)
     have cz7 : x7.cell? ⟨P, 4, none⟩ = some v := cell_heap hP7 (o := 4) rfl
     have fz7 := frozen_heap hP7 (o := 4)
     have lz7 := heap_lt hP7
     refine hK.out _ _ ?_ (fun hS => ?_)
     ·exact hS
     clear hK K
     try simp only [Act.put, zp1, zp2, zp3, zp4, zp5, zp6]
     refine tk0 (i := 5) (v := ?_) rfl (by kernel_rfl) hS ?_ ?_
     rotate_left
     ·intro w' hq hq2; first | (go_simp; done) | (go_simp; with_reducible rfl)
     try simp only [Act.put, zp1, zp2, zp3, zp4, zp5, zp6]
     refine wpAnyH_ready (rs := [6]) (by kernel_rfl) (by simp) ?_
     refine (AllReadyH.cons rfl (fun K hK => ?_) AllReadyH.nil)
     go_simp
     try dsimp only
     refine hK.out _ _ ?_ (fun hS => ?_)
     ·exact hS
     clear hK K
     try simp only [Act.put, zp1, zp2, zp3, zp4, zp5, zp6]
     refine wpAnyH_done (by kernel_rfl) ?_ _
     have hkt7 := hkt.trans ((KeptTo.of kkb hBr).trans ((KeptTo.below hb7).trans (KeptTo.set (P := P) 4 (.slice Au (ln + 1) cu))))
     have hP8 := heap_store (i := 4) hP7 (.slice Au (ln + 1) cu)
     have hown8 := hown7.setCell (fun h => h) (p := ⟨P, 4, none⟩) hPB (.slice Au (ln + 1) cu)
     clear hS cz7 fz7 hown7 hb7 hg7 hat7 hP7 hownB hnew
     go_wp2_with fail
     go_roundg (gk - 1)
     case measure => have := Hi.out; omega
     case rel =>
      refine ⟨i + 1, _, by have := Hi.out; omega, by go_num, hP8, ?_, hkt7⟩
      have e : ([] : List It) ++ repL (i + 1) [y0] = X ++ [y0] := by rw [repL_succ, ← List.append_assoc, HX.out]
      have e2 : (([] : List It) ++ repL (i + 1) [y0]).length = ln + 1 := by rw [e, List.length_append, Hln.out]; rfl
      rw [e2, e]
      exact hown8
    ·go_simp
     try dsimp only
     refine hK.out _ _ ?_ (fun hS => ?_)
     ·exact hS
     clear hK K
     try simp only [Act.put, zp1, zp2, zp3, zp4, zp5, zp6]
     refine wpAnyH_ready (rs := [1]) (by kernel_rfl) (by simp) ?_
     refine (AllReadyH.cons rfl (fun K hK => ?_) AllReadyH.nil)
     go_simp
     try dsimp only
     refine hK.out _ _ ?_ (fun hS => ?_)
     ·exact hS
     clear hK K
     try simp only [Act.put, zp1, zp2, zp3, zp4, zp5, zp6]
     refine wpAnyH_ready (rs := [4]) (by kernel_rfl) (by simp) ?_
     refine (AllReadyH.cons rfl (fun K hK => ?_) AllReadyH.nil)
     have kkb : Kept wr (w0.alloc (.cells #[.int .u8 y0.ty, .int .u8 y0.tg, .int .i64 y0.size, .int .u32 y0.data] 29)) := kk0.alloc kk0.size _
     have hownB := hown.kept kkb
     have hnew : Sl itT (w0.alloc (.cells #[.int .u8 y0.ty, .int .u8 y0.tg, .int .i64 y0.size, .int .u32 y0.data] 29)) (apart (w0.alloc (.cells #[.int .u8 y0.ty, .int .u8 y0.tg, .int .i64 y0.size, .int .u32 y0.data] 29)) v) (some ⟨w0.heap.size, 0, none⟩) 1 [y0] := sl_it_heap (heap_at _ rfl) rfl Hok.out ⟨by simp, fun e => by have h1 := (hown.lt e).2; have h2 := kk0.size; omega⟩
     refine step_append_sl (T := itT) rfl (.tmp 92) (.tmp 94) 22 rfl W.heap.size 29 i29 _ 24 Try.underlying22 hi29 hz0 hz1 hz2 rfl (show 0 < 4 by decide) v ln X (by rfl) hownB (some ⟨w0.heap.size, 0, none⟩) 1 1 [y0] (by rfl) hnew (by_one29 _ _) (by unfold maxLen; omega) (by omega) (Nat.le_trans hBr kkb.size) ?_
     intro u7 x7 hown7 hg7 hb7 hat7
     obtain ⟨Au, cu, rfl, hu1, hu2⟩ := hown7.isSlice
     clear hu1 hu2
     have hP7 := (hb7.block P hPB).trans (heap_kept kkb HPr.out)
     have cz7 : x7.cell? ⟨P, 4, none⟩ = some v := cell_heap hP7 (o := 4) rfl
     have fz7 := frozen_heap hP7 (o := 4)
     have lz7 := heap_lt hP7
     refine hK.out _ _ ?_ (fun hS => ?_)
     ·exact hS
     clear hK K
     try simp only [Act.put, zp1, zp2, zp3, zp4, zp5, zp6]
     refine tk0 (i := 5) (v := ?_) rfl (by kernel_rfl) hS ?_ ?_
     rotate_left
     ·intro w' hq hq2; first | (go_simp; done) | (go_simp; with_reducible rfl)
     try simp only [Act.put, zp1, zp2, zp3, zp4, zp5, zp6]
     refine wpAnyH_ready (rs := [6]) (by kernel_rfl) (by simp) ?_
     refine (AllReadyH.cons rfl (fun K hK => ?_) AllReadyH.nil)
     go_simp
     try dsimp only
     refine hK.out _ _ ?_ (fun hS => ?_)
     ·exact hS
     clear hK K
     try simp only [Act.put, zp1, zp2, zp3, zp4, zp5, zp6]
     refine wpAnyH_done (by kernel_rfl) ?_ _
     have hkt7 := hkt.trans ((KeptTo.of kkb hBr).trans ((KeptTo.below hb7).trans (KeptTo.set (P := P) 4 (.slice Au (ln + 1) cu))))
     have hP8 := heap_store (i := 4) hP7 (.slice Au (ln + 1) cu)
     have hown8 := hown7.setCell (fun h => h) (p := ⟨P, 4, none⟩) hPB (.slice Au (ln + 1) cu)
     clear hS cz7 fz7 hown7 hb7 hg7 hat7 hP7 hownB hnew
     go_wp2_with fail
     go_roundg (gk - 1)
     case measure => have := Hi.out; omega
     case rel =>
      refine ⟨i + 1, _, by have := Hi.out; omega, by go_num, hP8, ?_, hkt7⟩
      have e : ([] : List It) ++ repL (i + 1) [y0] = X ++ [y0] := by rw [repL_succ, ← List.append_assoc, HX.out]
      have e2 : (([] : List It) ++ repL (i + 1) [y0]).length = ln + 1 := by rw [e, List.length_append, Hln.out]; rfl
      rw [e2, e]
      exact hown8
  ·have hge : (NN : Int) ≤ (i : Int) := by omega
   have hiN : i = NN := by have := Hi.out; omega
   subst hiN
   have e : ([] : List It) ++ repL i [y0] = repL (8 + n).toNat [iI 1 10 0] := by rw [List.nil_append, HNN.out, Hy0.out]
   rw [e] at hown
   go_upto_region 24 with (fail)
   refine lim_5 (B := W.heap.size) ⟨hn1, hn2⟩ (hkt.kept Hk.out hPw hPB) hPw HPr.out (h5.keep hkt) (h6.keep hkt) hPB hBr (p0.keep hkt) (p1.keep hkt) (p2.keep hkt) (p3.keep hkt) hown _ _ ?_ ?_ <;> assumption
end Go.Proofs.Ytegdigfcgeoboaa
