/- The law of the chapter on reports, part 32: Lh Li Mb. -/
import Derived.Test.YtegdigfcgeoboaaK31
set_option maxHeartbeats 16000000
set_option linter.unusedVariables false
set_option linter.unusedSimpArgs false
set_option linter.unusedSectionVars false
namespace Go.Proofs.Ytegdigfcgeoboaa
open Go.RowKit
attribute [local go_sem ↓] Go.wp_at_zero Go.wp_at_succ
variable {u0 u1 u2 u8 u9 gI kI gJ jY eG eH u16 eE eF dX dY dZ eA eB eC eD eI eJ eK eL eM eN u32 eO eP iN iO iP iQ iR fK iS iT iU iV iW iX gK gL gM gN gO gP gQ gR gS gT iY iZ jA jB jC jD jE u64 jF jG jH jJ jK jL jM jN jO jP jQ jR jZ kE kF kG kH jS jT jU jV jW jX kJ kK kM kN kO kP kQ kR kS kT kU kV aK aG aA aB aC aD aE aF aH aI aJ aL bC bD bE bF bG bH bI bJ bK bL aR aM aN aO aP aQ aS aT aU aV aW aX aY aZ bA bM bN bP bQ : Value}
noncomputable def codeLa : Code := restC code5
set_option maxRecDepth 1000000 in
theorem lim_1 {B : Nat} {w W : World} {P : Nat} {n : Int} {v0 v1 v2 v3 v4 v5 v6 : Value} (hn : -1 ≤ n ∧ n ≤ 1) (hk : Kept w W) (hPw : w.heap.size ≤ P) (hP : W.heap[P]? = some (.cells #[v0, v1, v2, v3, v4] 48 (0, 0)))
  (h5 : PartIs P B W v5 headL) (h6 : PartIs P B W v6 endL) (hPB : P < B) (hBW : B ≤ W.heap.size) (hv0 : v0 = .slice none 0 0) (hv1 : v1 = .slice none 0 0) (hv2 : v2 = .slice none 0 0) (hv3 : v3 = .slice none 0 0) (hv4 : v4 = .slice none 0 0)
  (K K2 : Act → World → Prop) (hK : ∀ a w', Code.wp Try.prog (restC (headC codeLa)) (Exit.then K2 (bodyPost Try.prog Try.f5 fun e w' => e = .returned (.bool true) ∧ Kept w w')) a w' → K a w') (hK2 : ∀ a w', Code.wp Try.prog (restC codeLa) (bodyPost Try.prog Try.f5 fun e w' => e = .returned (.bool true) ∧ Kept w w') a w' → K2 a w') :
  Code.wp Try.prog (headC (headC codeLa)) (Exit.then K (Exit.then K2 (bodyPost Try.prog Try.f5 fun e w' => e = .returned (.bool true) ∧ Kept w w'))) ⟨#[u0, u1, u2, .int .i64 n, .bool (decide (0 < n)), v5, v6, .pointer (some ⟨P, 0, none⟩), u8, u9, gI, kI, gJ, jY, eG, eH, u16, eE, eF, dX, dY, dZ, eA, eB, eC, eD, eI, eJ, eK, eL, eM, eN, u32, eO, eP, iN, iO, iP, iQ, iR, fK, iS, iT, iU, iV, iW, iX, gK, gL, gM, gN, gO, gP, gQ, gR, gS, gT, iY, iZ, jA, jB, jC, jD, jE, u64, jF, jG, jH, jJ, jK, jL, jM, jN, jO, jP, jQ, jR, jZ, kE, kF, kG, kH, jS, jT, jU, jV, jW, jX, kJ, kK, kM, kN, kO, kP, kQ, kR, kS, kT, kU, kV, aK, aG, aA, aB, aC, aD, aE, aF, aH, aI, aJ, aL, bC, bD, bE, bF, bG, bH, bI, bJ, bK, bL, aR, aM, aN, aO, aP, aQ, aS, aT, aU, aV, aW, aX, aY, aZ, bA, bM, bN, bP, bQ], []⟩ W := by
 conv => arg 2; whnf
 conv at hK => enter [a, w', 1, 2]; whnf
 conv at hK2 => enter [a, w', 1, 2]; whnf
 dsimp only
 subst hv0
 subst hv1
 subst hv2
 subst hv3
 subst hv4
 obtain ⟨i29, hi29, hz0, hz1, hz2⟩ := info_parts info29
 obtain ⟨hn1, hn2⟩ := hn
 have Hk := hide hk
 clear hk
 replace h5 := h5.mono hBW
 replace h6 := h6.mono hBW
 clear hPB hBW
 have hPB := heap_lt hP
 have hBW := Nat.le_refl W.heap.size
 have HL0 : Hid (([] : List It).length ≤ 1000) := hide (by decide)
 have own : Own itT 29 W.heap.size W (.slice none 0 0) ([] : List It).length [] := Own.nil _ _ _ _
 obtain ⟨y0, hy0⟩ : ∃ y, iI 0 8 1 = y := ⟨_, rfl⟩
 have hit0 := item17i 0 8 1 (by omega) (by omega) y0 hy0
 have Hok : Hid (∀ x ∈ [y0], x.ok) := hide (by
  intro x hx
  simp at hx
  subst hx
  rw [← hy0]; exact iI_ok (by decide) (by decide))
 have Hy0 := hide hy0
 clear hy0
 obtain ⟨NN, hNN⟩ : ∃ NN : Nat, (256 + n).toNat = NN := ⟨_, rfl⟩
 have hNI : 256 + n = (NN : Int) := by rw [← hNN]; omega
 have HNN := hide hNN
 have hNN3 : NN ≤ 300 := by rw [← hNN]; omega
 clear hNN
 have hwr : IntKind.i64.wrap (256 + n) = (NN : Int) := by rw [← hNI, IntKind.wrap_i64]; omega
 go_wp2_with fail
 go_loopg [8] NN (fun g sc wr => ∃ (i : Nat) (v : Value), i + g = NN ∧ sc = .int .i64 i ∧ wr.heap[P]? = some (.cells #[v, .slice none 0 0, .slice none 0 0, .slice none 0 0, .slice none 0 0] 48 (0, 0)) ∧ Own itT 29 W.heap.size wr v (([] : List It) ++ repL i [y0]).length (([] : List It) ++ repL i [y0]) ∧ KeptTo P W.heap.size W wr)
 case atStart => exact ⟨0, _, by omega, rfl, hP, by rw [show repL 0 [y0] = [] from rfl, List.append_nil]; exact own, KeptTo.refl⟩
 case round =>
  obtain ⟨i, v, hi, rfl, hPr0, hown, hkt⟩ := hrel
  have Hi := hide hi
  have HPr := hide hPr0
  have hPr := heap_lt hPr0
  have hcr : wr.cell? ⟨P, 0, none⟩ = some v := cell_heap hPr0 (o := 0) rfl
  have hBr : W.heap.size ≤ wr.heap.size := Nat.le_trans hBW hkt.size
  clear hi hPr0
  by_cases hlt : i < NN
  ·have hi0 : (0 : Int) ≤ (i : Int) := by omega
   have hlt' : (i : Int) < (NN : Int) := by omega
   have hln0 : (([] : List It) ++ repL i [y0]).length ≤ 5000 := by rw [List.length_append, repL_len]; have h3 : i * [y0].length ≤ 900 := (by show i * 1 ≤ 900; omega); have h4 := HL0.out; omega
   obtain ⟨X, hX⟩ : ∃ X, ([] : List It) ++ repL i [y0] = X := ⟨_, rfl⟩
   rw [hX] at hown hln0
   obtain ⟨ln, hln⟩ : ∃ ln, X.length = ln := ⟨_, rfl⟩
   rw [hln] at hown hln0
   have HX := hide hX
   have Hln := hide hln
   clear hX hln
   go_wp2_with fail
   refine wp_region_held_drew (S := fun _ => True ∧ True) (by kernel_rfl) ⟨trivial, trivial⟩ (fun hS => ?_)
   refine tk0 (i := 0) (v := ?_) rfl (by kernel_rfl) hS ?_ ?_
   rotate_left
   ·intro w' hq hq2; first | (go_simp; done) | (go_simp; with_reducible rfl)
   try simp only [Act.put, zp1, zp2, zp3, zp4, zp5, zp6]
   refine wpAnyH_ready (rs := [1, 2]) (by kernel_rfl) (by simp) ?_
   refine (AllReadyH.cons rfl (fun K hK => ?_) (AllReadyH.cons rfl (fun K hK => ?_) AllReadyH.nil))
   ·go_simp
    try dsimp only
    refine hK.out _ _ ?_ (fun hS => ?_)
    ·exact hS
    clear hK K
    try simp only [Act.put, zp1, zp2, zp3, zp4, zp5, zp6]
    refine wpAnyH_ready (rs := [2]) (by kernel_rfl) (by simp) ?_
    refine (AllReadyH.cons rfl (fun K hK => ?_) AllReadyH.nil)
    go_simp
    go_at_call 17
    refine (hit0 _).mono ?_
    rintro e w0 ⟨rfl, hk0⟩
    try dsimp only
    refine hK.out _ _ ?_ (fun hS => ?_)
    ·exact hS
    clear hK K
    try simp only [Act.put, zp1, zp2, zp3, zp4, zp5, zp6]
    have kk0 : Kept wr w0 := Kept.trans' (((Below.refl wr.heap.size wr).drew)) hk0
    have ce0 : w0.cell? ⟨P, 0, none⟩ = some v := (kk0.cell (p := ⟨P, 0, none⟩) hPr).trans hcr
    have lz0 : P < w0.heap.size := Nat.lt_of_lt_of_le hPr kk0.size
    refine wpAnyH_ready (rs := [3]) (by kernel_rfl) (by simp) ?_
    refine (AllReadyH.cons rfl (fun K hK => ?_) AllReadyH.nil)
    go_simp
    try dsimp only
    refine hK.out _ _ ?_ (fun hS => ?_)
    ·exact hS
    clear hK K
    try simp only [Act.put, zp1, zp2, zp3, zp4, zp5, zp6]
    refine wpAnyH_ready (rs := [4]) (by kernel_rfl) (by simp) ?_
    refine (AllReadyH.cons rfl (fun K hK => ?_) AllReadyH.nil)
    have kkb : Kept wr (w0.alloc (.cells #[.int .u8 y0.ty, .int .u8 y0.tg, .int .i64 y0.size, .int .u32 y0.data] 29)) := kk0.alloc kk0.size _
    have hownB := hown.kept kkb
    have hnew : Sl itT (w0.alloc (.cells #[.int .u8 y0.ty, .int .u8 y0.tg, .int .i64 y0.size, .int .u32 y0.data] 29)) (apart (w0.alloc (.cells #[.int .u8 y0.ty, .int .u8 y0.tg, .int .i64 y0.size, .int .u32 y0.data] 29)) v) (some ⟨w0.heap.size, 0, none⟩) 1 [y0] := sl_it_heap (heap_at _ rfl) rfl Hok.out ⟨by simp, fun e => by have h1 := (hown.lt e).2; have h2 := kk0.size; omega⟩
    refine step_append_sl (T := itT) rfl (.tmp 40) (.tmp 42) 22 rfl W.heap.size 29 i29 _ 24 Try.underlying22 hi29 hz0 hz1 hz2 rfl (show 0 < 4 by decide) v ln X (by rfl) hownB (some ⟨w0.heap.size, 0, none⟩) 1 1 [y0] (by rfl) hnew (by_one29 _ _) (by unfold maxLen; omega) (by omega) (Nat.le_trans hBr kkb.size) ?_
    intro u7 x7 hown7 hg7 hb7 hat7
    obtain ⟨Au, cu, rfl, hu1, hu2⟩ := hown7.isSlice
    clear hu1 hu2
    have hP7 := (hb7.block P hPB).trans (heap_kept kkb HPr.out)
    have cz7 : x7.cell? ⟨P, 0, none⟩ = some v := cell_heap hP7 (o := 0) rfl
    have fz7 := frozen_heap hP7 (o := 0)
    have lz7 := heap_lt hP7
    refine hK.out _ _ ?_ (fun hS => ?_)
    ·exact hS
    clear hK K
    try simp only [Act.put, zp1, zp2, zp3, zp4, zp5, zp6]
    refine tk0 (i := 5) (v := ?_) rfl (by kernel_rfl) hS ?_ ?_
    rotate_left
    ·intro w' hq hq2; first | (go_simp; done) | (go_simp; with_reducible rfl)
    try simp only [Act.put, zp1, zp2, zp3, zp4, zp5, zp6]
    refine wpAnyH_ready (rs := [6]) (by kernel_rfl) (by simp) ?_
    refine (AllReadyH.cons rfl (fun K hK => ?_) AllReadyH.nil)
    go_simp
    try dsimp only
    refine hK.out _ _ ?_ (fun hS => ?_)
    ·exact hS
    clear hK K
    try simp only [Act.put, zp1, zp2, zp3, zp4, zp5, zp6]
    refine wpAnyH_done (by kernel_rfl) ?_ _
    have hkt7 := hkt.trans ((KeptTo.of kkb hBr).trans ((KeptTo.below hb7).trans (KeptTo.set (P := P) 0 (.slice Au (ln + 1) cu))))
    have hP8 := heap_store (i := 0) hP7 (.slice Au (ln + 1) cu)
    have hown8 := hown7.setCell (fun h => h) (p := ⟨P, 0, none⟩) hPB (.slice Au (ln + 1) cu)
    clear hS cz7 fz7 hown7 hb7 hg7 hat7 hP7 hownB hnew
    go_wp2_with fail
    go_roundg (gk - 1)
    case measure => have := Hi.out; omega
    case rel =>
     refine ⟨i + 1, _, by have := Hi.out; omega, by go_num, hP8, ?_, hkt7⟩
     have e : ([] : List It) ++ repL (i + 1) [y0] = X ++ [y0] := by rw [repL_succ, ← List.append_assoc, HX.out]
     have e2 : (([] : List It) ++ repL (i + 1) [y0]).length = ln + 1 := by rw [e, List.length_append, Hln.out]; rfl
     rw [e2, e]
     exact hown8
   ·go_simp
    go_at_call 17
    refine (hit0 _).mono ?_
    rintro e w0 ⟨rfl, hk0⟩
    try dsimp only
    refine hK.out _ _ ?_ (fun hS => ?_)
    ·exact hS
    clear hK K
    try simp only [Act.put, zp1, zp2, zp3, zp4, zp5, zp6]
    have kk0 : Kept wr w0 := Kept.trans' (((Below.refl wr.heap.size wr).drew)) hk0
    have ce0 : w0.cell? ⟨P, 0, none⟩ = some v := (kk0.cell (p := ⟨P, 0, none⟩) hPr).trans hcr
    have lz0 : P < w0.heap.size := Nat.lt_of_lt_of_le hPr kk0.size
    refine wpAnyH_ready (rs := [1, 3]) (by kernel_rfl) (by simp) ?_
    refine (AllReadyH.cons rfl (fun K hK => ?_) (AllReadyH.cons rfl (fun K hK => ?_) AllReadyH.nil))
    ·go_simp
     try dsimp only
     refine hK.out _ _ ?_ (fun hS => ?_)
     ·exact hS
     clear hK K
     try simp only [Act.put, zp1, zp2, zp3, zp4, zp5, zp6]
     refine wpAnyH_ready (rs := [3]) (by kernel_rfl) (by simp) ?_
     refine (AllReadyH.cons rfl (fun K hK => ?_) AllReadyH.nil)
     go_simp
     try dsimp only
     refine hK.out _ _ ?_ (fun hS => ?_)
     ·exact hS
     clear hK K
     try simp only [Act.put, zp1, zp2, zp3, zp4, zp5, zp6]
     refine wpAnyH_ready (rs := [4]) (by kernel_rfl) (by simp) ?_
     refine (AllReadyH.cons rfl (fun K hK => ?_) AllReadyH.nil)
     have kkb : Kept wr (w0.alloc (.cells #[.int .u8 y0.ty, .int .u8 y0.tg, .int .i64 y0.size, .int .u32 y0.data] 29)) := kk0.alloc kk0.size _
     have hownB := hown.kept kkb
     have hnew : Sl itT (w0.alloc (.cells #[.int .u8 y0.ty, .int .u8 y0.tg, .int .i64 y0.size, .int .u32 y0.data] 29)) (apart (w0.alloc (.cells #[.int .u8 y0.ty, .int .u8 y0.tg, .int .i64 y0.size, .int .u32 y0.data] 29)) v) (some ⟨w0.heap.size, 0, none⟩) 1 [y0] := sl_it_heap (heap_at _ rfl) rfl Hok.out ⟨by simp, fun e => by have h1 := (hown.lt e).2; have h2 := kk0.size; omega⟩
     refine step_append_sl (T := itT) rfl (.tmp 40) (.tmp 42) 22 rfl W.heap.size 29 i29 _ 24 Try.underlying22 hi29 hz0 hz1 hz2 rfl (show 0 < 4 by decide) v ln X (by rfl) hownB (some ⟨w0.heap.size, 0, none⟩) 1 1 [y0] (by rfl) hnew (by_one29 _ _) (by unfold maxLen; omega) (by omega) (Nat.le_trans hBr kkb.size) ?_
     intro u7 x7 hown7 hg7 hb7 hat7
     obtain ⟨Au, cu, rfl, hu1, hu2⟩ := hown7.isSlice
     clear hu1 hu2
     have hP7 := (hb7.block P hPB).trans (heap_kept kkb HPr.out)
     have cz7 : x7.cell? ⟨P, 0, none⟩ = some v := cell_heap hP7 (o := 0) rfl
     have fz7 := frozen_heap hP7 (o := 0)
     have lz7 := heap_lt hP7
     refine hK.out _ _ ?_ (fun hS => ?_)
     ·exact hS
     clear hK K
     try simp only [Act.put, zp1, zp2, zp3, zp4, zp5, zp6]
     refine tk0 (i := 5) (v := ?_) rfl (by kernel_rfl) hS ?_ ?_
     rotate_left
     ·intro w' hq hq2; first | (go_simp; done) | (go_simp; with_reducible rfl)
     try simp only [Act.put, zp1, zp2, zp3, zp4, zp5, zp6]
     refine wpAnyH_ready (rs := [6]) (by kernel_rfl) (by simp) ?_
     refine (AllReadyH.cons rfl (fun K hK => ?_) AllReadyH.nil)
     go_simp
     try dsimp only
     refine hK.out _ _ ?_ (fun hS => ?_)
     ·exact hS
     clear hK K
     try simp only [Act.put, zp1, zp2, zp3, zp4, zp5, zp6]
     refine wpAnyH_done (by kernel_rfl) ?_ _
     have hkt7 := hkt.trans ((KeptTo.of kkb hBr).trans ((KeptTo.below hb7).trans (KeptTo.set (P := P) 0 (.slice Au (ln + 1) cu))))
     have hP8 := heap_store (i := 0) hP7 (.slice Au (ln + 1) cu)
     have hown8 := hown7.setCell (fun h => h) (p := ⟨P, 0, none⟩) hPB (.slice Au (ln + 1) cu)
     clear hS cz7 fz7 hown7 hb7 hg7 hat7 hP7 hownB hnew
     go_wp2_with fail
     go_roundg (gk - 1)
     case measure => have := Hi.out; omega
     case rel =>
      refine ⟨i + 1, _, by have := Hi.out; omega, by go_num, hP8, ?_, hkt7⟩
      have e : ([] : List It) ++ repL (i + 1) [y0] = X ++ [y0] := by rw [repL_succ, ← List.append_assoc, HX.out]
      have e2 : (([] : List It) ++ repL (i + 1) [y0]).length = ln + 1 := by rw [e, List.length_append, Hln.out]; rfl
      rw [e2, e]
      exact hown8
    ·go_simp
     try dsimp only
     refine hK.out _ _ ?_ (fun hS => ?_)
     ·exact hS
     clear hK K
     try simp only [Act.put, zp1, zp2, zp3, zp4, zp5, zp6]
     refine wpAnyH_ready (rs := [1]) (by kernel_rfl) (by simp) ?_
     refine (AllReadyH.cons rfl (fun K hK => ?_) AllReadyH.nil)
     go_simp
     try dsimp only
     refine hK.out _ _ ?_ (fun hS => ?_)
     ·exact hS
     clear hK K
     try simp only [Act.put, zp1, zp2, zp3, zp4, zp5, zp6]
     refine wpAnyH_ready (rs := [4]) (by kernel_rfl) (by simp) ?_
     refine (AllReadyH.cons rfl (fun K hK => ?_) AllReadyH.nil)
     have kkb : Kept wr (w0.alloc (.cells #[.int .u8 y0.ty, .int .u8 y0.tg, .int .i64 y0.size, .int .u32 y0.data] 29)) := kk0.alloc kk0.size _
     have hownB := hown.kept kkb
     have hnew : Sl itT (w0.alloc (.cells #[.int .u8 y0.ty, .int .u8 y0.tg, .int .i64 y0.size, .int .u32 y0.data] 29)) (apart (w0.alloc (.cells #[.int .u8 y0.ty, .int .u8 y0.tg, .int .i64 y0.size, .int .u32 y0.data] 29)) v) (some ⟨w0.heap.size, 0, none⟩) 1 [y0] := sl_it_heap (heap_at _ rfl) rfl Hok.out ⟨by simp, fun e => by have h1 := (hown.lt e).2; have h2 := kk0.size; omega⟩
     refine step_append_sl (T := itT) rfl (.tmp 40) (.tmp 42) 22 rfl W.heap.size 29 i29 _ 24 Try.underlying22 hi29 hz0 hz1 hz2 rfl (show 0 < 4 by decide) v ln X (by rfl) hownB (some ⟨w0.heap.size, 0, none⟩) 1 1 [y0] (by rfl) hnew (by_one29 _ _) (by unfold maxLen; omega) (by omega) (Nat.le_trans hBr kkb.size) ?_
     intro u7 x7 hown7 hg7 hb7 hat7
     obtain ⟨Au, cu, rfl, hu1, hu2⟩ := hown7.isSlice
     clear hu1 hu2
     have hP7 := (hb7.block P hPB).trans (heap_kept kkb HPr.out)
     have cz7 : x7.cell? ⟨P, 0, none⟩ = some v := cell_heap hP7 (o := 0) rfl
     have fz7 := frozen_heap hP7 (o := 0)
     have lz7 := heap_lt hP7
     refine hK.out _ _ ?_ (fun hS => ?_)
     ·exact hS
     clear hK K
     try simp only [Act.put, zp1, zp2, zp3, zp4, zp5, zp6]
     refine tk0 (i := 5) (v := ?_) rfl (by kernel_rfl) hS ?_ ?_
     rotate_left
     ·intro w' hq hq2; first | (go_simp; done) | (go_simp; with_reducible rfl)
     try simp only [Act.put, zp1, zp2, zp3, zp4, zp5, zp6]
     refine wpAnyH_ready (rs := [6]) (by kernel_rfl) (by simp) ?_
     refine (AllReadyH.cons rfl (fun K hK => ?_) AllReadyH.nil)
     go_simp
     try dsimp only
     refine hK.out _ _ ?_ (fun hS => ?_)
     ·exact hS
     clear hK K
     try simp only [Act.put, zp1, zp2, zp3, zp4, zp5, zp6]
     refine wpAnyH_done (by kernel_rfl) ?_ _
     have hkt7 := hkt.trans ((KeptTo.of kkb hBr).trans ((KeptTo.below hb7).trans (KeptTo.set (P := P) 0 (.slice Au (ln + 1) cu))))
     have hP8 := heap_store (i := 0) hP7 (.slice Au (ln + 1) cu)
     have hown8 := hown7.setCell (fun h => h) (p := ⟨P, 0, none⟩) hPB (.slice Au (ln + 1) cu)
     clear hS cz7 fz7 hown7 hb7 hg7 hat7 hP7 hownB hnew
     go_wp2_with fail
     go_roundg (gk - 1)
     case measure => have := Hi.out; omega
     case rel =>
      refine ⟨i + 1, _, by have := Hi.out; omega, by go_num, hP8, ?_, hkt7⟩
      have e : ([] : List It) ++ repL (i + 1) [y0] = X ++ [y0] := by rw [repL_succ, ← List.append_assoc, HX.out]
      have e2 : (([] : List It) ++ repL (i + 1) [y0]).length = ln + 1 := by rw [e, List.length_append, Hln.out]; rfl
      rw [e2, e]
      exact hown8
  ·have hge : (NN : Int) ≤ (i : Int) := by omega
   have hiN : i = NN := by have := Hi.out; omega
   subst hiN
   have hsz := hkt.size
   have h0 : PartIs P wr.heap.size wr v (partL n 0) := by
    have e : ([] : List It) ++ repL i [y0] = partL n 0 := by rw [List.nil_append, ← HNN.out, ← Hy0.out]; rfl
    rw [e] at hown
    exact PartIs.own hown hPB
   go_upto_region 10 with (fail)
   refine lim_2 (B := wr.heap.size) ⟨hn1, hn2⟩ (hkt.kept Hk.out hPw hPB) hPw HPr.out ((h5.keep hkt).mono hsz) ((h6.keep hkt).mono hsz) (Nat.lt_of_lt_of_le hPB hsz) (Nat.le_refl _) h0 rfl rfl rfl rfl _ _ ?_ ?_ <;> assumption
theorem PartIs.past {P B : Nat} {w : World} {v : Value} {l : List It} (h : PartIs P B w v l) {P' : Nat} (hB : B ≤ P') : PartIs P' P' w v l := by
 obtain ⟨A, c, e, h1, h2, h3⟩ := h
 exact ⟨A, c, e, h1, h2, h3.keep (fun _ hb => ⟨by omega, by have := hb.1; omega⟩) (fun _ _ _ => rfl)⟩
set_option maxRecDepth 1000000 in
theorem lim_law (less : Int) (hl : 0 ≤ less ∧ less < 256) (w : World) : Calls Try.prog 5 #[.int .u8 less] w fun e w' => e = .returned (.bool true) ∧ Kept w w' := by
 obtain ⟨i29, hi29, hz0, hz1, hz2⟩ := info_parts info29
 obtain ⟨y0, hy0⟩ : ∃ y, iI 1 7 1 = y := ⟨_, rfl⟩
 have hit0 := item17i 1 7 1 (by omega) (by omega) y0 hy0
 obtain ⟨y1, hy1⟩ : ∃ y, iI 1 9 1 = y := ⟨_, rfl⟩
 have hit1 := item17i 1 9 1 (by omega) (by omega) y1 hy1
 obtain ⟨y2, hy2⟩ : ∃ y, iI 0 10 0 = y := ⟨_, rfl⟩
 have hit2 := item17i 0 10 0 (by omega) (by omega) y2 hy2
 obtain ⟨y3, hy3⟩ : ∃ y, iI 0 12 0 = y := ⟨_, rfl⟩
 have hit3 := item17i 0 12 0 (by omega) (by omega) y3 hy3
 have Hok : Hid (∀ x ∈ [y0, y1, y2], x.ok) := hide (by
  intro x hx
  simp at hx
  rcases hx with rfl | rfl | rfl
  ·rw [← hy0]; exact iI_ok (by decide) (by decide)
  ·rw [← hy1]; exact iI_ok (by decide) (by decide)
  ·rw [← hy2]; exact iI_ok (by decide) (by decide))
 have Hok3 : Hid (∀ x ∈ [y3], x.ok) := hide (by
  intro x hx
  simp at hx
  subst hx
  rw [← hy3]; exact iI_ok (by decide) (by decide))
 have Hh : Hid ([y0, y1, y2] = headL) := hide (by rw [← hy0, ← hy1, ← hy2]; rfl)
 have He : Hid ([y3] = endL) := hide (by rw [← hy3]; rfl)
 clear hy0 hy1 hy2 hy3
 obtain ⟨n, hn⟩ : ∃ n : Int, less % 3 - 1 = n := ⟨_, rfl⟩
 have hn3 : less % 3 = n + 1 := by omega
 have hnn : -1 ≤ n ∧ n ≤ 1 := by omega
 have hw0 : IntKind.i64.wrap (n + 1) = n + 1 := by rw [IntKind.wrap_i64]; omega
 have hw1 : IntKind.i64.wrap (n + 1 - 1) = n := by rw [IntKind.wrap_i64]; omega
 have hw2 : IntKind.u8.wrap (n + 1) = n + 1 := by rw [IntKind.wrap_u8]; omega
 have hw4 : less.tmod 3 = n + 1 := by rw [Int.tmod_eq_emod_of_nonneg hl.1]; exact hn3
 go_enter Try.func5, Try.ntmps5
 go_wp2_with fail
 refine (hit0 _).mono ?_
 rintro e w1 ⟨rfl, hk1⟩
 go_wp2_with fail
 go_at_call 17
 refine (hit1 _).mono ?_
 rintro e w2 ⟨rfl, hk2⟩
 go_wp2_with fail
 go_at_call 17
 refine (hit2 _).mono ?_
 rintro e w3 ⟨rfl, hk3⟩
 have k3 : Kept w w3 := (hk1.trans' hk2).trans' hk3
 clear hk1 hk2 hk3 hit0 hit1 hit2
 go_upto_region 4 with (fail)
 refine wp_at (fun W => Kept w W ∧ PartIs W.heap.size W.heap.size W (.slice (some ⟨w3.heap.size, 0, none⟩) 3 3) headL) ?_ (fun W hW => ?_)
 ·refine ⟨k3.alloc k3.size _, ?_⟩
  rw [← Hh.out]
  refine ⟨some ⟨w3.heap.size, 0, none⟩, 3, rfl, Nat.le_refl _, by decide, ?_⟩
  refine sl_it_heap (cs := #[.int .u8 y0.ty, .int .u8 y0.tg, .int .i64 y0.size, .int .u32 y0.data, .int .u8 y1.ty, .int .u8 y1.tg, .int .i64 y1.size, .int .u32 y1.data, .int .u8 y2.ty, .int .u8 y2.tg, .int .i64 y2.size, .int .u32 y2.data]) (t := 29) ?_ rfl Hok.out ⟨by simp, by simp⟩
  exact heap_at _ (by simp)
 obtain ⟨kW, hh⟩ := hW
 clear k3
 go_wp2_with fail
 go_at_call 17
 refine (hit3 _).mono ?_
 rintro e w4 ⟨rfl, hk4⟩
 have k4 : Kept w w4 := kW.trans' hk4
 have hh4 := hh.keep (KeptTo.of (P := W.heap.size) hk4 (Nat.le_refl _))
 clear hit3
 go_upto_region 5 with (fail)
 refine wp_at (fun W2 => Kept w W2 ∧ PartIs W2.heap.size W2.heap.size W2 (.slice (some ⟨w3.heap.size, 0, none⟩) 3 3) headL ∧ PartIs W2.heap.size W2.heap.size W2 (.slice (some ⟨w4.heap.size, 0, none⟩) 1 1) endL) ?_ (fun W2 hW2 => ?_)
 ·have kb : Kept w4 (w4.alloc (.cells #[.int .u8 y3.ty, .int .u8 y3.tg, .int .i64 y3.size, .int .u32 y3.data] 29)) := (Below.refl _ _).alloc (Nat.le_refl _) _
  have hz := hk4.size
  refine ⟨k4.alloc k4.size _, (hh4.keep (KeptTo.of (P := W.heap.size) kb hz)).past (by simp; omega), ?_⟩
  rw [← He.out]
  refine ⟨some ⟨w4.heap.size, 0, none⟩, 1, rfl, Nat.le_refl _, by decide, ?_⟩
  refine sl_it_heap (cs := #[.int .u8 y3.ty, .int .u8 y3.tg, .int .i64 y3.size, .int .u32 y3.data]) (t := 29) ?_ rfl Hok3.out ⟨by simp, by simp⟩
  exact heap_at _ (by simp)
 obtain ⟨k2, h5, h6⟩ := hW2
 clear hh hh4 kW hk4 k4
 go_upto_region 6 with (fail)
 refine wp_at (fun W3 => Kept w W3 ∧ W3.heap[W2.heap.size]? = some (.cells #[.slice none 0 0, .slice none 0 0, .slice none 0 0, .slice none 0 0, .slice none 0 0] 48 (0, 0)) ∧ PartIs W2.heap.size W2.heap.size W3 (.slice (some ⟨w3.heap.size, 0, none⟩) 3 3) headL ∧ PartIs W2.heap.size W2.heap.size W3 (.slice (some ⟨w4.heap.size, 0, none⟩) 1 1) endL ∧ W2.heap.size < W3.heap.size) ?_ (fun W3 hW3 => ?_)
 ·have kb : Kept W2 (W2.alloc (.cells #[.slice none 0 0, .slice none 0 0, .slice none 0 0, .slice none 0 0, .slice none 0 0] 48)) := (Below.refl _ _).alloc (Nat.le_refl _) _
  have kt := KeptTo.of (P := W2.heap.size) kb (Nat.le_refl _)
  refine ⟨k2.trans' kb, ?_, h5.keep kt, h6.keep kt, by simp⟩
  exact heap_at _ rfl
 obtain ⟨k3, hP, h5, h6, hlt⟩ := hW3
 refine lim_1 (B := W3.heap.size) hnn k3 k2.size hP (h5.mono (Nat.le_of_lt hlt)) (h6.mono (Nat.le_of_lt hlt)) hlt (Nat.le_refl _) rfl rfl rfl rfl rfl _ _ ?_ ?_ <;> assumption
end Go.Proofs.Ytegdigfcgeoboaa
namespace Go.Proofs.Ytegdigfcgeoboaa
open Go.RowKit Go.Maps
theorem list_fn (l : List Value) (n : Nat) (h : l.length = n) : ∃ f : Nat → Value, (∀ i, i < n → l[i]? = some (f i)) ∧ l = (List.range n).map f := by
 refine ⟨fun i => (l[i]?).getD (.bool false), fun i hi => ?_, ?_⟩
 ·have hl : i < l.length := by omega
  show l[i]? = some ((l[i]?).getD (.bool false))
  rw [List.getElem?_eq_getElem hl]; rfl
 apply List.ext_getElem?
 intro i
 rw [List.getElem?_map]
 by_cases hi : i < n
 ·rw [List.getElem?_range hi]
  have hl : i < l.length := by omega
  simp [hl]
 ·rw [List.getElem?_eq_none (by omega), List.getElem?_eq_none (by simp; omega)]; rfl
def findR (k : Nat) : Code → Option Code
 | .seq a c => match a with
  | .region i o b => if i = k then some (.seq (.region i o b) c) else findR k c
  | a => (findR k a).orElse fun _ => findR k c
 | .block _ c => findR k c
 | .scope c => findR k c
 | .loop c => findR k c
 | .cond _ c e => (findR k c).orElse fun _ => findR k e
 | .region i o b => if i = k then some (.region i o b) else none
 | _ => none
def elseC : Code → Code
 | .cond _ _ e => e
 | c => c
set_option maxRecDepth 100000 in
theorem frame_loop {a : Act} {v0 v2 v4 v5 v6 v7 v8 v9 v10 : Value} (hs : a.tmps.size = 446) (hm : a.defers = []) (h0 : a.tmps[0]? = some v0) (h2 : a.tmps[2]? = some v2) (h4 : a.tmps[4]? = some v4) (h5 : a.tmps[5]? = some v5) (h6 : a.tmps[6]? = some v6) (h7 : a.tmps[7]? = some v7) (h8 : a.tmps[8]? = some v8) (h9 : a.tmps[9]? = some v9) (h10 : a.tmps[10]? = some v10) : ∃ j : Nat → Value, a = ⟨#[v0, j 1, v2, j 3, v4, v5, v6, v7, v8, v9, v10, j 11, j 12, j 13, j 14, j 15, j 16, j 17, j 18, j 19, j 20, j 21, j 22, j 23, j 24, j 25, j 26, j 27, j 28, j 29, j 30, j 31, j 32, j 33, j 34, j 35, j 36, j 37, j 38, j 39, j 40, j 41, j 42, j 43, j 44, j 45, j 46, j 47, j 48, j 49, j 50, j 51, j 52, j 53, j 54, j 55, j 56, j 57, j 58, j 59, j 60, j 61, j 62, j 63, j 64, j 65, j 66, j 67, j 68, j 69, j 70, j 71, j 72, j 73, j 74, j 75, j 76, j 77, j 78, j 79, j 80, j 81, j 82, j 83, j 84, j 85, j 86, j 87, j 88, j 89, j 90, j 91, j 92, j 93, j 94, j 95, j 96, j 97, j 98, j 99, j 100, j 101, j 102, j 103, j 104, j 105, j 106, j 107, j 108, j 109, j 110, j 111, j 112, j 113, j 114, j 115, j 116, j 117, j 118, j 119, j 120, j 121, j 122, j 123, j 124, j 125, j 126, j 127, j 128, j 129, j 130, j 131, j 132, j 133, j 134, j 135, j 136, j 137, j 138, j 139, j 140, j 141, j 142, j 143, j 144, j 145, j 146, j 147, j 148, j 149, j 150, j 151, j 152, j 153, j 154, j 155, j 156, j 157, j 158, j 159, j 160, j 161, j 162, j 163, j 164, j 165, j 166, j 167, j 168, j 169, j 170, j 171, j 172, j 173, j 174, j 175, j 176, j 177, j 178, j 179, j 180, j 181, j 182, j 183, j 184, j 185, j 186, j 187, j 188, j 189, j 190, j 191, j 192, j 193, j 194, j 195, j 196, j 197, j 198, j 199, j 200, j 201, j 202, j 203, j 204, j 205, j 206, j 207, j 208, j 209, j 210, j 211, j 212, j 213, j 214, j 215, j 216, j 217, j 218, j 219, j 220, j 221, j 222, j 223, j 224, j 225, j 226, j 227, j 228, j 229, j 230, j 231, j 232, j 233, j 234, j 235, j 236, j 237, j 238, j 239, j 240, j 241, j 242, j 243, j 244, j 245, j 246, j 247, j 248, j 249, j 250, j 251, j 252, j 253, j 254, j 255, j 256, j 257, j 258, j 259, j 260, j 261, j 262, j 263, j 264, j 265, j 266, j 267, j 268, j 269, j 270, j 271, j 272, j 273, j 274, j 275, j 276, j 277, j 278, j 279, j 280, j 281, j 282, j 283, j 284, j 285, j 286, j 287, j 288, j 289, j 290, j 291, j 292, j 293, j 294, j 295, j 296, j 297, j 298, j 299, j 300, j 301, j 302, j 303, j 304, j 305, j 306, j 307, j 308, j 309, j 310, j 311, j 312, j 313, j 314, j 315, j 316, j 317, j 318, j 319, j 320, j 321, j 322, j 323, j 324, j 325, j 326, j 327, j 328, j 329, j 330, j 331, j 332, j 333, j 334, j 335, j 336, j 337, j 338, j 339, j 340, j 341, j 342, j 343, j 344, j 345, j 346, j 347, j 348, j 349, j 350, j 351, j 352, j 353, j 354, j 355, j 356, j 357, j 358, j 359, j 360, j 361, j 362, j 363, j 364, j 365, j 366, j 367, j 368, j 369, j 370, j 371, j 372, j 373, j 374, j 375, j 376, j 377, j 378, j 379, j 380, j 381, j 382, j 383, j 384, j 385, j 386, j 387, j 388, j 389, j 390, j 391, j 392, j 393, j 394, j 395, j 396, j 397, j 398, j 399, j 400, j 401, j 402, j 403, j 404, j 405, j 406, j 407, j 408, j 409, j 410, j 411, j 412, j 413, j 414, j 415, j 416, j 417, j 418, j 419, j 420, j 421, j 422, j 423, j 424, j 425, j 426, j 427, j 428, j 429, j 430, j 431, j 432, j 433, j 434, j 435, j 436, j 437, j 438, j 439, j 440, j 441, j 442, j 443, j 444, j 445], []⟩ := by
 obtain ⟨⟨l⟩, m⟩ := a
 have hm' : m = [] := hm
 subst hm'
 obtain ⟨f, hf, hl⟩ := list_fn l 446 hs
 have e0 := hf 0 (by omega)
 have k0 : l[0]? = some v0 := by rw [← h0]; exact List.getElem?_toArray.symm
 rw [k0] at e0
 injection e0 with e0
 have e2 := hf 2 (by omega)
 have k2 : l[2]? = some v2 := by rw [← h2]; exact List.getElem?_toArray.symm
 rw [k2] at e2
 injection e2 with e2
 have e4 := hf 4 (by omega)
 have k4 : l[4]? = some v4 := by rw [← h4]; exact List.getElem?_toArray.symm
 rw [k4] at e4
 injection e4 with e4
 have e5 := hf 5 (by omega)
 have k5 : l[5]? = some v5 := by rw [← h5]; exact List.getElem?_toArray.symm
 rw [k5] at e5
 injection e5 with e5
 have e6 := hf 6 (by omega)
 have k6 : l[6]? = some v6 := by rw [← h6]; exact List.getElem?_toArray.symm
 rw [k6] at e6
 injection e6 with e6
 have e7 := hf 7 (by omega)
 have k7 : l[7]? = some v7 := by rw [← h7]; exact List.getElem?_toArray.symm
 rw [k7] at e7
 injection e7 with e7
 have e8 := hf 8 (by omega)
 have k8 : l[8]? = some v8 := by rw [← h8]; exact List.getElem?_toArray.symm
 rw [k8] at e8
 injection e8 with e8
 have e9 := hf 9 (by omega)
 have k9 : l[9]? = some v9 := by rw [← h9]; exact List.getElem?_toArray.symm
 rw [k9] at e9
 injection e9 with e9
 have e10 := hf 10 (by omega)
 have k10 : l[10]? = some v10 := by rw [← h10]; exact List.getElem?_toArray.symm
 rw [k10] at e10
 injection e10 with e10
 clear h0 k0
 subst e0
 clear h2 k2
 subst e2
 clear h4 k4
 subst e4
 clear h5 k5
 subst e5
 clear h6 k6
 subst e6
 clear h7 k7
 subst e7
 clear h8 k8
 subst e8
 clear h9 k9
 subst e9
 clear h10 k10
 subst e10
 exact ⟨f, by rw [hl]; rfl⟩
set_option maxRecDepth 100000 in
theorem frame_item {a : Act} {v0 v2 v4 v5 v6 v7 v8 v9 v10 v11 v12 v13 v14 v79 : Value} (hs : a.tmps.size = 446) (hm : a.defers = []) (h0 : a.tmps[0]? = some v0) (h2 : a.tmps[2]? = some v2) (h4 : a.tmps[4]? = some v4) (h5 : a.tmps[5]? = some v5) (h6 : a.tmps[6]? = some v6) (h7 : a.tmps[7]? = some v7) (h8 : a.tmps[8]? = some v8) (h9 : a.tmps[9]? = some v9) (h10 : a.tmps[10]? = some v10) (h11 : a.tmps[11]? = some v11) (h12 : a.tmps[12]? = some v12) (h13 : a.tmps[13]? = some v13) (h14 : a.tmps[14]? = some v14) (h79 : a.tmps[79]? = some v79) : ∃ j : Nat → Value, a = ⟨#[v0, j 1, v2, j 3, v4, v5, v6, v7, v8, v9, v10, v11, v12, v13, v14, j 15, j 16, j 17, j 18, j 19, j 20, j 21, j 22, j 23, j 24, j 25, j 26, j 27, j 28, j 29, j 30, j 31, j 32, j 33, j 34, j 35, j 36, j 37, j 38, j 39, j 40, j 41, j 42, j 43, j 44, j 45, j 46, j 47, j 48, j 49, j 50, j 51, j 52, j 53, j 54, j 55, j 56, j 57, j 58, j 59, j 60, j 61, j 62, j 63, j 64, j 65, j 66, j 67, j 68, j 69, j 70, j 71, j 72, j 73, j 74, j 75, j 76, j 77, j 78, v79, j 80, j 81, j 82, j 83, j 84, j 85, j 86, j 87, j 88, j 89, j 90, j 91, j 92, j 93, j 94, j 95, j 96, j 97, j 98, j 99, j 100, j 101, j 102, j 103, j 104, j 105, j 106, j 107, j 108, j 109, j 110, j 111, j 112, j 113, j 114, j 115, j 116, j 117, j 118, j 119, j 120, j 121, j 122, j 123, j 124, j 125, j 126, j 127, j 128, j 129, j 130, j 131, j 132, j 133, j 134, j 135, j 136, j 137, j 138, j 139, j 140, j 141, j 142, j 143, j 144, j 145, j 146, j 147, j 148, j 149, j 150, j 151, j 152, j 153, j 154, j 155, j 156, j 157, j 158, j 159, j 160, j 161, j 162, j 163, j 164, j 165, j 166, j 167, j 168, j 169, j 170, j 171, j 172, j 173, j 174, j 175, j 176, j 177, j 178, j 179, j 180, j 181, j 182, j 183, j 184, j 185, j 186, j 187, j 188, j 189, j 190, j 191, j 192, j 193, j 194, j 195, j 196, j 197, j 198, j 199, j 200, j 201, j 202, j 203, j 204, j 205, j 206, j 207, j 208, j 209, j 210, j 211, j 212, j 213, j 214, j 215, j 216, j 217, j 218, j 219, j 220, j 221, j 222, j 223, j 224, j 225, j 226, j 227, j 228, j 229, j 230, j 231, j 232, j 233, j 234, j 235, j 236, j 237, j 238, j 239, j 240, j 241, j 242, j 243, j 244, j 245, j 246, j 247, j 248, j 249, j 250, j 251, j 252, j 253, j 254, j 255, j 256, j 257, j 258, j 259, j 260, j 261, j 262, j 263, j 264, j 265, j 266, j 267, j 268, j 269, j 270, j 271, j 272, j 273, j 274, j 275, j 276, j 277, j 278, j 279, j 280, j 281, j 282, j 283, j 284, j 285, j 286, j 287, j 288, j 289, j 290, j 291, j 292, j 293, j 294, j 295, j 296, j 297, j 298, j 299, j 300, j 301, j 302, j 303, j 304, j 305, j 306, j 307, j 308, j 309, j 310, j 311, j 312, j 313, j 314, j 315, j 316, j 317, j 318, j 319, j 320, j 321, j 322, j 323, j 324, j 325, j 326, j 327, j 328, j 329, j 330, j 331, j 332, j 333, j 334, j 335, j 336, j 337, j 338, j 339, j 340, j 341, j 342, j 343, j 344, j 345, j 346, j 347, j 348, j 349, j 350, j 351, j 352, j 353, j 354, j 355, j 356, j 357, j 358, j 359, j 360, j 361, j 362, j 363, j 364, j 365, j 366, j 367, j 368, j 369, j 370, j 371, j 372, j 373, j 374, j 375, j 376, j 377, j 378, j 379, j 380, j 381, j 382, j 383, j 384, j 385, j 386, j 387, j 388, j 389, j 390, j 391, j 392, j 393, j 394, j 395, j 396, j 397, j 398, j 399, j 400, j 401, j 402, j 403, j 404, j 405, j 406, j 407, j 408, j 409, j 410, j 411, j 412, j 413, j 414, j 415, j 416, j 417, j 418, j 419, j 420, j 421, j 422, j 423, j 424, j 425, j 426, j 427, j 428, j 429, j 430, j 431, j 432, j 433, j 434, j 435, j 436, j 437, j 438, j 439, j 440, j 441, j 442, j 443, j 444, j 445], []⟩ := by
 obtain ⟨⟨l⟩, m⟩ := a
 have hm' : m = [] := hm
 subst hm'
 obtain ⟨f, hf, hl⟩ := list_fn l 446 hs
 have e0 := hf 0 (by omega)
 have k0 : l[0]? = some v0 := by rw [← h0]; exact List.getElem?_toArray.symm
 rw [k0] at e0
 injection e0 with e0
 have e2 := hf 2 (by omega)
 have k2 : l[2]? = some v2 := by rw [← h2]; exact List.getElem?_toArray.symm
 rw [k2] at e2
 injection e2 with e2
 have e4 := hf 4 (by omega)
 have k4 : l[4]? = some v4 := by rw [← h4]; exact List.getElem?_toArray.symm
 rw [k4] at e4
 injection e4 with e4
 have e5 := hf 5 (by omega)
 have k5 : l[5]? = some v5 := by rw [← h5]; exact List.getElem?_toArray.symm
 rw [k5] at e5
 injection e5 with e5
 have e6 := hf 6 (by omega)
 have k6 : l[6]? = some v6 := by rw [← h6]; exact List.getElem?_toArray.symm
 rw [k6] at e6
 injection e6 with e6
 have e7 := hf 7 (by omega)
 have k7 : l[7]? = some v7 := by rw [← h7]; exact List.getElem?_toArray.symm
 rw [k7] at e7
 injection e7 with e7
 have e8 := hf 8 (by omega)
 have k8 : l[8]? = some v8 := by rw [← h8]; exact List.getElem?_toArray.symm
 rw [k8] at e8
 injection e8 with e8
 have e9 := hf 9 (by omega)
 have k9 : l[9]? = some v9 := by rw [← h9]; exact List.getElem?_toArray.symm
 rw [k9] at e9
 injection e9 with e9
 have e10 := hf 10 (by omega)
 have k10 : l[10]? = some v10 := by rw [← h10]; exact List.getElem?_toArray.symm
 rw [k10] at e10
 injection e10 with e10
 have e11 := hf 11 (by omega)
 have k11 : l[11]? = some v11 := by rw [← h11]; exact List.getElem?_toArray.symm
 rw [k11] at e11
 injection e11 with e11
 have e12 := hf 12 (by omega)
 have k12 : l[12]? = some v12 := by rw [← h12]; exact List.getElem?_toArray.symm
 rw [k12] at e12
 injection e12 with e12
 have e13 := hf 13 (by omega)
 have k13 : l[13]? = some v13 := by rw [← h13]; exact List.getElem?_toArray.symm
 rw [k13] at e13
 injection e13 with e13
 have e14 := hf 14 (by omega)
 have k14 : l[14]? = some v14 := by rw [← h14]; exact List.getElem?_toArray.symm
 rw [k14] at e14
 injection e14 with e14
 have e79 := hf 79 (by omega)
 have k79 : l[79]? = some v79 := by rw [← h79]; exact List.getElem?_toArray.symm
 rw [k79] at e79
 injection e79 with e79
 clear h0 k0
 subst e0
 clear h2 k2
 subst e2
 clear h4 k4
 subst e4
 clear h5 k5
 subst e5
 clear h6 k6
 subst e6
 clear h7 k7
 subst e7
 clear h8 k8
 subst e8
 clear h9 k9
 subst e9
 clear h10 k10
 subst e10
 clear h11 k11
 subst e11
 clear h12 k12
 subst e12
 clear h13 k13
 subst e13
 clear h14 k14
 subst e14
 clear h79 k79
 subst e79
 exact ⟨f, by rw [hl]; rfl⟩
set_option maxRecDepth 100000 in
theorem frame_end {a : Act} {v0 v2 v4 v5 v6 v7 v8 v9 v10 v11 : Value} (hs : a.tmps.size = 446) (hm : a.defers = []) (h0 : a.tmps[0]? = some v0) (h2 : a.tmps[2]? = some v2) (h4 : a.tmps[4]? = some v4) (h5 : a.tmps[5]? = some v5) (h6 : a.tmps[6]? = some v6) (h7 : a.tmps[7]? = some v7) (h8 : a.tmps[8]? = some v8) (h9 : a.tmps[9]? = some v9) (h10 : a.tmps[10]? = some v10) (h11 : a.tmps[11]? = some v11) : ∃ j : Nat → Value, a = ⟨#[v0, j 1, v2, j 3, v4, v5, v6, v7, v8, v9, v10, v11, j 12, j 13, j 14, j 15, j 16, j 17, j 18, j 19, j 20, j 21, j 22, j 23, j 24, j 25, j 26, j 27, j 28, j 29, j 30, j 31, j 32, j 33, j 34, j 35, j 36, j 37, j 38, j 39, j 40, j 41, j 42, j 43, j 44, j 45, j 46, j 47, j 48, j 49, j 50, j 51, j 52, j 53, j 54, j 55, j 56, j 57, j 58, j 59, j 60, j 61, j 62, j 63, j 64, j 65, j 66, j 67, j 68, j 69, j 70, j 71, j 72, j 73, j 74, j 75, j 76, j 77, j 78, j 79, j 80, j 81, j 82, j 83, j 84, j 85, j 86, j 87, j 88, j 89, j 90, j 91, j 92, j 93, j 94, j 95, j 96, j 97, j 98, j 99, j 100, j 101, j 102, j 103, j 104, j 105, j 106, j 107, j 108, j 109, j 110, j 111, j 112, j 113, j 114, j 115, j 116, j 117, j 118, j 119, j 120, j 121, j 122, j 123, j 124, j 125, j 126, j 127, j 128, j 129, j 130, j 131, j 132, j 133, j 134, j 135, j 136, j 137, j 138, j 139, j 140, j 141, j 142, j 143, j 144, j 145, j 146, j 147, j 148, j 149, j 150, j 151, j 152, j 153, j 154, j 155, j 156, j 157, j 158, j 159, j 160, j 161, j 162, j 163, j 164, j 165, j 166, j 167, j 168, j 169, j 170, j 171, j 172, j 173, j 174, j 175, j 176, j 177, j 178, j 179, j 180, j 181, j 182, j 183, j 184, j 185, j 186, j 187, j 188, j 189, j 190, j 191, j 192, j 193, j 194, j 195, j 196, j 197, j 198, j 199, j 200, j 201, j 202, j 203, j 204, j 205, j 206, j 207, j 208, j 209, j 210, j 211, j 212, j 213, j 214, j 215, j 216, j 217, j 218, j 219, j 220, j 221, j 222, j 223, j 224, j 225, j 226, j 227, j 228, j 229, j 230, j 231, j 232, j 233, j 234, j 235, j 236, j 237, j 238, j 239, j 240, j 241, j 242, j 243, j 244, j 245, j 246, j 247, j 248, j 249, j 250, j 251, j 252, j 253, j 254, j 255, j 256, j 257, j 258, j 259, j 260, j 261, j 262, j 263, j 264, j 265, j 266, j 267, j 268, j 269, j 270, j 271, j 272, j 273, j 274, j 275, j 276, j 277, j 278, j 279, j 280, j 281, j 282, j 283, j 284, j 285, j 286, j 287, j 288, j 289, j 290, j 291, j 292, j 293, j 294, j 295, j 296, j 297, j 298, j 299, j 300, j 301, j 302, j 303, j 304, j 305, j 306, j 307, j 308, j 309, j 310, j 311, j 312, j 313, j 314, j 315, j 316, j 317, j 318, j 319, j 320, j 321, j 322, j 323, j 324, j 325, j 326, j 327, j 328, j 329, j 330, j 331, j 332, j 333, j 334, j 335, j 336, j 337, j 338, j 339, j 340, j 341, j 342, j 343, j 344, j 345, j 346, j 347, j 348, j 349, j 350, j 351, j 352, j 353, j 354, j 355, j 356, j 357, j 358, j 359, j 360, j 361, j 362, j 363, j 364, j 365, j 366, j 367, j 368, j 369, j 370, j 371, j 372, j 373, j 374, j 375, j 376, j 377, j 378, j 379, j 380, j 381, j 382, j 383, j 384, j 385, j 386, j 387, j 388, j 389, j 390, j 391, j 392, j 393, j 394, j 395, j 396, j 397, j 398, j 399, j 400, j 401, j 402, j 403, j 404, j 405, j 406, j 407, j 408, j 409, j 410, j 411, j 412, j 413, j 414, j 415, j 416, j 417, j 418, j 419, j 420, j 421, j 422, j 423, j 424, j 425, j 426, j 427, j 428, j 429, j 430, j 431, j 432, j 433, j 434, j 435, j 436, j 437, j 438, j 439, j 440, j 441, j 442, j 443, j 444, j 445], []⟩ := by
 obtain ⟨⟨l⟩, m⟩ := a
 have hm' : m = [] := hm
 subst hm'
 obtain ⟨f, hf, hl⟩ := list_fn l 446 hs
 have e0 := hf 0 (by omega)
 have k0 : l[0]? = some v0 := by rw [← h0]; exact List.getElem?_toArray.symm
 rw [k0] at e0
 injection e0 with e0
 have e2 := hf 2 (by omega)
 have k2 : l[2]? = some v2 := by rw [← h2]; exact List.getElem?_toArray.symm
 rw [k2] at e2
 injection e2 with e2
 have e4 := hf 4 (by omega)
 have k4 : l[4]? = some v4 := by rw [← h4]; exact List.getElem?_toArray.symm
 rw [k4] at e4
 injection e4 with e4
 have e5 := hf 5 (by omega)
 have k5 : l[5]? = some v5 := by rw [← h5]; exact List.getElem?_toArray.symm
 rw [k5] at e5
 injection e5 with e5
 have e6 := hf 6 (by omega)
 have k6 : l[6]? = some v6 := by rw [← h6]; exact List.getElem?_toArray.symm
 rw [k6] at e6
 injection e6 with e6
 have e7 := hf 7 (by omega)
 have k7 : l[7]? = some v7 := by rw [← h7]; exact List.getElem?_toArray.symm
 rw [k7] at e7
 injection e7 with e7
 have e8 := hf 8 (by omega)
 have k8 : l[8]? = some v8 := by rw [← h8]; exact List.getElem?_toArray.symm
 rw [k8] at e8
 injection e8 with e8
 have e9 := hf 9 (by omega)
 have k9 : l[9]? = some v9 := by rw [← h9]; exact List.getElem?_toArray.symm
 rw [k9] at e9
 injection e9 with e9
 have e10 := hf 10 (by omega)
 have k10 : l[10]? = some v10 := by rw [← h10]; exact List.getElem?_toArray.symm
 rw [k10] at e10
 injection e10 with e10
 have e11 := hf 11 (by omega)
 have k11 : l[11]? = some v11 := by rw [← h11]; exact List.getElem?_toArray.symm
 rw [k11] at e11
 injection e11 with e11
 clear h0 k0
 subst e0
 clear h2 k2
 subst e2
 clear h4 k4
 subst e4
 clear h5 k5
 subst e5
 clear h6 k6
 subst e6
 clear h7 k7
 subst e7
 clear h8 k8
 subst e8
 clear h9 k9
 subst e9
 clear h10 k10
 subst e10
 clear h11 k11
 subst e11
 exact ⟨f, by rw [hl]; rfl⟩
end Go.Proofs.Ytegdigfcgeoboaa
