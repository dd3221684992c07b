/- Limits: the whole. -/
import Derived.Test.YtegdigfcgeoboaaChecked
import Derived.Deep.RegionHeld3
import Derived.Deep.DrawnRows
import Derived.Deep.DeepCutAuto
import Derived.Deep.LoopGhost
import Derived.Outline
import Derived.Handy
import Derived.OwnWalk
import Derived.Test.YtegdigfcgeoboaaN2
import Derived.Test.YtegdigfcgeoboaaN15
import Derived.Test.YtegdigfcgeoboaaN17
set_option linter.unusedVariables false
set_option linter.unusedSimpArgs false
set_option linter.unusedSectionVars false
/- ReportsLimits from region 10 on. Printed by gen_lim.py. -/
namespace Go.Proofs.Ytegdigfcgeoboaa
open Go.RowKit
attribute [local go_sem ↓] Go.wp_at_zero Go.wp_at_succ

noncomputable def code5 : Code := (Try.f5.body.bind (fromR 5)).getD .skip
noncomputable def codeLb : Code := restC (restC code5)
set_option maxRecDepth 1000000 in
set_option maxHeartbeats 8000000 in
theorem lim_2 {u0 u1 u2 u8 u9 u10 u11 u12 u13 u14 u15 u16 u17 u18 u19 u20 u21 u22 u23 u24 u25 u26 u27 u28 u29 u30 u31 u32 u33 u34 u35 u36 u37 u38 u39 u40 u41 u42 u43 u44 u45 u46 u47 u48 u49 u50 u51 u52 u53 u54 u55 u56 u57 u58 u59 u60 u61 u62 u63 u64 u65 u66 u67 u68 u69 u70 u71 u72 u73 u74 u75 u76 u77 u78 u79 u80 u81 u82 u83 u84 u85 u86 u87 u88 u89 u90 u91 u92 u93 u94 u95 u96 u97 u98 u99 u100 u101 u102 u103 u104 u105 u106 u107 u108 u109 u110 u111 u112 u113 u114 u115 u116 u117 u118 u119 u120 u121 u122 u123 u124 u125 u126 u127 u128 u129 u130 u131 u132 u133 u134 u135 u136 u137 u138 u139 u140 : Value} {B : Nat} {w W : World} {P : Nat} {n : Int} {v0 v1 v2 v3 v4 v5 v6 : Value} (hn : -1 ≤ n ∧ n ≤ 1) (hk : Kept w W) (hPw : w.heap.size ≤ P) (hP : W.heap[P]? = some (.cells #[v0, v1, v2, v3, v4] 48 (0, 0)))
    (h5 : PartIs P B W v5 headL) (h6 : PartIs P B W v6 endL) (hPB : P < B) (hBW : B ≤ W.heap.size) (p0 : PartIs P B W v0 (partL n 0)) (hv1 : v1 = .slice none 0 0) (hv2 : v2 = .slice none 0 0) (hv3 : v3 = .slice none 0 0) (hv4 : v4 = .slice none 0 0)
    (K K2 : Act → World → Prop) (hK : ∀ a w', Code.wp Try.prog (restC (headC codeLb)) (Exit.then K2 (bodyPost Try.prog Try.f5 fun e w' => e = .returned (.bool true) ∧ Kept w w')) a w' → K a w') (hK2 : ∀ a w', Code.wp Try.prog (restC codeLb) (bodyPost Try.prog Try.f5 fun e w' => e = .returned (.bool true) ∧ Kept w w') a w' → K2 a w') :
    Code.wp Try.prog (headC (headC codeLb)) (Exit.then K (Exit.then K2 (bodyPost Try.prog Try.f5 fun e w' => e = .returned (.bool true) ∧ Kept w w'))) ⟨#[u0, u1, u2, .int .i64 n, .bool (decide (0 < n)), v5, v6, .pointer (some ⟨P, 0, none⟩), u8, u9, u10, u11, u12, u13, u14, u15, u16, u17, u18, u19, u20, u21, u22, u23, u24, u25, u26, u27, u28, u29, u30, u31, u32, u33, u34, u35, u36, u37, u38, u39, u40, u41, u42, u43, u44, u45, u46, u47, u48, u49, u50, u51, u52, u53, u54, u55, u56, u57, u58, u59, u60, u61, u62, u63, u64, u65, u66, u67, u68, u69, u70, u71, u72, u73, u74, u75, u76, u77, u78, u79, u80, u81, u82, u83, u84, u85, u86, u87, u88, u89, u90, u91, u92, u93, u94, u95, u96, u97, u98, u99, u100, u101, u102, u103, u104, u105, u106, u107, u108, u109, u110, u111, u112, u113, u114, u115, u116, u117, u118, u119, u120, u121, u122, u123, u124, u125, u126, u127, u128, u129, u130, u131, u132, u133, u134, u135, u136, u137, u138, u139, u140], []⟩ W := by
  conv => arg 2; whnf
  conv at hK => enter [a, w', 1, 2]; whnf
  conv at hK2 => enter [a, w', 1, 2]; whnf
  dsimp only
  subst hv1
  subst hv2
  subst hv3
  subst hv4
  obtain ⟨i29, hi29, hz0, hz1, hz2⟩ := info_parts info29
  obtain ⟨hn1, hn2⟩ := hn
  have Hk := hide hk
  clear hk
  replace h5 := h5.mono hBW
  replace h6 := h6.mono hBW
  replace p0 := p0.mono hBW
  clear hPB hBW
  have hPB := heap_lt hP
  have hBW := Nat.le_refl W.heap.size
  have HL0 : Hid (([] : List It).length ≤ 1000) := hide (by decide)
  have own : Own itT 29 W.heap.size W (.slice none 0 0) ([] : List It).length [] := Own.nil _ _ _ _
  obtain ⟨y0, hy0⟩ : ∃ y, iI 0 10 0 = y := ⟨_, rfl⟩
  have hit0 := item17i 0 10 0 (by omega) (by omega) y0 hy0
  obtain ⟨y1, hy1⟩ : ∃ y, iI 0 12 0 = y := ⟨_, rfl⟩
  have hit1 := item17i 0 12 0 (by omega) (by omega) y1 hy1
  have Hok : Hid (∀ x ∈ [y0, y1], x.ok) := hide (by
    intro x hx
    simp at hx
    rcases hx with rfl | rfl
    · rw [← hy0]; exact iI_ok (by decide) (by decide)
    · rw [← hy1]; exact iI_ok (by decide) (by decide))
  have Hy0 := hide hy0
  have Hy1 := hide hy1
  clear hy0 hy1
  obtain ⟨NN, hNN⟩ : ∃ NN : Nat, (63 + n).toNat = NN := ⟨_, rfl⟩
  have hNI : 63 + n = (NN : Int) := by rw [← hNN]; omega
  have HNN := hide hNN
  have hNN3 : NN ≤ 300 := by rw [← hNN]; omega
  clear hNN
  have hwr : IntKind.i64.wrap (63 + n) = (NN : Int) := by rw [← hNI, IntKind.wrap_i64]; omega
  go_wp2_with fail
  go_loopg [9] NN (fun g sc wr => ∃ (i : Nat) (v : Value), i + g = NN ∧ sc = .int .i64 i ∧ wr.heap[P]? = some (.cells #[v0, v, .slice none 0 0, .slice none 0 0, .slice none 0 0] 48 (0, 0)) ∧ Own itT 29 W.heap.size wr v (([] : List It) ++ repL i [y0, y1]).length (([] : List It) ++ repL i [y0, y1]) ∧ KeptTo P W.heap.size W wr)
  case atStart => exact ⟨0, _, by omega, rfl, hP, by rw [show repL 0 [y0, y1] = [] from rfl, List.append_nil]; exact own, KeptTo.refl⟩
  case round =>
    obtain ⟨i, v, hi, rfl, hPr0, hown, hkt⟩ := hrel
    have Hi := hide hi
    have HPr := hide hPr0
    have hPr := heap_lt hPr0
    have hcr : wr.cell? ⟨P, 1, none⟩ = some v := cell_heap hPr0 (o := 1) rfl
    have hBr : W.heap.size ≤ wr.heap.size := Nat.le_trans hBW hkt.size
    clear hi hPr0
    by_cases hlt : i < NN
    · have hi0 : (0 : Int) ≤ (i : Int) := by omega
      have hlt' : (i : Int) < (NN : Int) := by omega
      have hln0 : (([] : List It) ++ repL i [y0, y1]).length ≤ 5000 := by rw [List.length_append, repL_len]; have h3 : i * [y0, y1].length ≤ 900 := (by show i * 2 ≤ 900; omega); have h4 := HL0.out; omega
      obtain ⟨X, hX⟩ : ∃ X, ([] : List It) ++ repL i [y0, y1] = X := ⟨_, rfl⟩
      rw [hX] at hown hln0
      obtain ⟨ln, hln⟩ : ∃ ln, X.length = ln := ⟨_, rfl⟩
      rw [hln] at hown hln0
      have HX := hide hX
      have Hln := hide hln
      clear hX hln
      go_wp2_with fail
      refine wp_region_held_drew (S := fun _ => True ∧ True) (by kernel_rfl) ⟨trivial, trivial⟩ (fun hS => ?_)
      refine wpAnyH_take (i := 0) (v := ?_) rfl (by kernel_rfl) (by kernel_rfl) (by kernel_rfl) (fun _ _ _ h => h) (Or.inl ⟨by kernel_rfl, ?_⟩) hS ?_
      rotate_left
      · intro w' hS'
        have hq := hS'.1
        have hq2 := hS'.2
        clear hS'
        first | (go_simp; done) | (go_simp; with_reducible rfl)
      try simp only [Act.put, List.getElem_toArray, List.getElem_cons_zero, List.getElem_cons_succ, List.setIfInBounds_toArray, List.set_cons_zero, List.set_cons_succ]
      refine wpAnyH_ready (rs := [1, 2]) (by kernel_rfl) (by simp) ?_
      refine (AllReadyH.cons rfl (fun K hK => ?_) (AllReadyH.cons rfl (fun K hK => ?_) AllReadyH.nil))
      · go_simp
        try dsimp only
        refine hK.out _ _ ?_ (fun hS => ?_)
        · exact hS
        clear hK K
        try simp only [Act.put, List.getElem_toArray, List.getElem_cons_zero, List.getElem_cons_succ, List.setIfInBounds_toArray, List.set_cons_zero, List.set_cons_succ]
        refine wpAnyH_ready (rs := [2]) (by kernel_rfl) (by simp) ?_
        refine (AllReadyH.cons rfl (fun K hK => ?_) AllReadyH.nil)
        go_simp
        go_at_call 17
        refine (hit0 _).mono ?_
        rintro e w0 ⟨rfl, hk0⟩
        try dsimp only
        refine hK.out _ _ ?_ (fun hS => ?_)
        · exact hS
        clear hK K
        try simp only [Act.put, List.getElem_toArray, List.getElem_cons_zero, List.getElem_cons_succ, List.setIfInBounds_toArray, List.set_cons_zero, List.set_cons_succ]
        have kk0 : Kept wr w0 := Kept.trans' (((Below.refl wr.heap.size wr).drew)) hk0
        have ce0 : w0.cell? ⟨P, 1, none⟩ = some v := (kk0.cell (p := ⟨P, 1, none⟩) hPr).trans hcr
        have lz0 : P < w0.heap.size := Nat.lt_of_lt_of_le hPr kk0.size
        refine wpAnyH_ready (rs := [3]) (by kernel_rfl) (by simp) ?_
        refine (AllReadyH.cons rfl (fun K hK => ?_) AllReadyH.nil)
        go_simp
        go_at_call 17
        refine (hit1 _).mono ?_
        rintro e w1 ⟨rfl, hk1⟩
        try dsimp only
        refine hK.out _ _ ?_ (fun hS => ?_)
        · exact hS
        clear hK K
        try simp only [Act.put, List.getElem_toArray, List.getElem_cons_zero, List.getElem_cons_succ, List.setIfInBounds_toArray, List.set_cons_zero, List.set_cons_succ]
        have kk1 : Kept wr w1 := Kept.trans' (kk0) hk1
        have ce1 : w1.cell? ⟨P, 1, none⟩ = some v := (kk1.cell (p := ⟨P, 1, none⟩) hPr).trans hcr
        have lz1 : P < w1.heap.size := Nat.lt_of_lt_of_le hPr kk1.size
        refine wpAnyH_ready (rs := [4]) (by kernel_rfl) (by simp) ?_
        refine (AllReadyH.cons rfl (fun K hK => ?_) AllReadyH.nil)
        go_simp
        try dsimp only
        refine hK.out _ _ ?_ (fun hS => ?_)
        · exact hS
        clear hK K
        try simp only [Act.put, List.getElem_toArray, List.getElem_cons_zero, List.getElem_cons_succ, List.setIfInBounds_toArray, List.set_cons_zero, List.set_cons_succ]
        refine wpAnyH_ready (rs := [5]) (by kernel_rfl) (by simp) ?_
        refine (AllReadyH.cons rfl (fun K hK => ?_) AllReadyH.nil)
        have kkb : Kept wr (w1.alloc (.cells #[.int .u8 y0.ty, .int .u8 y0.tg, .int .i64 y0.size, .int .u32 y0.data, .int .u8 y1.ty, .int .u8 y1.tg, .int .i64 y1.size, .int .u32 y1.data] 29)) := kk1.alloc kk1.size _
        have hownB := hown.kept kkb
        have hnew : Sl itT (w1.alloc (.cells #[.int .u8 y0.ty, .int .u8 y0.tg, .int .i64 y0.size, .int .u32 y0.data, .int .u8 y1.ty, .int .u8 y1.tg, .int .i64 y1.size, .int .u32 y1.data] 29)) (apart (w1.alloc (.cells #[.int .u8 y0.ty, .int .u8 y0.tg, .int .i64 y0.size, .int .u32 y0.data, .int .u8 y1.ty, .int .u8 y1.tg, .int .i64 y1.size, .int .u32 y1.data] 29)) v) (some ⟨w1.heap.size, 0, none⟩) 2 [y0, y1] := sl_it_heap (heap_at _ rfl) rfl Hok.out ⟨by simp, fun e => by have h1 := (hown.lt e).2; have h2 := kk1.size; omega⟩
        refine step_append_sl (T := itT) rfl (.tmp 52) (.tmp 55) 22 rfl W.heap.size 29 i29 _ 24 Try.underlying22 hi29 hz0 hz1 hz2 rfl (show 0 < 4 by decide) v ln X (by rfl) hownB (some ⟨w1.heap.size, 0, none⟩) 2 2 [y0, y1] (by rfl) hnew (by_one29 _ _) (by unfold maxLen; omega) (by omega) (Nat.le_trans hBr kkb.size) ?_
        intro u7 x7 hown7 hg7 hb7 hat7
        obtain ⟨Au, cu, rfl, hu1, hu2⟩ := hown7.isSlice
        clear hu1 hu2
        have hP7 := (hb7.block P hPB).trans (heap_kept kkb HPr.out)
        have cz7 : x7.cell? ⟨P, 1, none⟩ = some v := cell_heap hP7 (o := 1) rfl
        have fz7 := frozen_heap hP7 (o := 1)
        have lz7 := heap_lt hP7
        refine hK.out _ _ ?_ (fun hS => ?_)
        · exact hS
        clear hK K
        try simp only [Act.put, List.getElem_toArray, List.getElem_cons_zero, List.getElem_cons_succ, List.setIfInBounds_toArray, List.set_cons_zero, List.set_cons_succ]
        refine wpAnyH_take (i := 6) (v := ?_) rfl (by kernel_rfl) (by kernel_rfl) (by kernel_rfl) (fun _ _ _ h => h) (Or.inl ⟨by kernel_rfl, ?_⟩) hS ?_
        rotate_left
        · intro w' hS'
          have hq := hS'.1
          have hq2 := hS'.2
          clear hS'
          first | (go_simp; done) | (go_simp; with_reducible rfl)
        try simp only [Act.put, List.getElem_toArray, List.getElem_cons_zero, List.getElem_cons_succ, List.setIfInBounds_toArray, List.set_cons_zero, List.set_cons_succ]
        refine wpAnyH_ready (rs := [7]) (by kernel_rfl) (by simp) ?_
        refine (AllReadyH.cons rfl (fun K hK => ?_) AllReadyH.nil)
        go_simp
        try dsimp only
        refine hK.out _ _ ?_ (fun hS => ?_)
        · exact hS
        clear hK K
        try simp only [Act.put, List.getElem_toArray, List.getElem_cons_zero, List.getElem_cons_succ, List.setIfInBounds_toArray, List.set_cons_zero, List.set_cons_succ]
        refine wpAnyH_done (by kernel_rfl) ?_ _
        have hkt7 := hkt.trans ((KeptTo.of kkb hBr).trans ((KeptTo.below hb7).trans (KeptTo.set (P := P) 1 (.slice Au (ln + 2) cu))))
        have hP8 := heap_store (i := 1) hP7 (.slice Au (ln + 2) cu)
        have hown8 := hown7.setCell (fun h => h) (p := ⟨P, 1, none⟩) hPB (.slice Au (ln + 2) cu)
        clear hS cz7 fz7 hown7 hb7 hg7 hat7 hP7 hownB hnew
        go_wp2_with fail
        go_roundg (gk - 1)
        case measure => have := Hi.out; omega
        case rel =>
          refine ⟨i + 1, _, by have := Hi.out; omega, by go_num, hP8, ?_, hkt7⟩
          have e : ([] : List It) ++ repL (i + 1) [y0, y1] = X ++ [y0, y1] := by rw [repL_succ, ← List.append_assoc, HX.out]
          have e2 : (([] : List It) ++ repL (i + 1) [y0, y1]).length = ln + 2 := by rw [e, List.length_append, Hln.out]; rfl
          rw [e2, e]
          exact hown8
      · go_simp
        go_at_call 17
        refine (hit0 _).mono ?_
        rintro e w0 ⟨rfl, hk0⟩
        try dsimp only
        refine hK.out _ _ ?_ (fun hS => ?_)
        · exact hS
        clear hK K
        try simp only [Act.put, List.getElem_toArray, List.getElem_cons_zero, List.getElem_cons_succ, List.setIfInBounds_toArray, List.set_cons_zero, List.set_cons_succ]
        have kk0 : Kept wr w0 := Kept.trans' (((Below.refl wr.heap.size wr).drew)) hk0
        have ce0 : w0.cell? ⟨P, 1, none⟩ = some v := (kk0.cell (p := ⟨P, 1, none⟩) hPr).trans hcr
        have lz0 : P < w0.heap.size := Nat.lt_of_lt_of_le hPr kk0.size
        refine wpAnyH_ready (rs := [1, 3]) (by kernel_rfl) (by simp) ?_
        refine (AllReadyH.cons rfl (fun K hK => ?_) (AllReadyH.cons rfl (fun K hK => ?_) AllReadyH.nil))
        · go_simp
          try dsimp only
          refine hK.out _ _ ?_ (fun hS => ?_)
          · exact hS
          clear hK K
          try simp only [Act.put, List.getElem_toArray, List.getElem_cons_zero, List.getElem_cons_succ, List.setIfInBounds_toArray, List.set_cons_zero, List.set_cons_succ]
          refine wpAnyH_ready (rs := [3]) (by kernel_rfl) (by simp) ?_
          refine (AllReadyH.cons rfl (fun K hK => ?_) AllReadyH.nil)
          go_simp
          go_at_call 17
          refine (hit1 _).mono ?_
          rintro e w1 ⟨rfl, hk1⟩
          try dsimp only
          refine hK.out _ _ ?_ (fun hS => ?_)
          · exact hS
          clear hK K
          try simp only [Act.put, List.getElem_toArray, List.getElem_cons_zero, List.getElem_cons_succ, List.setIfInBounds_toArray, List.set_cons_zero, List.set_cons_succ]
          have kk1 : Kept wr w1 := Kept.trans' (kk0) hk1
          have ce1 : w1.cell? ⟨P, 1, none⟩ = some v := (kk1.cell (p := ⟨P, 1, none⟩) hPr).trans hcr
          have lz1 : P < w1.heap.size := Nat.lt_of_lt_of_le hPr kk1.size
          refine wpAnyH_ready (rs := [4]) (by kernel_rfl) (by simp) ?_
          refine (AllReadyH.cons rfl (fun K hK => ?_) AllReadyH.nil)
          go_simp
          try dsimp only
          refine hK.out _ _ ?_ (fun hS => ?_)
          · exact hS
          clear hK K
          try simp only [Act.put, List.getElem_toArray, List.getElem_cons_zero, List.getElem_cons_succ, List.setIfInBounds_toArray, List.set_cons_zero, List.set_cons_succ]
          refine wpAnyH_ready (rs := [5]) (by kernel_rfl) (by simp) ?_
          refine (AllReadyH.cons rfl (fun K hK => ?_) AllReadyH.nil)
          have kkb : Kept wr (w1.alloc (.cells #[.int .u8 y0.ty, .int .u8 y0.tg, .int .i64 y0.size, .int .u32 y0.data, .int .u8 y1.ty, .int .u8 y1.tg, .int .i64 y1.size, .int .u32 y1.data] 29)) := kk1.alloc kk1.size _
          have hownB := hown.kept kkb
          have hnew : Sl itT (w1.alloc (.cells #[.int .u8 y0.ty, .int .u8 y0.tg, .int .i64 y0.size, .int .u32 y0.data, .int .u8 y1.ty, .int .u8 y1.tg, .int .i64 y1.size, .int .u32 y1.data] 29)) (apart (w1.alloc (.cells #[.int .u8 y0.ty, .int .u8 y0.tg, .int .i64 y0.size, .int .u32 y0.data, .int .u8 y1.ty, .int .u8 y1.tg, .int .i64 y1.size, .int .u32 y1.data] 29)) v) (some ⟨w1.heap.size, 0, none⟩) 2 [y0, y1] := sl_it_heap (heap_at _ rfl) rfl Hok.out ⟨by simp, fun e => by have h1 := (hown.lt e).2; have h2 := kk1.size; omega⟩
          refine step_append_sl (T := itT) rfl (.tmp 52) (.tmp 55) 22 rfl W.heap.size 29 i29 _ 24 Try.underlying22 hi29 hz0 hz1 hz2 rfl (show 0 < 4 by decide) v ln X (by rfl) hownB (some ⟨w1.heap.size, 0, none⟩) 2 2 [y0, y1] (by rfl) hnew (by_one29 _ _) (by unfold maxLen; omega) (by omega) (Nat.le_trans hBr kkb.size) ?_
          intro u7 x7 hown7 hg7 hb7 hat7
          obtain ⟨Au, cu, rfl, hu1, hu2⟩ := hown7.isSlice
          clear hu1 hu2
          have hP7 := (hb7.block P hPB).trans (heap_kept kkb HPr.out)
          have cz7 : x7.cell? ⟨P, 1, none⟩ = some v := cell_heap hP7 (o := 1) rfl
          have fz7 := frozen_heap hP7 (o := 1)
          have lz7 := heap_lt hP7
          refine hK.out _ _ ?_ (fun hS => ?_)
          · exact hS
          clear hK K
          try simp only [Act.put, List.getElem_toArray, List.getElem_cons_zero, List.getElem_cons_succ, List.setIfInBounds_toArray, List.set_cons_zero, List.set_cons_succ]
          refine wpAnyH_take (i := 6) (v := ?_) rfl (by kernel_rfl) (by kernel_rfl) (by kernel_rfl) (fun _ _ _ h => h) (Or.inl ⟨by kernel_rfl, ?_⟩) hS ?_
          rotate_left
          · intro w' hS'
            have hq := hS'.1
            have hq2 := hS'.2
            clear hS'
            first | (go_simp; done) | (go_simp; with_reducible rfl)
          try simp only [Act.put, List.getElem_toArray, List.getElem_cons_zero, List.getElem_cons_succ, List.setIfInBounds_toArray, List.set_cons_zero, List.set_cons_succ]
          refine wpAnyH_ready (rs := [7]) (by kernel_rfl) (by simp) ?_
          refine (AllReadyH.cons rfl (fun K hK => ?_) AllReadyH.nil)
          go_simp
          try dsimp only
          refine hK.out _ _ ?_ (fun hS => ?_)
          · exact hS
          clear hK K
          try simp only [Act.put, List.getElem_toArray, List.getElem_cons_zero, List.getElem_cons_succ, List.setIfInBounds_toArray, List.set_cons_zero, List.set_cons_succ]
          refine wpAnyH_done (by kernel_rfl) ?_ _
          have hkt7 := hkt.trans ((KeptTo.of kkb hBr).trans ((KeptTo.below hb7).trans (KeptTo.set (P := P) 1 (.slice Au (ln + 2) cu))))
          have hP8 := heap_store (i := 1) hP7 (.slice Au (ln + 2) cu)
          have hown8 := hown7.setCell (fun h => h) (p := ⟨P, 1, none⟩) hPB (.slice Au (ln + 2) cu)
          clear hS cz7 fz7 hown7 hb7 hg7 hat7 hP7 hownB hnew
          go_wp2_with fail
          go_roundg (gk - 1)
          case measure => have := Hi.out; omega
          case rel =>
            refine ⟨i + 1, _, by have := Hi.out; omega, by go_num, hP8, ?_, hkt7⟩
            have e : ([] : List It) ++ repL (i + 1) [y0, y1] = X ++ [y0, y1] := by rw [repL_succ, ← List.append_assoc, HX.out]
            have e2 : (([] : List It) ++ repL (i + 1) [y0, y1]).length = ln + 2 := by rw [e, List.length_append, Hln.out]; rfl
            rw [e2, e]
            exact hown8
        · go_simp
          go_at_call 17
          refine (hit1 _).mono ?_
          rintro e w1 ⟨rfl, hk1⟩
          try dsimp only
          refine hK.out _ _ ?_ (fun hS => ?_)
          · exact hS
          clear hK K
          try simp only [Act.put, List.getElem_toArray, List.getElem_cons_zero, List.getElem_cons_succ, List.setIfInBounds_toArray, List.set_cons_zero, List.set_cons_succ]
          have kk1 : Kept wr w1 := Kept.trans' (kk0) hk1
          have ce1 : w1.cell? ⟨P, 1, none⟩ = some v := (kk1.cell (p := ⟨P, 1, none⟩) hPr).trans hcr
          have lz1 : P < w1.heap.size := Nat.lt_of_lt_of_le hPr kk1.size
          refine wpAnyH_ready (rs := [1, 4]) (by kernel_rfl) (by simp) ?_
          refine (AllReadyH.cons rfl (fun K hK => ?_) (AllReadyH.cons rfl (fun K hK => ?_) AllReadyH.nil))
          · go_simp
            try dsimp only
            refine hK.out _ _ ?_ (fun hS => ?_)
            · exact hS
            clear hK K
            try simp only [Act.put, List.getElem_toArray, List.getElem_cons_zero, List.getElem_cons_succ, List.setIfInBounds_toArray, List.set_cons_zero, List.set_cons_succ]
            refine wpAnyH_ready (rs := [4]) (by kernel_rfl) (by simp) ?_
            refine (AllReadyH.cons rfl (fun K hK => ?_) AllReadyH.nil)
            go_simp
            try dsimp only
            refine hK.out _ _ ?_ (fun hS => ?_)
            · exact hS
            clear hK K
            try simp only [Act.put, List.getElem_toArray, List.getElem_cons_zero, List.getElem_cons_succ, List.setIfInBounds_toArray, List.set_cons_zero, List.set_cons_succ]
            refine wpAnyH_ready (rs := [5]) (by kernel_rfl) (by simp) ?_
            refine (AllReadyH.cons rfl (fun K hK => ?_) AllReadyH.nil)
            have kkb : Kept wr (w1.alloc (.cells #[.int .u8 y0.ty, .int .u8 y0.tg, .int .i64 y0.size, .int .u32 y0.data, .int .u8 y1.ty, .int .u8 y1.tg, .int .i64 y1.size, .int .u32 y1.data] 29)) := kk1.alloc kk1.size _
            have hownB := hown.kept kkb
            have hnew : Sl itT (w1.alloc (.cells #[.int .u8 y0.ty, .int .u8 y0.tg, .int .i64 y0.size, .int .u32 y0.data, .int .u8 y1.ty, .int .u8 y1.tg, .int .i64 y1.size, .int .u32 y1.data] 29)) (apart (w1.alloc (.cells #[.int .u8 y0.ty, .int .u8 y0.tg, .int .i64 y0.size, .int .u32 y0.data, .int .u8 y1.ty, .int .u8 y1.tg, .int .i64 y1.size, .int .u32 y1.data] 29)) v) (some ⟨w1.heap.size, 0, none⟩) 2 [y0, y1] := sl_it_heap (heap_at _ rfl) rfl Hok.out ⟨by simp, fun e => by have h1 := (hown.lt e).2; have h2 := kk1.size; omega⟩
            refine step_append_sl (T := itT) rfl (.tmp 52) (.tmp 55) 22 rfl W.heap.size 29 i29 _ 24 Try.underlying22 hi29 hz0 hz1 hz2 rfl (show 0 < 4 by decide) v ln X (by rfl) hownB (some ⟨w1.heap.size, 0, none⟩) 2 2 [y0, y1] (by rfl) hnew (by_one29 _ _) (by unfold maxLen; omega) (by omega) (Nat.le_trans hBr kkb.size) ?_
            intro u7 x7 hown7 hg7 hb7 hat7
            obtain ⟨Au, cu, rfl, hu1, hu2⟩ := hown7.isSlice
            clear hu1 hu2
            have hP7 := (hb7.block P hPB).trans (heap_kept kkb HPr.out)
            have cz7 : x7.cell? ⟨P, 1, none⟩ = some v := cell_heap hP7 (o := 1) rfl
            have fz7 := frozen_heap hP7 (o := 1)
            have lz7 := heap_lt hP7
            refine hK.out _ _ ?_ (fun hS => ?_)
            · exact hS
            clear hK K
            try simp only [Act.put, List.getElem_toArray, List.getElem_cons_zero, List.getElem_cons_succ, List.setIfInBounds_toArray, List.set_cons_zero, List.set_cons_succ]
            refine wpAnyH_take (i := 6) (v := ?_) rfl (by kernel_rfl) (by kernel_rfl) (by kernel_rfl) (fun _ _ _ h => h) (Or.inl ⟨by kernel_rfl, ?_⟩) hS ?_
            rotate_left
            · intro w' hS'
              have hq := hS'.1
              have hq2 := hS'.2
              clear hS'
              first | (go_simp; done) | (go_simp; with_reducible rfl)
            try simp only [Act.put, List.getElem_toArray, List.getElem_cons_zero, List.getElem_cons_succ, List.setIfInBounds_toArray, List.set_cons_zero, List.set_cons_succ]
            refine wpAnyH_ready (rs := [7]) (by kernel_rfl) (by simp) ?_
            refine (AllReadyH.cons rfl (fun K hK => ?_) AllReadyH.nil)
            go_simp
            try dsimp only
            refine hK.out _ _ ?_ (fun hS => ?_)
            · exact hS
            clear hK K
            try simp only [Act.put, List.getElem_toArray, List.getElem_cons_zero, List.getElem_cons_succ, List.setIfInBounds_toArray, List.set_cons_zero, List.set_cons_succ]
            refine wpAnyH_done (by kernel_rfl) ?_ _
            have hkt7 := hkt.trans ((KeptTo.of kkb hBr).trans ((KeptTo.below hb7).trans (KeptTo.set (P := P) 1 (.slice Au (ln + 2) cu))))
            have hP8 := heap_store (i := 1) hP7 (.slice Au (ln + 2) cu)
            have hown8 := hown7.setCell (fun h => h) (p := ⟨P, 1, none⟩) hPB (.slice Au (ln + 2) cu)
            clear hS cz7 fz7 hown7 hb7 hg7 hat7 hP7 hownB hnew
            go_wp2_with fail
            go_roundg (gk - 1)
            case measure => have := Hi.out; omega
            case rel =>
              refine ⟨i + 1, _, by have := Hi.out; omega, by go_num, hP8, ?_, hkt7⟩
              have e : ([] : List It) ++ repL (i + 1) [y0, y1] = X ++ [y0, y1] := by rw [repL_succ, ← List.append_assoc, HX.out]
              have e2 : (([] : List It) ++ repL (i + 1) [y0, y1]).length = ln + 2 := by rw [e, List.length_append, Hln.out]; rfl
              rw [e2, e]
              exact hown8
          · go_simp
            try dsimp only
            refine hK.out _ _ ?_ (fun hS => ?_)
            · exact hS
            clear hK K
            try simp only [Act.put, List.getElem_toArray, List.getElem_cons_zero, List.getElem_cons_succ, List.setIfInBounds_toArray, List.set_cons_zero, List.set_cons_succ]
            refine wpAnyH_ready (rs := [1]) (by kernel_rfl) (by simp) ?_
            refine (AllReadyH.cons rfl (fun K hK => ?_) AllReadyH.nil)
            go_simp
            try dsimp only
            refine hK.out _ _ ?_ (fun hS => ?_)
            · exact hS
            clear hK K
            try simp only [Act.put, List.getElem_toArray, List.getElem_cons_zero, List.getElem_cons_succ, List.setIfInBounds_toArray, List.set_cons_zero, List.set_cons_succ]
            refine wpAnyH_ready (rs := [5]) (by kernel_rfl) (by simp) ?_
            refine (AllReadyH.cons rfl (fun K hK => ?_) AllReadyH.nil)
            have kkb : Kept wr (w1.alloc (.cells #[.int .u8 y0.ty, .int .u8 y0.tg, .int .i64 y0.size, .int .u32 y0.data, .int .u8 y1.ty, .int .u8 y1.tg, .int .i64 y1.size, .int .u32 y1.data] 29)) := kk1.alloc kk1.size _
            have hownB := hown.kept kkb
            have hnew : Sl itT (w1.alloc (.cells #[.int .u8 y0.ty, .int .u8 y0.tg, .int .i64 y0.size, .int .u32 y0.data, .int .u8 y1.ty, .int .u8 y1.tg, .int .i64 y1.size, .int .u32 y1.data] 29)) (apart (w1.alloc (.cells #[.int .u8 y0.ty, .int .u8 y0.tg, .int .i64 y0.size, .int .u32 y0.data, .int .u8 y1.ty, .int .u8 y1.tg, .int .i64 y1.size, .int .u32 y1.data] 29)) v) (some ⟨w1.heap.size, 0, none⟩) 2 [y0, y1] := sl_it_heap (heap_at _ rfl) rfl Hok.out ⟨by simp, fun e => by have h1 := (hown.lt e).2; have h2 := kk1.size; omega⟩
            refine step_append_sl (T := itT) rfl (.tmp 52) (.tmp 55) 22 rfl W.heap.size 29 i29 _ 24 Try.underlying22 hi29 hz0 hz1 hz2 rfl (show 0 < 4 by decide) v ln X (by rfl) hownB (some ⟨w1.heap.size, 0, none⟩) 2 2 [y0, y1] (by rfl) hnew (by_one29 _ _) (by unfold maxLen; omega) (by omega) (Nat.le_trans hBr kkb.size) ?_
            intro u7 x7 hown7 hg7 hb7 hat7
            obtain ⟨Au, cu, rfl, hu1, hu2⟩ := hown7.isSlice
            clear hu1 hu2
            have hP7 := (hb7.block P hPB).trans (heap_kept kkb HPr.out)
            have cz7 : x7.cell? ⟨P, 1, none⟩ = some v := cell_heap hP7 (o := 1) rfl
            have fz7 := frozen_heap hP7 (o := 1)
            have lz7 := heap_lt hP7
            refine hK.out _ _ ?_ (fun hS => ?_)
            · exact hS
            clear hK K
            try simp only [Act.put, List.getElem_toArray, List.getElem_cons_zero, List.getElem_cons_succ, List.setIfInBounds_toArray, List.set_cons_zero, List.set_cons_succ]
            refine wpAnyH_take (i := 6) (v := ?_) rfl (by kernel_rfl) (by kernel_rfl) (by kernel_rfl) (fun _ _ _ h => h) (Or.inl ⟨by kernel_rfl, ?_⟩) hS ?_
            rotate_left
            · intro w' hS'
              have hq := hS'.1
              have hq2 := hS'.2
              clear hS'
              first | (go_simp; done) | (go_simp; with_reducible rfl)
            try simp only [Act.put, List.getElem_toArray, List.getElem_cons_zero, List.getElem_cons_succ, List.setIfInBounds_toArray, List.set_cons_zero, List.set_cons_succ]
            refine wpAnyH_ready (rs := [7]) (by kernel_rfl) (by simp) ?_
            refine (AllReadyH.cons rfl (fun K hK => ?_) AllReadyH.nil)
            go_simp
            try dsimp only
            refine hK.out _ _ ?_ (fun hS => ?_)
            · exact hS
            clear hK K
            try simp only [Act.put, List.getElem_toArray, List.getElem_cons_zero, List.getElem_cons_succ, List.setIfInBounds_toArray, List.set_cons_zero, List.set_cons_succ]
            refine wpAnyH_done (by kernel_rfl) ?_ _
            have hkt7 := hkt.trans ((KeptTo.of kkb hBr).trans ((KeptTo.below hb7).trans (KeptTo.set (P := P) 1 (.slice Au (ln + 2) cu))))
            have hP8 := heap_store (i := 1) hP7 (.slice Au (ln + 2) cu)
            have hown8 := hown7.setCell (fun h => h) (p := ⟨P, 1, none⟩) hPB (.slice Au (ln + 2) cu)
            clear hS cz7 fz7 hown7 hb7 hg7 hat7 hP7 hownB hnew
            go_wp2_with fail
            go_roundg (gk - 1)
            case measure => have := Hi.out; omega
            case rel =>
              refine ⟨i + 1, _, by have := Hi.out; omega, by go_num, hP8, ?_, hkt7⟩
              have e : ([] : List It) ++ repL (i + 1) [y0, y1] = X ++ [y0, y1] := by rw [repL_succ, ← List.append_assoc, HX.out]
              have e2 : (([] : List It) ++ repL (i + 1) [y0, y1]).length = ln + 2 := by rw [e, List.length_append, Hln.out]; rfl
              rw [e2, e]
              exact hown8
    · have hge : (NN : Int) ≤ (i : Int) := by omega
      have hiN : i = NN := by have := Hi.out; omega
      subst hiN
      have hsz := hkt.size
      have h1 : PartIs P wr.heap.size wr v (partL n 1) := by
        have e : ([] : List It) ++ repL i [y0, y1] = partL n 1 := by rw [List.nil_append, ← HNN.out, ← Hy0.out, ← Hy1.out]; rfl
        rw [e] at hown
        exact PartIs.own hown hPB
      go_upto_region 14 with (fail)
      refine lim_3a (B := wr.heap.size) ⟨hn1, hn2⟩ (hkt.kept Hk.out hPw hPB) hPw HPr.out ((h5.keep hkt).mono hsz) ((h6.keep hkt).mono hsz) (Nat.lt_of_lt_of_le hPB hsz) (Nat.le_refl _) ((p0.keep hkt).mono hsz) h1 rfl rfl rfl _ ?_ <;> assumption
end Go.Proofs.Ytegdigfcgeoboaa
/- ReportsLimits from region 6 on. Printed by gen_lim.py. -/
namespace Go.Proofs.Ytegdigfcgeoboaa
open Go.RowKit
attribute [local go_sem ↓] Go.wp_at_zero Go.wp_at_succ

noncomputable def codeLa : Code := restC code5
set_option maxRecDepth 1000000 in
set_option maxHeartbeats 8000000 in
theorem lim_1 {u0 u1 u2 u8 u9 u10 u11 u12 u13 u14 u15 u16 u17 u18 u19 u20 u21 u22 u23 u24 u25 u26 u27 u28 u29 u30 u31 u32 u33 u34 u35 u36 u37 u38 u39 u40 u41 u42 u43 u44 u45 u46 u47 u48 u49 u50 u51 u52 u53 u54 u55 u56 u57 u58 u59 u60 u61 u62 u63 u64 u65 u66 u67 u68 u69 u70 u71 u72 u73 u74 u75 u76 u77 u78 u79 u80 u81 u82 u83 u84 u85 u86 u87 u88 u89 u90 u91 u92 u93 u94 u95 u96 u97 u98 u99 u100 u101 u102 u103 u104 u105 u106 u107 u108 u109 u110 u111 u112 u113 u114 u115 u116 u117 u118 u119 u120 u121 u122 u123 u124 u125 u126 u127 u128 u129 u130 u131 u132 u133 u134 u135 u136 u137 u138 u139 u140 : Value} {B : Nat} {w W : World} {P : Nat} {n : Int} {v0 v1 v2 v3 v4 v5 v6 : Value} (hn : -1 ≤ n ∧ n ≤ 1) (hk : Kept w W) (hPw : w.heap.size ≤ P) (hP : W.heap[P]? = some (.cells #[v0, v1, v2, v3, v4] 48 (0, 0)))
    (h5 : PartIs P B W v5 headL) (h6 : PartIs P B W v6 endL) (hPB : P < B) (hBW : B ≤ W.heap.size) (hv0 : v0 = .slice none 0 0) (hv1 : v1 = .slice none 0 0) (hv2 : v2 = .slice none 0 0) (hv3 : v3 = .slice none 0 0) (hv4 : v4 = .slice none 0 0)
    (K K2 : Act → World → Prop) (hK : ∀ a w', Code.wp Try.prog (restC (headC codeLa)) (Exit.then K2 (bodyPost Try.prog Try.f5 fun e w' => e = .returned (.bool true) ∧ Kept w w')) a w' → K a w') (hK2 : ∀ a w', Code.wp Try.prog (restC codeLa) (bodyPost Try.prog Try.f5 fun e w' => e = .returned (.bool true) ∧ Kept w w') a w' → K2 a w') :
    Code.wp Try.prog (headC (headC codeLa)) (Exit.then K (Exit.then K2 (bodyPost Try.prog Try.f5 fun e w' => e = .returned (.bool true) ∧ Kept w w'))) ⟨#[u0, u1, u2, .int .i64 n, .bool (decide (0 < n)), v5, v6, .pointer (some ⟨P, 0, none⟩), u8, u9, u10, u11, u12, u13, u14, u15, u16, u17, u18, u19, u20, u21, u22, u23, u24, u25, u26, u27, u28, u29, u30, u31, u32, u33, u34, u35, u36, u37, u38, u39, u40, u41, u42, u43, u44, u45, u46, u47, u48, u49, u50, u51, u52, u53, u54, u55, u56, u57, u58, u59, u60, u61, u62, u63, u64, u65, u66, u67, u68, u69, u70, u71, u72, u73, u74, u75, u76, u77, u78, u79, u80, u81, u82, u83, u84, u85, u86, u87, u88, u89, u90, u91, u92, u93, u94, u95, u96, u97, u98, u99, u100, u101, u102, u103, u104, u105, u106, u107, u108, u109, u110, u111, u112, u113, u114, u115, u116, u117, u118, u119, u120, u121, u122, u123, u124, u125, u126, u127, u128, u129, u130, u131, u132, u133, u134, u135, u136, u137, u138, u139, u140], []⟩ W := by
  conv => arg 2; whnf
  conv at hK => enter [a, w', 1, 2]; whnf
  conv at hK2 => enter [a, w', 1, 2]; whnf
  dsimp only
  subst hv0
  subst hv1
  subst hv2
  subst hv3
  subst hv4
  obtain ⟨i29, hi29, hz0, hz1, hz2⟩ := info_parts info29
  obtain ⟨hn1, hn2⟩ := hn
  have Hk := hide hk
  clear hk
  replace h5 := h5.mono hBW
  replace h6 := h6.mono hBW
  clear hPB hBW
  have hPB := heap_lt hP
  have hBW := Nat.le_refl W.heap.size
  have HL0 : Hid (([] : List It).length ≤ 1000) := hide (by decide)
  have own : Own itT 29 W.heap.size W (.slice none 0 0) ([] : List It).length [] := Own.nil _ _ _ _
  obtain ⟨y0, hy0⟩ : ∃ y, iI 0 8 1 = y := ⟨_, rfl⟩
  have hit0 := item17i 0 8 1 (by omega) (by omega) y0 hy0
  have Hok : Hid (∀ x ∈ [y0], x.ok) := hide (by
    intro x hx
    simp at hx
    subst hx
    rw [← hy0]; exact iI_ok (by decide) (by decide))
  have Hy0 := hide hy0
  clear hy0
  obtain ⟨NN, hNN⟩ : ∃ NN : Nat, (256 + n).toNat = NN := ⟨_, rfl⟩
  have hNI : 256 + n = (NN : Int) := by rw [← hNN]; omega
  have HNN := hide hNN
  have hNN3 : NN ≤ 300 := by rw [← hNN]; omega
  clear hNN
  have hwr : IntKind.i64.wrap (256 + n) = (NN : Int) := by rw [← hNI, IntKind.wrap_i64]; omega
  go_wp2_with fail
  go_loopg [8] NN (fun g sc wr => ∃ (i : Nat) (v : Value), i + g = NN ∧ sc = .int .i64 i ∧ wr.heap[P]? = some (.cells #[v, .slice none 0 0, .slice none 0 0, .slice none 0 0, .slice none 0 0] 48 (0, 0)) ∧ Own itT 29 W.heap.size wr v (([] : List It) ++ repL i [y0]).length (([] : List It) ++ repL i [y0]) ∧ KeptTo P W.heap.size W wr)
  case atStart => exact ⟨0, _, by omega, rfl, hP, by rw [show repL 0 [y0] = [] from rfl, List.append_nil]; exact own, KeptTo.refl⟩
  case round =>
    obtain ⟨i, v, hi, rfl, hPr0, hown, hkt⟩ := hrel
    have Hi := hide hi
    have HPr := hide hPr0
    have hPr := heap_lt hPr0
    have hcr : wr.cell? ⟨P, 0, none⟩ = some v := cell_heap hPr0 (o := 0) rfl
    have hBr : W.heap.size ≤ wr.heap.size := Nat.le_trans hBW hkt.size
    clear hi hPr0
    by_cases hlt : i < NN
    · have hi0 : (0 : Int) ≤ (i : Int) := by omega
      have hlt' : (i : Int) < (NN : Int) := by omega
      have hln0 : (([] : List It) ++ repL i [y0]).length ≤ 5000 := by rw [List.length_append, repL_len]; have h3 : i * [y0].length ≤ 900 := (by show i * 1 ≤ 900; omega); have h4 := HL0.out; omega
      obtain ⟨X, hX⟩ : ∃ X, ([] : List It) ++ repL i [y0] = X := ⟨_, rfl⟩
      rw [hX] at hown hln0
      obtain ⟨ln, hln⟩ : ∃ ln, X.length = ln := ⟨_, rfl⟩
      rw [hln] at hown hln0
      have HX := hide hX
      have Hln := hide hln
      clear hX hln
      go_wp2_with fail
      refine wp_region_held_drew (S := fun _ => True ∧ True) (by kernel_rfl) ⟨trivial, trivial⟩ (fun hS => ?_)
      refine wpAnyH_take (i := 0) (v := ?_) rfl (by kernel_rfl) (by kernel_rfl) (by kernel_rfl) (fun _ _ _ h => h) (Or.inl ⟨by kernel_rfl, ?_⟩) hS ?_
      rotate_left
      · intro w' hS'
        have hq := hS'.1
        have hq2 := hS'.2
        clear hS'
        first | (go_simp; done) | (go_simp; with_reducible rfl)
      try simp only [Act.put, List.getElem_toArray, List.getElem_cons_zero, List.getElem_cons_succ, List.setIfInBounds_toArray, List.set_cons_zero, List.set_cons_succ]
      refine wpAnyH_ready (rs := [1, 2]) (by kernel_rfl) (by simp) ?_
      refine (AllReadyH.cons rfl (fun K hK => ?_) (AllReadyH.cons rfl (fun K hK => ?_) AllReadyH.nil))
      · go_simp
        try dsimp only
        refine hK.out _ _ ?_ (fun hS => ?_)
        · exact hS
        clear hK K
        try simp only [Act.put, List.getElem_toArray, List.getElem_cons_zero, List.getElem_cons_succ, List.setIfInBounds_toArray, List.set_cons_zero, List.set_cons_succ]
        refine wpAnyH_ready (rs := [2]) (by kernel_rfl) (by simp) ?_
        refine (AllReadyH.cons rfl (fun K hK => ?_) AllReadyH.nil)
        go_simp
        go_at_call 17
        refine (hit0 _).mono ?_
        rintro e w0 ⟨rfl, hk0⟩
        try dsimp only
        refine hK.out _ _ ?_ (fun hS => ?_)
        · exact hS
        clear hK K
        try simp only [Act.put, List.getElem_toArray, List.getElem_cons_zero, List.getElem_cons_succ, List.setIfInBounds_toArray, List.set_cons_zero, List.set_cons_succ]
        have kk0 : Kept wr w0 := Kept.trans' (((Below.refl wr.heap.size wr).drew)) hk0
        have ce0 : w0.cell? ⟨P, 0, none⟩ = some v := (kk0.cell (p := ⟨P, 0, none⟩) hPr).trans hcr
        have lz0 : P < w0.heap.size := Nat.lt_of_lt_of_le hPr kk0.size
        refine wpAnyH_ready (rs := [3]) (by kernel_rfl) (by simp) ?_
        refine (AllReadyH.cons rfl (fun K hK => ?_) AllReadyH.nil)
        go_simp
        try dsimp only
        refine hK.out _ _ ?_ (fun hS => ?_)
        · exact hS
        clear hK K
        try simp only [Act.put, List.getElem_toArray, List.getElem_cons_zero, List.getElem_cons_succ, List.setIfInBounds_toArray, List.set_cons_zero, List.set_cons_succ]
        refine wpAnyH_ready (rs := [4]) (by kernel_rfl) (by simp) ?_
        refine (AllReadyH.cons rfl (fun K hK => ?_) AllReadyH.nil)
        have kkb : Kept wr (w0.alloc (.cells #[.int .u8 y0.ty, .int .u8 y0.tg, .int .i64 y0.size, .int .u32 y0.data] 29)) := kk0.alloc kk0.size _
        have hownB := hown.kept kkb
        have hnew : Sl itT (w0.alloc (.cells #[.int .u8 y0.ty, .int .u8 y0.tg, .int .i64 y0.size, .int .u32 y0.data] 29)) (apart (w0.alloc (.cells #[.int .u8 y0.ty, .int .u8 y0.tg, .int .i64 y0.size, .int .u32 y0.data] 29)) v) (some ⟨w0.heap.size, 0, none⟩) 1 [y0] := sl_it_heap (heap_at _ rfl) rfl Hok.out ⟨by simp, fun e => by have h1 := (hown.lt e).2; have h2 := kk0.size; omega⟩
        refine step_append_sl (T := itT) rfl (.tmp 40) (.tmp 42) 22 rfl W.heap.size 29 i29 _ 24 Try.underlying22 hi29 hz0 hz1 hz2 rfl (show 0 < 4 by decide) v ln X (by rfl) hownB (some ⟨w0.heap.size, 0, none⟩) 1 1 [y0] (by rfl) hnew (by_one29 _ _) (by unfold maxLen; omega) (by omega) (Nat.le_trans hBr kkb.size) ?_
        intro u7 x7 hown7 hg7 hb7 hat7
        obtain ⟨Au, cu, rfl, hu1, hu2⟩ := hown7.isSlice
        clear hu1 hu2
        have hP7 := (hb7.block P hPB).trans (heap_kept kkb HPr.out)
        have cz7 : x7.cell? ⟨P, 0, none⟩ = some v := cell_heap hP7 (o := 0) rfl
        have fz7 := frozen_heap hP7 (o := 0)
        have lz7 := heap_lt hP7
        refine hK.out _ _ ?_ (fun hS => ?_)
        · exact hS
        clear hK K
        try simp only [Act.put, List.getElem_toArray, List.getElem_cons_zero, List.getElem_cons_succ, List.setIfInBounds_toArray, List.set_cons_zero, List.set_cons_succ]
        refine wpAnyH_take (i := 5) (v := ?_) rfl (by kernel_rfl) (by kernel_rfl) (by kernel_rfl) (fun _ _ _ h => h) (Or.inl ⟨by kernel_rfl, ?_⟩) hS ?_
        rotate_left
        · intro w' hS'
          have hq := hS'.1
          have hq2 := hS'.2
          clear hS'
          first | (go_simp; done) | (go_simp; with_reducible rfl)
        try simp only [Act.put, List.getElem_toArray, List.getElem_cons_zero, List.getElem_cons_succ, List.setIfInBounds_toArray, List.set_cons_zero, List.set_cons_succ]
        refine wpAnyH_ready (rs := [6]) (by kernel_rfl) (by simp) ?_
        refine (AllReadyH.cons rfl (fun K hK => ?_) AllReadyH.nil)
        go_simp
        try dsimp only
        refine hK.out _ _ ?_ (fun hS => ?_)
        · exact hS
        clear hK K
        try simp only [Act.put, List.getElem_toArray, List.getElem_cons_zero, List.getElem_cons_succ, List.setIfInBounds_toArray, List.set_cons_zero, List.set_cons_succ]
        refine wpAnyH_done (by kernel_rfl) ?_ _
        have hkt7 := hkt.trans ((KeptTo.of kkb hBr).trans ((KeptTo.below hb7).trans (KeptTo.set (P := P) 0 (.slice Au (ln + 1) cu))))
        have hP8 := heap_store (i := 0) hP7 (.slice Au (ln + 1) cu)
        have hown8 := hown7.setCell (fun h => h) (p := ⟨P, 0, none⟩) hPB (.slice Au (ln + 1) cu)
        clear hS cz7 fz7 hown7 hb7 hg7 hat7 hP7 hownB hnew
        go_wp2_with fail
        go_roundg (gk - 1)
        case measure => have := Hi.out; omega
        case rel =>
          refine ⟨i + 1, _, by have := Hi.out; omega, by go_num, hP8, ?_, hkt7⟩
          have e : ([] : List It) ++ repL (i + 1) [y0] = X ++ [y0] := by rw [repL_succ, ← List.append_assoc, HX.out]
          have e2 : (([] : List It) ++ repL (i + 1) [y0]).length = ln + 1 := by rw [e, List.length_append, Hln.out]; rfl
          rw [e2, e]
          exact hown8
      · go_simp
        go_at_call 17
        refine (hit0 _).mono ?_
        rintro e w0 ⟨rfl, hk0⟩
        try dsimp only
        refine hK.out _ _ ?_ (fun hS => ?_)
        · exact hS
        clear hK K
        try simp only [Act.put, List.getElem_toArray, List.getElem_cons_zero, List.getElem_cons_succ, List.setIfInBounds_toArray, List.set_cons_zero, List.set_cons_succ]
        have kk0 : Kept wr w0 := Kept.trans' (((Below.refl wr.heap.size wr).drew)) hk0
        have ce0 : w0.cell? ⟨P, 0, none⟩ = some v := (kk0.cell (p := ⟨P, 0, none⟩) hPr).trans hcr
        have lz0 : P < w0.heap.size := Nat.lt_of_lt_of_le hPr kk0.size
        refine wpAnyH_ready (rs := [1, 3]) (by kernel_rfl) (by simp) ?_
        refine (AllReadyH.cons rfl (fun K hK => ?_) (AllReadyH.cons rfl (fun K hK => ?_) AllReadyH.nil))
        · go_simp
          try dsimp only
          refine hK.out _ _ ?_ (fun hS => ?_)
          · exact hS
          clear hK K
          try simp only [Act.put, List.getElem_toArray, List.getElem_cons_zero, List.getElem_cons_succ, List.setIfInBounds_toArray, List.set_cons_zero, List.set_cons_succ]
          refine wpAnyH_ready (rs := [3]) (by kernel_rfl) (by simp) ?_
          refine (AllReadyH.cons rfl (fun K hK => ?_) AllReadyH.nil)
          go_simp
          try dsimp only
          refine hK.out _ _ ?_ (fun hS => ?_)
          · exact hS
          clear hK K
          try simp only [Act.put, List.getElem_toArray, List.getElem_cons_zero, List.getElem_cons_succ, List.setIfInBounds_toArray, List.set_cons_zero, List.set_cons_succ]
          refine wpAnyH_ready (rs := [4]) (by kernel_rfl) (by simp) ?_
          refine (AllReadyH.cons rfl (fun K hK => ?_) AllReadyH.nil)
          have kkb : Kept wr (w0.alloc (.cells #[.int .u8 y0.ty, .int .u8 y0.tg, .int .i64 y0.size, .int .u32 y0.data] 29)) := kk0.alloc kk0.size _
          have hownB := hown.kept kkb
          have hnew : Sl itT (w0.alloc (.cells #[.int .u8 y0.ty, .int .u8 y0.tg, .int .i64 y0.size, .int .u32 y0.data] 29)) (apart (w0.alloc (.cells #[.int .u8 y0.ty, .int .u8 y0.tg, .int .i64 y0.size, .int .u32 y0.data] 29)) v) (some ⟨w0.heap.size, 0, none⟩) 1 [y0] := sl_it_heap (heap_at _ rfl) rfl Hok.out ⟨by simp, fun e => by have h1 := (hown.lt e).2; have h2 := kk0.size; omega⟩
          refine step_append_sl (T := itT) rfl (.tmp 40) (.tmp 42) 22 rfl W.heap.size 29 i29 _ 24 Try.underlying22 hi29 hz0 hz1 hz2 rfl (show 0 < 4 by decide) v ln X (by rfl) hownB (some ⟨w0.heap.size, 0, none⟩) 1 1 [y0] (by rfl) hnew (by_one29 _ _) (by unfold maxLen; omega) (by omega) (Nat.le_trans hBr kkb.size) ?_
          intro u7 x7 hown7 hg7 hb7 hat7
          obtain ⟨Au, cu, rfl, hu1, hu2⟩ := hown7.isSlice
          clear hu1 hu2
          have hP7 := (hb7.block P hPB).trans (heap_kept kkb HPr.out)
          have cz7 : x7.cell? ⟨P, 0, none⟩ = some v := cell_heap hP7 (o := 0) rfl
          have fz7 := frozen_heap hP7 (o := 0)
          have lz7 := heap_lt hP7
          refine hK.out _ _ ?_ (fun hS => ?_)
          · exact hS
          clear hK K
          try simp only [Act.put, List.getElem_toArray, List.getElem_cons_zero, List.getElem_cons_succ, List.setIfInBounds_toArray, List.set_cons_zero, List.set_cons_succ]
          refine wpAnyH_take (i := 5) (v := ?_) rfl (by kernel_rfl) (by kernel_rfl) (by kernel_rfl) (fun _ _ _ h => h) (Or.inl ⟨by kernel_rfl, ?_⟩) hS ?_
          rotate_left
          · intro w' hS'
            have hq := hS'.1
            have hq2 := hS'.2
            clear hS'
            first | (go_simp; done) | (go_simp; with_reducible rfl)
          try simp only [Act.put, List.getElem_toArray, List.getElem_cons_zero, List.getElem_cons_succ, List.setIfInBounds_toArray, List.set_cons_zero, List.set_cons_succ]
          refine wpAnyH_ready (rs := [6]) (by kernel_rfl) (by simp) ?_
          refine (AllReadyH.cons rfl (fun K hK => ?_) AllReadyH.nil)
          go_simp
          try dsimp only
          refine hK.out _ _ ?_ (fun hS => ?_)
          · exact hS
          clear hK K
          try simp only [Act.put, List.getElem_toArray, List.getElem_cons_zero, List.getElem_cons_succ, List.setIfInBounds_toArray, List.set_cons_zero, List.set_cons_succ]
          refine wpAnyH_done (by kernel_rfl) ?_ _
          have hkt7 := hkt.trans ((KeptTo.of kkb hBr).trans ((KeptTo.below hb7).trans (KeptTo.set (P := P) 0 (.slice Au (ln + 1) cu))))
          have hP8 := heap_store (i := 0) hP7 (.slice Au (ln + 1) cu)
          have hown8 := hown7.setCell (fun h => h) (p := ⟨P, 0, none⟩) hPB (.slice Au (ln + 1) cu)
          clear hS cz7 fz7 hown7 hb7 hg7 hat7 hP7 hownB hnew
          go_wp2_with fail
          go_roundg (gk - 1)
          case measure => have := Hi.out; omega
          case rel =>
            refine ⟨i + 1, _, by have := Hi.out; omega, by go_num, hP8, ?_, hkt7⟩
            have e : ([] : List It) ++ repL (i + 1) [y0] = X ++ [y0] := by rw [repL_succ, ← List.append_assoc, HX.out]
            have e2 : (([] : List It) ++ repL (i + 1) [y0]).length = ln + 1 := by rw [e, List.length_append, Hln.out]; rfl
            rw [e2, e]
            exact hown8
        · go_simp
          try dsimp only
          refine hK.out _ _ ?_ (fun hS => ?_)
          · exact hS
          clear hK K
          try simp only [Act.put, List.getElem_toArray, List.getElem_cons_zero, List.getElem_cons_succ, List.setIfInBounds_toArray, List.set_cons_zero, List.set_cons_succ]
          refine wpAnyH_ready (rs := [1]) (by kernel_rfl) (by simp) ?_
          refine (AllReadyH.cons rfl (fun K hK => ?_) AllReadyH.nil)
          go_simp
          try dsimp only
          refine hK.out _ _ ?_ (fun hS => ?_)
          · exact hS
          clear hK K
          try simp only [Act.put, List.getElem_toArray, List.getElem_cons_zero, List.getElem_cons_succ, List.setIfInBounds_toArray, List.set_cons_zero, List.set_cons_succ]
          refine wpAnyH_ready (rs := [4]) (by kernel_rfl) (by simp) ?_
          refine (AllReadyH.cons rfl (fun K hK => ?_) AllReadyH.nil)
          have kkb : Kept wr (w0.alloc (.cells #[.int .u8 y0.ty, .int .u8 y0.tg, .int .i64 y0.size, .int .u32 y0.data] 29)) := kk0.alloc kk0.size _
          have hownB := hown.kept kkb
          have hnew : Sl itT (w0.alloc (.cells #[.int .u8 y0.ty, .int .u8 y0.tg, .int .i64 y0.size, .int .u32 y0.data] 29)) (apart (w0.alloc (.cells #[.int .u8 y0.ty, .int .u8 y0.tg, .int .i64 y0.size, .int .u32 y0.data] 29)) v) (some ⟨w0.heap.size, 0, none⟩) 1 [y0] := sl_it_heap (heap_at _ rfl) rfl Hok.out ⟨by simp, fun e => by have h1 := (hown.lt e).2; have h2 := kk0.size; omega⟩
          refine step_append_sl (T := itT) rfl (.tmp 40) (.tmp 42) 22 rfl W.heap.size 29 i29 _ 24 Try.underlying22 hi29 hz0 hz1 hz2 rfl (show 0 < 4 by decide) v ln X (by rfl) hownB (some ⟨w0.heap.size, 0, none⟩) 1 1 [y0] (by rfl) hnew (by_one29 _ _) (by unfold maxLen; omega) (by omega) (Nat.le_trans hBr kkb.size) ?_
          intro u7 x7 hown7 hg7 hb7 hat7
          obtain ⟨Au, cu, rfl, hu1, hu2⟩ := hown7.isSlice
          clear hu1 hu2
          have hP7 := (hb7.block P hPB).trans (heap_kept kkb HPr.out)
          have cz7 : x7.cell? ⟨P, 0, none⟩ = some v := cell_heap hP7 (o := 0) rfl
          have fz7 := frozen_heap hP7 (o := 0)
          have lz7 := heap_lt hP7
          refine hK.out _ _ ?_ (fun hS => ?_)
          · exact hS
          clear hK K
          try simp only [Act.put, List.getElem_toArray, List.getElem_cons_zero, List.getElem_cons_succ, List.setIfInBounds_toArray, List.set_cons_zero, List.set_cons_succ]
          refine wpAnyH_take (i := 5) (v := ?_) rfl (by kernel_rfl) (by kernel_rfl) (by kernel_rfl) (fun _ _ _ h => h) (Or.inl ⟨by kernel_rfl, ?_⟩) hS ?_
          rotate_left
          · intro w' hS'
            have hq := hS'.1
            have hq2 := hS'.2
            clear hS'
            first | (go_simp; done) | (go_simp; with_reducible rfl)
          try simp only [Act.put, List.getElem_toArray, List.getElem_cons_zero, List.getElem_cons_succ, List.setIfInBounds_toArray, List.set_cons_zero, List.set_cons_succ]
          refine wpAnyH_ready (rs := [6]) (by kernel_rfl) (by simp) ?_
          refine (AllReadyH.cons rfl (fun K hK => ?_) AllReadyH.nil)
          go_simp
          try dsimp only
          refine hK.out _ _ ?_ (fun hS => ?_)
          · exact hS
          clear hK K
          try simp only [Act.put, List.getElem_toArray, List.getElem_cons_zero, List.getElem_cons_succ, List.setIfInBounds_toArray, List.set_cons_zero, List.set_cons_succ]
          refine wpAnyH_done (by kernel_rfl) ?_ _
          have hkt7 := hkt.trans ((KeptTo.of kkb hBr).trans ((KeptTo.below hb7).trans (KeptTo.set (P := P) 0 (.slice Au (ln + 1) cu))))
          have hP8 := heap_store (i := 0) hP7 (.slice Au (ln + 1) cu)
          have hown8 := hown7.setCell (fun h => h) (p := ⟨P, 0, none⟩) hPB (.slice Au (ln + 1) cu)
          clear hS cz7 fz7 hown7 hb7 hg7 hat7 hP7 hownB hnew
          go_wp2_with fail
          go_roundg (gk - 1)
          case measure => have := Hi.out; omega
          case rel =>
            refine ⟨i + 1, _, by have := Hi.out; omega, by go_num, hP8, ?_, hkt7⟩
            have e : ([] : List It) ++ repL (i + 1) [y0] = X ++ [y0] := by rw [repL_succ, ← List.append_assoc, HX.out]
            have e2 : (([] : List It) ++ repL (i + 1) [y0]).length = ln + 1 := by rw [e, List.length_append, Hln.out]; rfl
            rw [e2, e]
            exact hown8
    · have hge : (NN : Int) ≤ (i : Int) := by omega
      have hiN : i = NN := by have := Hi.out; omega
      subst hiN
      have hsz := hkt.size
      have h0 : PartIs P wr.heap.size wr v (partL n 0) := by
        have e : ([] : List It) ++ repL i [y0] = partL n 0 := by rw [List.nil_append, ← HNN.out, ← Hy0.out]; rfl
        rw [e] at hown
        exact PartIs.own hown hPB
      go_upto_region 10 with (fail)
      refine lim_2 (B := wr.heap.size) ⟨hn1, hn2⟩ (hkt.kept Hk.out hPw hPB) hPw HPr.out ((h5.keep hkt).mono hsz) ((h6.keep hkt).mono hsz) (Nat.lt_of_lt_of_le hPB hsz) (Nat.le_refl _) h0 rfl rfl rfl rfl _ _ ?_ ?_ <;> assumption
end Go.Proofs.Ytegdigfcgeoboaa
/- ReportsLimits: the whole. -/
namespace Go.Proofs.Ytegdigfcgeoboaa
open Go.RowKit
attribute [local go_sem ↓] Go.wp_at_zero Go.wp_at_succ

theorem PartIs.past {P B : Nat} {w : World} {v : Value} {l : List It} (h : PartIs P B w v l) {P' : Nat} (hB : B ≤ P') : PartIs P' P' w v l := by
  obtain ⟨A, c, e, h1, h2, h3⟩ := h
  exact ⟨A, c, e, h1, h2, h3.keep (fun _ hb => ⟨by omega, by have := hb.1; omega⟩) (fun _ _ _ => rfl)⟩
set_option maxRecDepth 1000000 in
set_option maxHeartbeats 8000000 in
theorem lim_law (less : Int) (hl : 0 ≤ less ∧ less < 256) (w : World) : Calls Try.prog 5 #[.int .u8 less] w fun e w' => e = .returned (.bool true) ∧ Kept w w' := by
  obtain ⟨i29, hi29, hz0, hz1, hz2⟩ := info_parts info29
  obtain ⟨y0, hy0⟩ : ∃ y, iI 1 7 1 = y := ⟨_, rfl⟩
  have hit0 := item17i 1 7 1 (by omega) (by omega) y0 hy0
  obtain ⟨y1, hy1⟩ : ∃ y, iI 1 9 1 = y := ⟨_, rfl⟩
  have hit1 := item17i 1 9 1 (by omega) (by omega) y1 hy1
  obtain ⟨y2, hy2⟩ : ∃ y, iI 0 10 0 = y := ⟨_, rfl⟩
  have hit2 := item17i 0 10 0 (by omega) (by omega) y2 hy2
  obtain ⟨y3, hy3⟩ : ∃ y, iI 0 12 0 = y := ⟨_, rfl⟩
  have hit3 := item17i 0 12 0 (by omega) (by omega) y3 hy3
  have Hok : Hid (∀ x ∈ [y0, y1, y2], x.ok) := hide (by
    intro x hx
    simp at hx
    rcases hx with rfl | rfl | rfl
    · rw [← hy0]; exact iI_ok (by decide) (by decide)
    · rw [← hy1]; exact iI_ok (by decide) (by decide)
    · rw [← hy2]; exact iI_ok (by decide) (by decide))
  have Hok3 : Hid (∀ x ∈ [y3], x.ok) := hide (by
    intro x hx
    simp at hx
    subst hx
    rw [← hy3]; exact iI_ok (by decide) (by decide))
  have Hh : Hid ([y0, y1, y2] = headL) := hide (by rw [← hy0, ← hy1, ← hy2]; rfl)
  have He : Hid ([y3] = endL) := hide (by rw [← hy3]; rfl)
  clear hy0 hy1 hy2 hy3
  obtain ⟨n, hn⟩ : ∃ n : Int, less % 3 - 1 = n := ⟨_, rfl⟩
  have hn3 : less % 3 = n + 1 := by omega
  have hnn : -1 ≤ n ∧ n ≤ 1 := by omega
  have hw0 : IntKind.i64.wrap (n + 1) = n + 1 := by rw [IntKind.wrap_i64]; omega
  have hw1 : IntKind.i64.wrap (n + 1 - 1) = n := by rw [IntKind.wrap_i64]; omega
  have hw2 : IntKind.u8.wrap (n + 1) = n + 1 := by rw [IntKind.wrap_u8]; omega
  have hw4 : less.tmod 3 = n + 1 := by rw [Int.tmod_eq_emod_of_nonneg hl.1]; exact hn3
  go_enter Try.func5, Try.ntmps5
  go_wp2_with fail
  refine (hit0 _).mono ?_
  rintro e w1 ⟨rfl, hk1⟩
  go_wp2_with fail
  go_at_call 17
  refine (hit1 _).mono ?_
  rintro e w2 ⟨rfl, hk2⟩
  go_wp2_with fail
  go_at_call 17
  refine (hit2 _).mono ?_
  rintro e w3 ⟨rfl, hk3⟩
  have k3 : Kept w w3 := (hk1.trans' hk2).trans' hk3
  clear hk1 hk2 hk3 hit0 hit1 hit2
  go_upto_region 4 with (fail)
  refine wp_at (fun W => Kept w W ∧ PartIs W.heap.size W.heap.size W (.slice (some ⟨w3.heap.size, 0, none⟩) 3 3) headL) ?_ (fun W hW => ?_)
  · refine ⟨k3.alloc k3.size _, ?_⟩
    rw [← Hh.out]
    refine ⟨some ⟨w3.heap.size, 0, none⟩, 3, rfl, Nat.le_refl _, by decide, ?_⟩
    refine sl_it_heap (cs := #[.int .u8 y0.ty, .int .u8 y0.tg, .int .i64 y0.size, .int .u32 y0.data, .int .u8 y1.ty, .int .u8 y1.tg, .int .i64 y1.size, .int .u32 y1.data, .int .u8 y2.ty, .int .u8 y2.tg, .int .i64 y2.size, .int .u32 y2.data]) (t := 29) ?_ rfl Hok.out ⟨by simp, by simp⟩
    exact heap_at _ (by simp)
  obtain ⟨kW, hh⟩ := hW
  clear k3
  go_wp2_with fail
  go_at_call 17
  refine (hit3 _).mono ?_
  rintro e w4 ⟨rfl, hk4⟩
  have k4 : Kept w w4 := kW.trans' hk4
  have hh4 := hh.keep (KeptTo.of (P := W.heap.size) hk4 (Nat.le_refl _))
  clear hit3
  go_upto_region 5 with (fail)
  refine wp_at (fun W2 => Kept w W2 ∧ PartIs W2.heap.size W2.heap.size W2 (.slice (some ⟨w3.heap.size, 0, none⟩) 3 3) headL ∧ PartIs W2.heap.size W2.heap.size W2 (.slice (some ⟨w4.heap.size, 0, none⟩) 1 1) endL) ?_ (fun W2 hW2 => ?_)
  · have kb : Kept w4 (w4.alloc (.cells #[.int .u8 y3.ty, .int .u8 y3.tg, .int .i64 y3.size, .int .u32 y3.data] 29)) := (Below.refl _ _).alloc (Nat.le_refl _) _
    have hz := hk4.size
    refine ⟨k4.alloc k4.size _, (hh4.keep (KeptTo.of (P := W.heap.size) kb hz)).past (by simp; omega), ?_⟩
    rw [← He.out]
    refine ⟨some ⟨w4.heap.size, 0, none⟩, 1, rfl, Nat.le_refl _, by decide, ?_⟩
    refine sl_it_heap (cs := #[.int .u8 y3.ty, .int .u8 y3.tg, .int .i64 y3.size, .int .u32 y3.data]) (t := 29) ?_ rfl Hok3.out ⟨by simp, by simp⟩
    exact heap_at _ (by simp)
  obtain ⟨k2, h5, h6⟩ := hW2
  clear hh hh4 kW hk4 k4
  go_upto_region 6 with (fail)
  refine wp_at (fun W3 => Kept w W3 ∧ W3.heap[W2.heap.size]? = some (.cells #[.slice none 0 0, .slice none 0 0, .slice none 0 0, .slice none 0 0, .slice none 0 0] 48 (0, 0)) ∧ PartIs W2.heap.size W2.heap.size W3 (.slice (some ⟨w3.heap.size, 0, none⟩) 3 3) headL ∧ PartIs W2.heap.size W2.heap.size W3 (.slice (some ⟨w4.heap.size, 0, none⟩) 1 1) endL ∧ W2.heap.size < W3.heap.size) ?_ (fun W3 hW3 => ?_)
  · have kb : Kept W2 (W2.alloc (.cells #[.slice none 0 0, .slice none 0 0, .slice none 0 0, .slice none 0 0, .slice none 0 0] 48)) := (Below.refl _ _).alloc (Nat.le_refl _) _
    have kt := KeptTo.of (P := W2.heap.size) kb (Nat.le_refl _)
    refine ⟨k2.trans' kb, ?_, h5.keep kt, h6.keep kt, by simp⟩
    exact heap_at _ rfl
  obtain ⟨k3, hP, h5, h6, hlt⟩ := hW3
  refine lim_1 (B := W3.heap.size) hnn k3 k2.size hP (h5.mono (Nat.le_of_lt hlt)) (h6.mono (Nat.le_of_lt hlt)) hlt (Nat.le_refl _) rfl rfl rfl rfl rfl _ _ ?_ ?_ <;> assumption
end Go.Proofs.Ytegdigfcgeoboaa
