

/- Parse of a request's text; and lives. The library's variables are as the program lays them. -/
import Derived.Test.YtfoeihbajichpaaDoorChecked
import Derived.Deep.RegionHeld3
import Derived.Deep.DrawnRows
import Derived.Deep.DeepCutAuto
import Derived.Deep.LoopGhost
import Derived.Outline
import Derived.Handy
import Derived.OwnWalk
import Derived.Laws.EntriesVeiled
import Derived.Test.YtfoeihbajichpaaDoorSn
import Derived.Test.YtfoeihbajichpaaDoorSo
import Derived.Test.YtfoeihbajichpaaDoorSp
import Derived.Test.YtfoeihbajichpaaDoorSi
set_option linter.unusedVariables false
set_option linter.unusedSimpArgs false
set_option linter.unusedSectionVars false
namespace Go.Proofs.YtfoeihbajichpaaDoor
open Go.RowKit Go.Lib Go.Maps Go.WideShapes
attribute [local go_sem ↓] Go.wp_at_zero Go.wp_at_succ

theorem parse_of (r : Rq) (s : ByteArray) (h : r.ok) (hs : textB r = s) (w : World) (hT : Tabs w) :
    Calls Tryd.prog 17 #[.string s] w fun e w' => e = .returned (.tuple #[.agg #[.int .u8 (r.typ), .int .u8 (r.code), .int .u16 (r.val), .int .u16 (r.idx), .int .u16 (r.len)], .int .i64 0]) ∧ Kept w w' := by
  subst hs
  have hw := words_text h
  obtain ⟨hp, hq⟩ := parse_text h
  have hz : (textB r).size ≤ 1000 := by have := text_small h; unfold textB; rw [B8_size]; omega
  refine (parse_seven (textB r) _ _ _ _ _ _ _ w hz hT hw).mono ?_
  rintro e w' ⟨h1, _, hk⟩
  have h2 := h1 hq (by rw [hp])
  rw [hp] at h2
  exact ⟨h2, hk⟩
theorem live_a : textB ⟨128, 6, 256, 0, 18⟩ = (⟨#[105, 110, 32, 115, 116, 97, 110, 100, 97, 114, 100, 32, 100, 101, 118, 105, 99, 101, 32, 71, 101, 116, 68, 101, 115, 99, 114, 105, 112, 116, 111, 114, 32, 50, 53, 54, 32, 48, 32, 49, 56]⟩ : ByteArray) := by decide +kernel
theorem live_b : textB ⟨163, 0, 0, 1, 4⟩ = (⟨#[105, 110, 32, 99, 108, 97, 115, 115, 32, 111, 116, 104, 101, 114, 32, 48, 32, 48, 32, 49, 32, 52]⟩ : ByteArray) := by decide +kernel
theorem okA : Rq.ok ⟨128, 6, 256, 0, 18⟩ := by unfold Rq.ok; decide
theorem okB : Rq.ok ⟨163, 0, 0, 1, 4⟩ := by unfold Rq.ok; decide
theorem live_desc (w : World) : Calls Tryd.prog 28 #[.int .u8 1, .int .u8 0, .int .u16 0, .int .u16 18] w fun e w' => e = .returned (.agg #[.int .u8 (128), .int .u8 (6), .int .u16 (256), .int .u16 (0), .int .u16 (18)]) ∧ Kept w w' :=
  descriptor_any 1 0 0 18 (by decide) (by decide) (by decide) (by decide) (by decide) (by decide) w
theorem live_featA (w : World) : Calls Tryd.prog 26 #[.bool true, .int .u8 2, .int .u16 0, .int .u16 129] w fun e w' => e = .returned (.agg #[.int .u8 (2), .int .u8 (3), .int .u16 (0), .int .u16 (129), .int .u16 (0)]) ∧ Kept w w' :=
  feature_set 2 0 129 (by decide) (by decide) w
theorem live_featB (w : World) : Calls Tryd.prog 26 #[.bool true, .int .u8 0, .int .u16 0, .int .u16 0] w fun e w' => e = .returned (.agg #[.int .u8 (0), .int .u8 (3), .int .u16 (0), .int .u16 (0), .int .u16 (0)]) ∧ Kept w w' :=
  feature_set 0 0 0 (by decide) (by decide) w
theorem live_chkA (w : World) : Calls Tryd.prog 15 #[.agg #[.int .u8 (2), .int .u8 (3), .int .u16 (0), .int .u16 (129), .int .u16 (0)]] w fun e w' => e = .returned (.int .i64 0) ∧ Kept w w' :=
  (check_row 2 3 0 129 0 _ _ _ w (by decide) (by decide) (by decide) (by decide) (by decide) (by decide) (by decide) (by decide) (by decide) (by decide) (by decide) rfl).mono fun e w' h => ⟨by rw [h.1]; rfl, h.2⟩
theorem live_chkB (w : World) : Calls Tryd.prog 15 #[.agg #[.int .u8 (0), .int .u8 (3), .int .u16 (0), .int .u16 (0), .int .u16 (0)]] w fun e w' => e = .returned (.int .i64 4) ∧ Kept w w' :=
  (check_row 0 3 0 0 0 _ _ _ w (by decide) (by decide) (by decide) (by decide) (by decide) (by decide) (by decide) (by decide) (by decide) (by decide) (by decide) rfl).mono fun e w' h => ⟨by rw [h.1]; rfl, h.2⟩
theorem live_chkC (w : World) : Calls Tryd.prog 15 #[.agg #[.int .u8 (163), .int .u8 (0), .int .u16 (0), .int .u16 (1), .int .u16 (4)]] w fun e w' => e = .returned (.int .i64 1) ∧ Kept w w' :=
  check_kind 163 0 0 1 4 w (by decide) (by decide) (by decide)
theorem live_type (w : World) : Calls Tryd.prog 10 #[.bool true, .int .u8 1, .int .u8 3] w fun e w' => e = .returned (.tuple #[.int .u8 163, .int .i64 0]) ∧ w = w' := type_any true 1 3 w (by decide) (by decide)
theorem live_txtA (w : World) (hT : Tabs w) : Calls Tryd.prog 18 #[.agg #[.int .u8 (128), .int .u8 (6), .int .u16 (256), .int .u16 (0), .int .u16 (18)]] w fun e w' => e = .returned (.string (⟨#[105, 110, 32, 115, 116, 97, 110, 100, 97, 114, 100, 32, 100, 101, 118, 105, 99, 101, 32, 71, 101, 116, 68, 101, 115, 99, 114, 105, 112, 116, 111, 114, 32, 50, 53, 54, 32, 48, 32, 49, 56]⟩ : ByteArray)) ∧ Kept w w' :=
  (text_any 128 6 256 0 18 w okA hT).mono fun e w' h => ⟨by rw [h.1, live_a], h.2⟩
theorem live_txtB (w : World) (hT : Tabs w) : Calls Tryd.prog 18 #[.agg #[.int .u8 (163), .int .u8 (0), .int .u16 (0), .int .u16 (1), .int .u16 (4)]] w fun e w' => e = .returned (.string (⟨#[105, 110, 32, 99, 108, 97, 115, 115, 32, 111, 116, 104, 101, 114, 32, 48, 32, 48, 32, 49, 32, 52]⟩ : ByteArray)) ∧ Kept w w' :=
  (text_any 163 0 0 1 4 w okB hT).mono fun e w' h => ⟨by rw [h.1, live_b], h.2⟩
def Live (w : World) (D X Y : Nat) (W : World) : Prop :=
  W.heap[D]? = some (.cells #[.int .u8 (128), .int .u8 (6), .int .u16 (256), .int .u16 (0), .int .u16 (18)] 25 (0, 0)) ∧ W.heap[X]? = some (.cells #[.int .u8 (163), .int .u8 (0), .int .u16 (0), .int .u16 (1), .int .u16 (4)] 25 (0, 0)) ∧ W.heap[Y]? = some (.cells #[.int .u8 (163), .int .u8 (0), .int .u16 (0), .int .u16 (1), .int .u16 (4)] 25 (0, 0)) ∧ Kept w W
theorem Live.kept {w W W' : World} {D X Y : Nat} (h : Live w D X Y W) (hk : Kept W W') : Live w D X Y W' :=
  ⟨heap_kept hk h.1, heap_kept hk h.2.1, heap_kept hk h.2.2.1, h.2.2.2.trans' hk⟩
set_option maxRecDepth 100000 in
set_option maxHeartbeats 4000000 in
theorem lives_any (w : World) (hT : Tabs w) : Calls Tryd.prog 11 #[] w fun e w' => e = .returned (.bool true) ∧ Kept w w' := by
  go_enter Tryd.func11, Tryd.ntmps11
  go_upto_region 2 with (go_at_call 28; refine (live_desc _).mono ?_; rintro e w1 ⟨rfl, hk1⟩)
  refine wp_at (fun W => W.heap[w1.heap.size]? = some (.cells #[.int .u8 (128), .int .u8 (6), .int .u16 (256), .int .u16 (0), .int .u16 (18)] 25 (0, 0)) ∧ Kept w W) ⟨heap_at _ rfl, hk1.alloc hk1.size _⟩ (fun W hW => ?_)
  obtain ⟨HD, hkW⟩ := hW
  generalize w1.heap.size = D at *
  clear hk1
  have d0 := cell_heap HD (o := 0) rfl
  have d1 := cell_heap HD (o := 1) rfl
  have d2 := cell_heap HD (o := 2) rfl
  have d3 := cell_heap HD (o := 3) rfl
  have d4 := cell_heap HD (o := 4) rfl
  go_upto_region 5 with (go_at_call 22; refine (encode_any 128 6 256 0 18 _ okA).mono ?_; rintro e w2 ⟨b, rfl, hb, hbl, hc, hk2⟩; have e0 := hc 0 128 rfl; have e1 := hc 1 6 rfl; have e2 := hc 2 0 rfl; have e3 := hc 3 1 rfl; have e4 := hc 4 0 rfl; have e5 := hc 5 0 rfl; have e6 := hc 6 18 rfl; have e7 := hc 7 0 rfl)
  refine wp_at (fun W => W.heap[D]? = some (.cells #[.int .u8 (128), .int .u8 (6), .int .u16 (256), .int .u16 (0), .int .u16 (18)] 25 (0, 0)) ∧ Kept w W) ⟨heap_kept hk2 HD, hkW.trans' hk2⟩ (fun W2 hW => ?_)
  clear d0 d1 d2 d3 d4 e0 e1 e2 e3 e4 e5 e6 e7 HD hkW hc hk2
  obtain ⟨HD, hkW⟩ := hW
  go_upto_region 8 with (first
    | (go_at_call 10; refine (live_type _).mono ?_; rintro e w3 ⟨rfl, rfl⟩)
    | (go_at_call 17; refine (parse_of ⟨163, 0, 0, 1, 4⟩ _ okB live_b _ (hT.kept (hkW.alloc hkW.size _))).mono ?_; rintro e w4 ⟨rfl, hk4⟩))
  refine wp_at (Live w D W2.heap.size w4.heap.size) ⟨heap_past (heap_kept hk4 (heap_past HD)), heap_past (heap_kept hk4 (heap_at _ rfl)), heap_at _ rfl, (Kept.trans' (hkW.alloc hkW.size _) hk4).alloc (Nat.le_trans hkW.size (Nat.le_trans (by simp) hk4.size)) _⟩ (fun W3 hL => ?_)
  clear HD hkW hk4
  generalize W2.heap.size = X at *
  generalize w4.heap.size = Y at *
  have hD := hL.1
  have hX := hL.2.1
  have hY := hL.2.2.1
  have d0 := cell_heap hD (o := 0) rfl
  have x0 := cell_heap hX (o := 0) rfl
  have y0 := cell_heap hY (o := 0) rfl
  have d1 := cell_heap hD (o := 1) rfl
  have x1 := cell_heap hX (o := 1) rfl
  have y1 := cell_heap hY (o := 1) rfl
  have d2 := cell_heap hD (o := 2) rfl
  have x2 := cell_heap hX (o := 2) rfl
  have y2 := cell_heap hY (o := 2) rfl
  have d3 := cell_heap hD (o := 3) rfl
  have x3 := cell_heap hX (o := 3) rfl
  have y3 := cell_heap hY (o := 3) rfl
  have d4 := cell_heap hD (o := 4) rfl
  have x4 := cell_heap hX (o := 4) rfl
  have y4 := cell_heap hY (o := 4) rfl
  have HTA := live_txtA
  have HTB := live_txtB
  generalize (⟨#[105, 110, 32, 115, 116, 97, 110, 100, 97, 114, 100, 32, 100, 101, 118, 105, 99, 101, 32, 71, 101, 116, 68, 101, 115, 99, 114, 105, 112, 116, 111, 114, 32, 50, 53, 54, 32, 48, 32, 49, 56]⟩ : ByteArray) = LA at *
  generalize (⟨#[105, 110, 32, 99, 108, 97, 115, 115, 32, 111, 116, 104, 101, 114, 32, 48, 32, 48, 32, 49, 32, 52]⟩ : ByteArray) = LB at *
  go_wp2_with (fail)
  refine (HTA _ (hT.kept hL.2.2.2)).mono ?_
  rintro e w9 ⟨rfl, hk9⟩
  replace hL := hL.kept hk9
  clear hk9 hD hX hY d0 d1 d2 d3 d4 x0 x1 x2 x3 x4 y0 y1 y2 y3 y4
  have hD := hL.1
  have hX := hL.2.1
  have hY := hL.2.2.1
  have d0 := cell_heap hD (o := 0) rfl
  have d1 := cell_heap hD (o := 1) rfl
  have d2 := cell_heap hD (o := 2) rfl
  have d3 := cell_heap hD (o := 3) rfl
  have d4 := cell_heap hD (o := 4) rfl
  have x0 := cell_heap hX (o := 0) rfl
  have x1 := cell_heap hX (o := 1) rfl
  have x2 := cell_heap hX (o := 2) rfl
  have x3 := cell_heap hX (o := 3) rfl
  have x4 := cell_heap hX (o := 4) rfl
  have y0 := cell_heap hY (o := 0) rfl
  have y1 := cell_heap hY (o := 1) rfl
  have y2 := cell_heap hY (o := 2) rfl
  have y3 := cell_heap hY (o := 3) rfl
  have y4 := cell_heap hY (o := 4) rfl
  try dsimp only
  go_wp2_with (fail)
  refine (HTB _ (hT.kept hL.2.2.2)).mono ?_
  rintro e w9 ⟨rfl, hk9⟩
  replace hL := hL.kept hk9
  clear hk9 hD hX hY d0 d1 d2 d3 d4 x0 x1 x2 x3 x4 y0 y1 y2 y3 y4
  have hD := hL.1
  have hX := hL.2.1
  have hY := hL.2.2.1
  have d0 := cell_heap hD (o := 0) rfl
  have d1 := cell_heap hD (o := 1) rfl
  have d2 := cell_heap hD (o := 2) rfl
  have d3 := cell_heap hD (o := 3) rfl
  have d4 := cell_heap hD (o := 4) rfl
  have x0 := cell_heap hX (o := 0) rfl
  have x1 := cell_heap hX (o := 1) rfl
  have x2 := cell_heap hX (o := 2) rfl
  have x3 := cell_heap hX (o := 3) rfl
  have x4 := cell_heap hX (o := 4) rfl
  have y0 := cell_heap hY (o := 0) rfl
  have y1 := cell_heap hY (o := 1) rfl
  have y2 := cell_heap hY (o := 2) rfl
  have y3 := cell_heap hY (o := 3) rfl
  have y4 := cell_heap hY (o := 4) rfl
  try dsimp only
  go_wp2_with (fail)
  refine (live_featA _).mono ?_
  rintro e w9 ⟨rfl, hk9⟩
  replace hL := hL.kept hk9
  clear hk9 hD hX hY d0 d1 d2 d3 d4 x0 x1 x2 x3 x4 y0 y1 y2 y3 y4
  have hD := hL.1
  have hX := hL.2.1
  have hY := hL.2.2.1
  have d0 := cell_heap hD (o := 0) rfl
  have d1 := cell_heap hD (o := 1) rfl
  have d2 := cell_heap hD (o := 2) rfl
  have d3 := cell_heap hD (o := 3) rfl
  have d4 := cell_heap hD (o := 4) rfl
  have x0 := cell_heap hX (o := 0) rfl
  have x1 := cell_heap hX (o := 1) rfl
  have x2 := cell_heap hX (o := 2) rfl
  have x3 := cell_heap hX (o := 3) rfl
  have x4 := cell_heap hX (o := 4) rfl
  have y0 := cell_heap hY (o := 0) rfl
  have y1 := cell_heap hY (o := 1) rfl
  have y2 := cell_heap hY (o := 2) rfl
  have y3 := cell_heap hY (o := 3) rfl
  have y4 := cell_heap hY (o := 4) rfl
  try dsimp only
  go_wp2_with (fail)
  refine (live_chkA _).mono ?_
  rintro e w9 ⟨rfl, hk9⟩
  replace hL := hL.kept hk9
  clear hk9 hD hX hY d0 d1 d2 d3 d4 x0 x1 x2 x3 x4 y0 y1 y2 y3 y4
  have hD := hL.1
  have hX := hL.2.1
  have hY := hL.2.2.1
  have d0 := cell_heap hD (o := 0) rfl
  have d1 := cell_heap hD (o := 1) rfl
  have d2 := cell_heap hD (o := 2) rfl
  have d3 := cell_heap hD (o := 3) rfl
  have d4 := cell_heap hD (o := 4) rfl
  have x0 := cell_heap hX (o := 0) rfl
  have x1 := cell_heap hX (o := 1) rfl
  have x2 := cell_heap hX (o := 2) rfl
  have x3 := cell_heap hX (o := 3) rfl
  have x4 := cell_heap hX (o := 4) rfl
  have y0 := cell_heap hY (o := 0) rfl
  have y1 := cell_heap hY (o := 1) rfl
  have y2 := cell_heap hY (o := 2) rfl
  have y3 := cell_heap hY (o := 3) rfl
  have y4 := cell_heap hY (o := 4) rfl
  try dsimp only
  go_wp2_with (fail)
  refine (live_featB _).mono ?_
  rintro e w9 ⟨rfl, hk9⟩
  replace hL := hL.kept hk9
  clear hk9 hD hX hY d0 d1 d2 d3 d4 x0 x1 x2 x3 x4 y0 y1 y2 y3 y4
  have hD := hL.1
  have hX := hL.2.1
  have hY := hL.2.2.1
  have d0 := cell_heap hD (o := 0) rfl
  have d1 := cell_heap hD (o := 1) rfl
  have d2 := cell_heap hD (o := 2) rfl
  have d3 := cell_heap hD (o := 3) rfl
  have d4 := cell_heap hD (o := 4) rfl
  have x0 := cell_heap hX (o := 0) rfl
  have x1 := cell_heap hX (o := 1) rfl
  have x2 := cell_heap hX (o := 2) rfl
  have x3 := cell_heap hX (o := 3) rfl
  have x4 := cell_heap hX (o := 4) rfl
  have y0 := cell_heap hY (o := 0) rfl
  have y1 := cell_heap hY (o := 1) rfl
  have y2 := cell_heap hY (o := 2) rfl
  have y3 := cell_heap hY (o := 3) rfl
  have y4 := cell_heap hY (o := 4) rfl
  try dsimp only
  go_wp2_with (fail)
  refine (live_chkB _).mono ?_
  rintro e w9 ⟨rfl, hk9⟩
  replace hL := hL.kept hk9
  clear hk9 hD hX hY d0 d1 d2 d3 d4 x0 x1 x2 x3 x4 y0 y1 y2 y3 y4
  have hD := hL.1
  have hX := hL.2.1
  have hY := hL.2.2.1
  have d0 := cell_heap hD (o := 0) rfl
  have d1 := cell_heap hD (o := 1) rfl
  have d2 := cell_heap hD (o := 2) rfl
  have d3 := cell_heap hD (o := 3) rfl
  have d4 := cell_heap hD (o := 4) rfl
  have x0 := cell_heap hX (o := 0) rfl
  have x1 := cell_heap hX (o := 1) rfl
  have x2 := cell_heap hX (o := 2) rfl
  have x3 := cell_heap hX (o := 3) rfl
  have x4 := cell_heap hX (o := 4) rfl
  have y0 := cell_heap hY (o := 0) rfl
  have y1 := cell_heap hY (o := 1) rfl
  have y2 := cell_heap hY (o := 2) rfl
  have y3 := cell_heap hY (o := 3) rfl
  have y4 := cell_heap hY (o := 4) rfl
  try dsimp only
  go_wp2_with (fail)
  refine (live_chkC _).mono ?_
  rintro e w9 ⟨rfl, hk9⟩
  replace hL := hL.kept hk9
  clear hk9 hD hX hY d0 d1 d2 d3 d4 x0 x1 x2 x3 x4 y0 y1 y2 y3 y4
  have hD := hL.1
  have hX := hL.2.1
  have hY := hL.2.2.1
  have d0 := cell_heap hD (o := 0) rfl
  have d1 := cell_heap hD (o := 1) rfl
  have d2 := cell_heap hD (o := 2) rfl
  have d3 := cell_heap hD (o := 3) rfl
  have d4 := cell_heap hD (o := 4) rfl
  have x0 := cell_heap hX (o := 0) rfl
  have x1 := cell_heap hX (o := 1) rfl
  have x2 := cell_heap hX (o := 2) rfl
  have x3 := cell_heap hX (o := 3) rfl
  have x4 := cell_heap hX (o := 4) rfl
  have y0 := cell_heap hY (o := 0) rfl
  have y1 := cell_heap hY (o := 1) rfl
  have y2 := cell_heap hY (o := 2) rfl
  have y3 := cell_heap hY (o := 3) rfl
  have y4 := cell_heap hY (o := 4) rfl
  try dsimp only
  go_wp2
  go_ret
  exact ⟨rfl, hL.2.2.2⟩
end Go.Proofs.YtfoeihbajichpaaDoor
