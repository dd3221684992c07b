/- EncodeConfiguration. The numbers lie in their kinds. -/
import Derived.Test.YtjgncofhobhjdaaDoorChecked
import Derived.Deep.RegionHeld3
import Derived.Deep.DrawnRows
import Derived.Deep.DeepCutAuto
import Derived.Deep.LoopGhost
import Derived.Outline
import Derived.Handy
import Derived.OwnWalk
import Derived.BigQuiet
import Derived.Test.YtjgncofhobhjdaaDoorN4
set_option linter.unusedVariables false
set_option linter.unusedSimpArgs false
set_option linter.unusedSectionVars false
namespace Go.Proofs.YtjgncofhobhjdaaDoor
open Go.RowKit
attribute [local go_sem ↓] Go.wp_at_zero Go.wp_at_succ

theorem okCfg_bad {d : CfgD} (h : okCfg d = false) : d.total < 9 ∨ 4096 < d.total ∨ d.ifs < 1 ∨ 16 < d.ifs ∨ d.number < 1 ∨ 250 < d.power := by
  unfold okCfg at h
  simp only [Bool.and_eq_false_iff, decide_eq_false_iff_not] at h
  omega
theorem okCfg_good {d : CfgD} (h : okCfg d = true) : 9 ≤ d.total ∧ d.total ≤ 4096 ∧ 1 ≤ d.ifs ∧ d.ifs ≤ 16 ∧ 1 ≤ d.number ∧ d.power ≤ 250 := by
  unfold okCfg at h
  simp only [Bool.and_eq_true, decide_eq_true_eq] at h
  omega
set_option maxRecDepth 100000 in
set_option maxHeartbeats 2000000 in
theorem encCfg_bad (d : CfgD) (w : World) (ho : okCfg d = false) : Calls Tryd.prog 71 #[.agg d.cells.toArray] w fun e w' => e = .returned (.tuple #[.slice none 0 0, .int .i64 1]) ∧ Kept w w' := by
  have h := okCfg_bad ho
  unfold CfgD.cells
  clear ho
  go_enter Tryd.func71, Tryd.ntmps71
  by_cases c0 : d.total < 9
  · go_wp2_with fail
    refine bodyPost_ret (v := .tuple #[.slice none 0 0, .int .i64 1]) (by simp [results, Tryd.results71, go_sem]) rfl ⟨rfl, by go_grown⟩
  by_cases c1 : 4096 < d.total
  · go_wp2_with fail
    refine bodyPost_ret (v := .tuple #[.slice none 0 0, .int .i64 1]) (by simp [results, Tryd.results71, go_sem]) rfl ⟨rfl, by go_grown⟩
  by_cases c2 : d.ifs < 1
  · go_wp2_with fail
    refine bodyPost_ret (v := .tuple #[.slice none 0 0, .int .i64 1]) (by simp [results, Tryd.results71, go_sem]) rfl ⟨rfl, by go_grown⟩
  by_cases c3 : 16 < d.ifs
  · go_wp2_with fail
    refine bodyPost_ret (v := .tuple #[.slice none 0 0, .int .i64 1]) (by simp [results, Tryd.results71, go_sem]) rfl ⟨rfl, by go_grown⟩
  by_cases c4 : d.number < 1
  · go_wp2_with fail
    refine bodyPost_ret (v := .tuple #[.slice none 0 0, .int .i64 1]) (by simp [results, Tryd.results71, go_sem]) rfl ⟨rfl, by go_grown⟩
  have c5 : 250 < d.power := by omega
  go_wp2_with fail
  refine bodyPost_ret (v := .tuple #[.slice none 0 0, .int .i64 1]) (by simp [results, Tryd.results71, go_sem]) rfl ⟨rfl, by go_grown⟩
set_option maxRecDepth 100000 in
set_option maxHeartbeats 4000000 in
theorem encCfg_ok (d : CfgD) (w : World) (hd : d.ok) (ho : okCfg d = true) : Calls Tryd.prog 71 #[.agg d.cells.toArray] w fun e w' => ∃ A cap, e = .returned (.tuple #[.slice A 9 cap, .int .i64 0]) ∧ Sl u8T w' (fun b => w.heap.size ≤ b ∧ b < w'.heap.size) A 9 (rawCfg d) ∧ Kept w w' := by
  obtain ⟨g1, g2, g3, g4, g5, g6⟩ := okCfg_good ho
  have hd' := hd
  obtain ⟨u1, u2, u3, u4, u5⟩ := hd'
  have Hd := hide hd
  have a1 : ¬ d.total < 9 := by omega
  have a2 : ¬ 4096 < d.total := by omega
  have a3 : ¬ d.ifs < 1 := by omega
  have a4 : ¬ 16 < d.ifs := by omega
  have a5 : ¬ d.number < 1 := by omega
  have a6 : ¬ 250 < d.power := by omega
  have hb : ∀ n, n = 128 ∨ n = 192 ∨ n = 160 ∨ n = 224 → u8k n := by intro n h; unfold u8k; omega
  unfold CfgD.cells
  clear ho hd
  obtain ⟨tot, ifs, num, tx, se, wa, po⟩ := d
  simp only at *
  go_enter Tryd.func71, Tryd.ntmps71
  cases se with
  | true =>
    cases wa with
    | true =>
      go_upto_region 8 with (fail)
      refine wp_at (fun W => W.heap[w.heap.size]? = some (.cells #[.int .u16 tot, .int .u8 ifs, .int .u8 num, .int .u8 tx, .bool true, .bool true, .int .u8 po] 29 (0, 0)) ∧ Kept w W) ⟨heap_at _ rfl, by go_grown⟩ (fun W hW => ?_)
      obtain ⟨hB, hkW⟩ := hW
      have HkW := hide hkW
      have hbl := heap_lt hB
      have e0 : W.cell? ⟨w.heap.size, 0, none⟩ = some (.int .u16 tot) := cell_heap hB (o := 0) rfl
      have e1 : W.cell? ⟨w.heap.size, 1, none⟩ = some (.int .u8 ifs) := cell_heap hB (o := 1) rfl
      have e2 : W.cell? ⟨w.heap.size, 2, none⟩ = some (.int .u8 num) := cell_heap hB (o := 2) rfl
      have e3 : W.cell? ⟨w.heap.size, 3, none⟩ = some (.int .u8 tx) := cell_heap hB (o := 3) rfl
      have e6 : W.cell? ⟨w.heap.size, 6, none⟩ = some (.int .u8 po) := cell_heap hB (o := 6) rfl
      have hlit : ∀ z ∈ [tot % 256, tot / 256, ifs, num, tx, 224, po], u8k z := by
        obtain ⟨u1a, u1b⟩ := u1
        intro z hz
        simp only [List.mem_cons, List.not_mem_nil, or_false] at hz
        rcases hz with rfl | rfl | rfl | rfl | rfl | rfl | rfl
        · unfold u8k; omega
        · unfold u8k; omega
        · exact u2
        · exact u3
        · exact u4
        · exact hb _ (by decide)
        · exact u5
      clear hB hkW
      go_region_held3 (fun w' => (∀ b o, b < W.heap.size → w'.cell? ⟨b, o, none⟩ = W.cell? ⟨b, o, none⟩) ∧ Below W.heap.size W w') (first | assumption | exact since_start | exact since_keep (by assumption) (Nat.le_refl _) hk | exact since_alloc (by assumption) (Nat.le_refl _)) (first
        | (go_at_call 93; refine (low_any tot _ u1).mono ?_; rintro e w1 ⟨rfl, rfl⟩)
        | (go_at_call 94; refine (high_any tot _ u1).mono ?_; rintro e w1 ⟨rfl, rfl⟩)
        | (go_at_call 92; refine (join_any 2 _ 7 7 [tot % 256, tot / 256, ifs, num, tx, 224, po] _ ⟨by decide, by decide⟩ (by decide) (by exact sl_lit8 (l := [tot % 256, tot / 256, ifs, num, tx, 224, po]) (heap_at _ rfl) (by simp [low]) hlit)).mono ?_; rintro e w1 ⟨A', cap, rfl, hown, hk⟩; have hown := own_new8 (hown.lower (base' := w.heap.size) (Nat.le_trans (Nat.le_of_lt hbl) (Below.size (B := W.heap.size) (w := W) (And.right (by assumption)))))))
      go_wp2_with fail
      refine bodyPost_ret (v := .tuple #[.slice A' 9 cap, .int .i64 0]) (by simp [results, Tryd.results71, go_sem]) rfl ⟨A', cap, rfl, ?_, since_kept HkW.out (by assumption) (Nat.le_refl _)⟩
      exact hown
    | false =>
      go_upto_region 8 with (fail)
      refine wp_at (fun W => W.heap[w.heap.size]? = some (.cells #[.int .u16 tot, .int .u8 ifs, .int .u8 num, .int .u8 tx, .bool true, .bool false, .int .u8 po] 29 (0, 0)) ∧ Kept w W) ⟨heap_at _ rfl, by go_grown⟩ (fun W hW => ?_)
      obtain ⟨hB, hkW⟩ := hW
      have HkW := hide hkW
      have hbl := heap_lt hB
      have e0 : W.cell? ⟨w.heap.size, 0, none⟩ = some (.int .u16 tot) := cell_heap hB (o := 0) rfl
      have e1 : W.cell? ⟨w.heap.size, 1, none⟩ = some (.int .u8 ifs) := cell_heap hB (o := 1) rfl
      have e2 : W.cell? ⟨w.heap.size, 2, none⟩ = some (.int .u8 num) := cell_heap hB (o := 2) rfl
      have e3 : W.cell? ⟨w.heap.size, 3, none⟩ = some (.int .u8 tx) := cell_heap hB (o := 3) rfl
      have e6 : W.cell? ⟨w.heap.size, 6, none⟩ = some (.int .u8 po) := cell_heap hB (o := 6) rfl
      have hlit : ∀ z ∈ [tot % 256, tot / 256, ifs, num, tx, 192, po], u8k z := by
        obtain ⟨u1a, u1b⟩ := u1
        intro z hz
        simp only [List.mem_cons, List.not_mem_nil, or_false] at hz
        rcases hz with rfl | rfl | rfl | rfl | rfl | rfl | rfl
        · unfold u8k; omega
        · unfold u8k; omega
        · exact u2
        · exact u3
        · exact u4
        · exact hb _ (by decide)
        · exact u5
      clear hB hkW
      go_region_held3 (fun w' => (∀ b o, b < W.heap.size → w'.cell? ⟨b, o, none⟩ = W.cell? ⟨b, o, none⟩) ∧ Below W.heap.size W w') (first | assumption | exact since_start | exact since_keep (by assumption) (Nat.le_refl _) hk | exact since_alloc (by assumption) (Nat.le_refl _)) (first
        | (go_at_call 93; refine (low_any tot _ u1).mono ?_; rintro e w1 ⟨rfl, rfl⟩)
        | (go_at_call 94; refine (high_any tot _ u1).mono ?_; rintro e w1 ⟨rfl, rfl⟩)
        | (go_at_call 92; refine (join_any 2 _ 7 7 [tot % 256, tot / 256, ifs, num, tx, 192, po] _ ⟨by decide, by decide⟩ (by decide) (by exact sl_lit8 (l := [tot % 256, tot / 256, ifs, num, tx, 192, po]) (heap_at _ rfl) (by simp [low]) hlit)).mono ?_; rintro e w1 ⟨A', cap, rfl, hown, hk⟩; have hown := own_new8 (hown.lower (base' := w.heap.size) (Nat.le_trans (Nat.le_of_lt hbl) (Below.size (B := W.heap.size) (w := W) (And.right (by assumption)))))))
      go_wp2_with fail
      refine bodyPost_ret (v := .tuple #[.slice A' 9 cap, .int .i64 0]) (by simp [results, Tryd.results71, go_sem]) rfl ⟨A', cap, rfl, ?_, since_kept HkW.out (by assumption) (Nat.le_refl _)⟩
      exact hown
  | false =>
    cases wa with
    | true =>
      go_upto_region 8 with (fail)
      refine wp_at (fun W => W.heap[w.heap.size]? = some (.cells #[.int .u16 tot, .int .u8 ifs, .int .u8 num, .int .u8 tx, .bool false, .bool true, .int .u8 po] 29 (0, 0)) ∧ Kept w W) ⟨heap_at _ rfl, by go_grown⟩ (fun W hW => ?_)
      obtain ⟨hB, hkW⟩ := hW
      have HkW := hide hkW
      have hbl := heap_lt hB
      have e0 : W.cell? ⟨w.heap.size, 0, none⟩ = some (.int .u16 tot) := cell_heap hB (o := 0) rfl
      have e1 : W.cell? ⟨w.heap.size, 1, none⟩ = some (.int .u8 ifs) := cell_heap hB (o := 1) rfl
      have e2 : W.cell? ⟨w.heap.size, 2, none⟩ = some (.int .u8 num) := cell_heap hB (o := 2) rfl
      have e3 : W.cell? ⟨w.heap.size, 3, none⟩ = some (.int .u8 tx) := cell_heap hB (o := 3) rfl
      have e6 : W.cell? ⟨w.heap.size, 6, none⟩ = some (.int .u8 po) := cell_heap hB (o := 6) rfl
      have hlit : ∀ z ∈ [tot % 256, tot / 256, ifs, num, tx, 160, po], u8k z := by
        obtain ⟨u1a, u1b⟩ := u1
        intro z hz
        simp only [List.mem_cons, List.not_mem_nil, or_false] at hz
        rcases hz with rfl | rfl | rfl | rfl | rfl | rfl | rfl
        · unfold u8k; omega
        · unfold u8k; omega
        · exact u2
        · exact u3
        · exact u4
        · exact hb _ (by decide)
        · exact u5
      clear hB hkW
      go_region_held3 (fun w' => (∀ b o, b < W.heap.size → w'.cell? ⟨b, o, none⟩ = W.cell? ⟨b, o, none⟩) ∧ Below W.heap.size W w') (first | assumption | exact since_start | exact since_keep (by assumption) (Nat.le_refl _) hk | exact since_alloc (by assumption) (Nat.le_refl _)) (first
        | (go_at_call 93; refine (low_any tot _ u1).mono ?_; rintro e w1 ⟨rfl, rfl⟩)
        | (go_at_call 94; refine (high_any tot _ u1).mono ?_; rintro e w1 ⟨rfl, rfl⟩)
        | (go_at_call 92; refine (join_any 2 _ 7 7 [tot % 256, tot / 256, ifs, num, tx, 160, po] _ ⟨by decide, by decide⟩ (by decide) (by exact sl_lit8 (l := [tot % 256, tot / 256, ifs, num, tx, 160, po]) (heap_at _ rfl) (by simp [low]) hlit)).mono ?_; rintro e w1 ⟨A', cap, rfl, hown, hk⟩; have hown := own_new8 (hown.lower (base' := w.heap.size) (Nat.le_trans (Nat.le_of_lt hbl) (Below.size (B := W.heap.size) (w := W) (And.right (by assumption)))))))
      go_wp2_with fail
      refine bodyPost_ret (v := .tuple #[.slice A' 9 cap, .int .i64 0]) (by simp [results, Tryd.results71, go_sem]) rfl ⟨A', cap, rfl, ?_, since_kept HkW.out (by assumption) (Nat.le_refl _)⟩
      exact hown
    | false =>
      go_upto_region 8 with (fail)
      refine wp_at (fun W => W.heap[w.heap.size]? = some (.cells #[.int .u16 tot, .int .u8 ifs, .int .u8 num, .int .u8 tx, .bool false, .bool false, .int .u8 po] 29 (0, 0)) ∧ Kept w W) ⟨heap_at _ rfl, by go_grown⟩ (fun W hW => ?_)
      obtain ⟨hB, hkW⟩ := hW
      have HkW := hide hkW
      have hbl := heap_lt hB
      have e0 : W.cell? ⟨w.heap.size, 0, none⟩ = some (.int .u16 tot) := cell_heap hB (o := 0) rfl
      have e1 : W.cell? ⟨w.heap.size, 1, none⟩ = some (.int .u8 ifs) := cell_heap hB (o := 1) rfl
      have e2 : W.cell? ⟨w.heap.size, 2, none⟩ = some (.int .u8 num) := cell_heap hB (o := 2) rfl
      have e3 : W.cell? ⟨w.heap.size, 3, none⟩ = some (.int .u8 tx) := cell_heap hB (o := 3) rfl
      have e6 : W.cell? ⟨w.heap.size, 6, none⟩ = some (.int .u8 po) := cell_heap hB (o := 6) rfl
      have hlit : ∀ z ∈ [tot % 256, tot / 256, ifs, num, tx, 128, po], u8k z := by
        obtain ⟨u1a, u1b⟩ := u1
        intro z hz
        simp only [List.mem_cons, List.not_mem_nil, or_false] at hz
        rcases hz with rfl | rfl | rfl | rfl | rfl | rfl | rfl
        · unfold u8k; omega
        · unfold u8k; omega
        · exact u2
        · exact u3
        · exact u4
        · exact hb _ (by decide)
        · exact u5
      clear hB hkW
      go_region_held3 (fun w' => (∀ b o, b < W.heap.size → w'.cell? ⟨b, o, none⟩ = W.cell? ⟨b, o, none⟩) ∧ Below W.heap.size W w') (first | assumption | exact since_start | exact since_keep (by assumption) (Nat.le_refl _) hk | exact since_alloc (by assumption) (Nat.le_refl _)) (first
        | (go_at_call 93; refine (low_any tot _ u1).mono ?_; rintro e w1 ⟨rfl, rfl⟩)
        | (go_at_call 94; refine (high_any tot _ u1).mono ?_; rintro e w1 ⟨rfl, rfl⟩)
        | (go_at_call 92; refine (join_any 2 _ 7 7 [tot % 256, tot / 256, ifs, num, tx, 128, po] _ ⟨by decide, by decide⟩ (by decide) (by exact sl_lit8 (l := [tot % 256, tot / 256, ifs, num, tx, 128, po]) (heap_at _ rfl) (by simp [low]) hlit)).mono ?_; rintro e w1 ⟨A', cap, rfl, hown, hk⟩; have hown := own_new8 (hown.lower (base' := w.heap.size) (Nat.le_trans (Nat.le_of_lt hbl) (Below.size (B := W.heap.size) (w := W) (And.right (by assumption)))))))
      go_wp2_with fail
      refine bodyPost_ret (v := .tuple #[.slice A' 9 cap, .int .i64 0]) (by simp [results, Tryd.results71, go_sem]) rfl ⟨A', cap, rfl, ?_, since_kept HkW.out (by assumption) (Nat.le_refl _)⟩
      exact hown
end Go.Proofs.YtjgncofhobhjdaaDoor
