/- Readers of descriptors. -/
import Derived.Test.YtjgncofhobhjdaaDoorChecked
import Derived.Deep.RegionHeld3
import Derived.Deep.DrawnRows
import Derived.Deep.DeepCutAuto
import Derived.Deep.LoopGhost
import Derived.Outline
import Derived.Handy
import Derived.OwnWalk
import Derived.BigQuiet
import Derived.Test.YtjgncofhobhjdaaDoorN1
import Derived.Test.YtjgncofhobhjdaaDoorN5
import Derived.Test.YtjgncofhobhjdaaDoorN4
import Derived.Test.YtjgncofhobhjdaaDoorSbK
set_option linter.unusedVariables false
set_option linter.unusedSimpArgs false
set_option linter.unusedSectionVars false
/- The readers of descriptors. Printed by gen_sf.py. -/
namespace Go.Proofs.YtjgncofhobhjdaaDoor
open Go.RowKit
attribute [local go_sem ↓] Go.wp_at_zero Go.wp_at_succ

noncomputable def coderdCfg : Code := (Tryd.f78.body.bind (findR 1)).getD .skip
noncomputable def opsrdCfg : Array Oper := opsOf (headC coderdCfg)
set_option maxRecDepth 100000 in
set_option maxHeartbeats 4000000 in
theorem rdCfg_any (A : Option Addr) (c : Nat) (l : List Int) (w : World) (hl : Sl u8T w (low w.heap.size) A 9 l) :
    Calls Tryd.prog 78 #[.slice A 9 c] w fun e w' => e = .returned (.agg (readCfg l).cells.toArray) ∧ Kept w w' := by
  have Hl := hide hl
  obtain ⟨b, off, rfl, hb, hc⟩ := sl_bytes hl (by decide)
  have x2 := hc 2 (by decide)
  obtain ⟨z2, hz2⟩ : ∃ z, byteAt l 2 = z := ⟨_, rfl⟩
  rw [hz2] at x2
  have x3 := hc 3 (by decide)
  obtain ⟨z3, hz3⟩ : ∃ z, byteAt l 3 = z := ⟨_, rfl⟩
  rw [hz3] at x3
  have x4 := hc 4 (by decide)
  obtain ⟨z4, hz4⟩ : ∃ z, byteAt l 4 = z := ⟨_, rfl⟩
  rw [hz4] at x4
  have x5 := hc 5 (by decide)
  obtain ⟨z5, hz5⟩ : ∃ z, byteAt l 5 = z := ⟨_, rfl⟩
  rw [hz5] at x5
  have x6 := hc 6 (by decide)
  obtain ⟨z6, hz6⟩ : ∃ z, byteAt l 6 = z := ⟨_, rfl⟩
  rw [hz6] at x6
  have x7 := hc 7 (by decide)
  obtain ⟨z7, hz7⟩ : ∃ z, byteAt l 7 = z := ⟨_, rfl⟩
  rw [hz7] at x7
  have x8 := hc 8 (by decide)
  obtain ⟨z8, hz8⟩ : ∃ z, byteAt l 8 = z := ⟨_, rfl⟩
  rw [hz8] at x8
  obtain ⟨f1, f2, _, _⟩ := bit_f z7 (by rw [← hz7]; exact sl_byte8 hl 7)
  have hr : (readCfg l).cells = [.int .u16 (z2 + 256 * z3), .int .u8 z4, .int .u8 z5, .int .u8 z6, .bool (z7 / 64 % 2 == 1), .bool (z7 / 32 % 2 == 1), .int .u8 z8] := by
    unfold readCfg CfgD.cells
    simp only [hz2, hz3, hz4, hz5, hz6, hz7, hz8]
  have htw : ∀ w', Kept w w' → Calls Tryd.prog 79 #[.slice (some ⟨b, off, none⟩) 9 c, .int .i64 2] w' fun e w'' => e = .returned (.int .u16 (z2 + 256 * z3)) ∧ Kept w' w'' := fun w' hk => by
    have := two_any (some ⟨b, off, none⟩) 9 c 2 l w' (Hl.out.kept hk) (by decide) (by decide)
    rw [hz2, hz3] at this
    exact this
  rw [hr]
  clear hr hl hc hz2 hz3 hz4 hz5 hz6 hz7 hz8
  go_enter Tryd.func78, Tryd.ntmps78
  go_upto_region 1 with (fail)
  refine wp_at (fun W => W.heap[w.heap.size]? = some (.cells #[.int .u16 0, .int .u8 0, .int .u8 0, .int .u8 0, .bool false, .bool false, .int .u8 0] 29 (0, 0)) ∧ Kept w W) ⟨heap_at _ rfl, by go_grown⟩ (fun W hW => ?_)
  obtain ⟨hB, hkW⟩ := hW
  have Htw := hide htw
  clear htw
  obtain ⟨hcw, _⟩ := bcell hkW
  have y2 := (hcw b (off + 2) hb).trans x2
  have y3 := (hcw b (off + 3) hb).trans x3
  have y4 := (hcw b (off + 4) hb).trans x4
  have y5 := (hcw b (off + 5) hb).trans x5
  have y6 := (hcw b (off + 6) hb).trans x6
  have y7 := (hcw b (off + 7) hb).trans x7
  have y8 := (hcw b (off + 8) hb).trans x8
  clear hcw x2 x3 x4 x5 x6 x7 x8
  refine wp_region_held_named (ops' := opsrdCfg) (n := 26) (S := fun w' => (∀ o, w'.cell? ⟨b, o, none⟩ = W.cell? ⟨b, o, none⟩) ∧ Kept w w') (by kernel_rfl) (by kernel_rfl) (by kernel_rfl) ⟨fun _ => rfl, hkW.trans' ((Below.refl _ _).drew)⟩ (fun hS => ?_)
  have ho : opsrdCfg[0]? = some (opAt opsrdCfg 0) := by kernel_rfl
  conv at ho => rhs; arg 1; whnf
  refine wpAnyH_take (i := 0) (v := ?_) ho (by kernel_rfl) (by kernel_rfl) (by kernel_rfl) (fun _ _ _ h => h) (Or.inl ⟨by kernel_rfl, ?_⟩) hS ?_
  clear ho
  rotate_left
  · intro w' hS'
    have hq := hS'.1
    have hq2 := hS'.2
    clear hS'
    first | (go_simp; done) | (go_simp; with_reducible rfl)
  try clear ho
  try simp only [Act.put, List.getElem_toArray, List.getElem_cons_zero, List.getElem_cons_succ, List.setIfInBounds_toArray, List.set_cons_zero, List.set_cons_succ]
  have ho : opsrdCfg[2]? = some (opAt opsrdCfg 2) := by kernel_rfl
  conv at ho => rhs; arg 1; whnf
  refine wpAnyH_take (i := 2) (v := ?_) ho (by kernel_rfl) (by kernel_rfl) (by kernel_rfl) (fun _ _ _ h => h) (Or.inl ⟨by kernel_rfl, ?_⟩) hS ?_
  clear ho
  rotate_left
  · intro w' hS'
    have hq := hS'.1
    have hq2 := hS'.2
    clear hS'
    first | (go_simp; done) | (go_simp; with_reducible rfl)
  try clear ho
  try simp only [Act.put, List.getElem_toArray, List.getElem_cons_zero, List.getElem_cons_succ, List.setIfInBounds_toArray, List.set_cons_zero, List.set_cons_succ]
  have ho : opsrdCfg[3]? = some (opAt opsrdCfg 3) := by kernel_rfl
  conv at ho => rhs; arg 1; whnf
  refine wpAnyH_take (i := 3) (v := ?_) ho (by kernel_rfl) (by kernel_rfl) (by kernel_rfl) (fun _ _ _ h => h) (Or.inl ⟨by kernel_rfl, ?_⟩) hS ?_
  clear ho
  rotate_left
  · intro w' hS'
    have hq := hS'.1
    have hq2 := hS'.2
    clear hS'
    first | (go_simp; done) | (go_simp; with_reducible rfl)
  try clear ho
  try simp only [Act.put, List.getElem_toArray, List.getElem_cons_zero, List.getElem_cons_succ, List.setIfInBounds_toArray, List.set_cons_zero, List.set_cons_succ]
  have ho : opsrdCfg[4]? = some (opAt opsrdCfg 4) := by kernel_rfl
  conv at ho => rhs; arg 1; whnf
  refine wpAnyH_take (i := 4) (v := ?_) ho (by kernel_rfl) (by kernel_rfl) (by kernel_rfl) (fun _ _ _ h => h) (Or.inl ⟨by kernel_rfl, ?_⟩) hS ?_
  clear ho
  rotate_left
  · intro w' hS'
    have hq := hS'.1
    have hq2 := hS'.2
    clear hS'
    first | (go_simp; done) | (go_simp; with_reducible rfl)
  try clear ho
  try simp only [Act.put, List.getElem_toArray, List.getElem_cons_zero, List.getElem_cons_succ, List.setIfInBounds_toArray, List.set_cons_zero, List.set_cons_succ]
  have ho : opsrdCfg[5]? = some (opAt opsrdCfg 5) := by kernel_rfl
  conv at ho => rhs; arg 1; whnf
  refine wpAnyH_take (i := 5) (v := ?_) ho (by kernel_rfl) (by kernel_rfl) (by kernel_rfl) (fun _ _ _ h => h) (Or.inl ⟨by kernel_rfl, ?_⟩) hS ?_
  clear ho
  rotate_left
  · intro w' hS'
    have hq := hS'.1
    have hq2 := hS'.2
    clear hS'
    first | (go_simp; done) | (go_simp; with_reducible rfl)
  try clear ho
  try simp only [Act.put, List.getElem_toArray, List.getElem_cons_zero, List.getElem_cons_succ, List.setIfInBounds_toArray, List.set_cons_zero, List.set_cons_succ]
  have ho : opsrdCfg[6]? = some (opAt opsrdCfg 6) := by kernel_rfl
  conv at ho => rhs; arg 1; whnf
  refine wpAnyH_take (i := 6) (v := ?_) ho (by kernel_rfl) (by kernel_rfl) (by kernel_rfl) (fun _ _ _ h => h) (Or.inl ⟨by kernel_rfl, ?_⟩) hS ?_
  clear ho
  rotate_left
  · intro w' hS'
    have hq := hS'.1
    have hq2 := hS'.2
    clear hS'
    first | (go_simp; done) | (go_simp; with_reducible rfl)
  try clear ho
  try simp only [Act.put, List.getElem_toArray, List.getElem_cons_zero, List.getElem_cons_succ, List.setIfInBounds_toArray, List.set_cons_zero, List.set_cons_succ]
  have ho : opsrdCfg[7]? = some (opAt opsrdCfg 7) := by kernel_rfl
  conv at ho => rhs; arg 1; whnf
  refine wpAnyH_take (i := 7) (v := ?_) ho (by kernel_rfl) (by kernel_rfl) (by kernel_rfl) (fun _ _ _ h => h) (Or.inl ⟨by kernel_rfl, ?_⟩) hS ?_
  clear ho
  rotate_left
  · intro w' hS'
    have hq := hS'.1
    have hq2 := hS'.2
    clear hS'
    first | (go_simp; done) | (go_simp; with_reducible rfl)
  try clear ho
  try simp only [Act.put, List.getElem_toArray, List.getElem_cons_zero, List.getElem_cons_succ, List.setIfInBounds_toArray, List.set_cons_zero, List.set_cons_succ]
  have ho : opsrdCfg[8]? = some (opAt opsrdCfg 8) := by kernel_rfl
  conv at ho => rhs; arg 1; whnf
  refine wpAnyH_take (i := 8) (v := ?_) ho (by kernel_rfl) (by kernel_rfl) (by kernel_rfl) (fun _ _ _ h => h) (Or.inl ⟨by kernel_rfl, ?_⟩) hS ?_
  clear ho
  rotate_left
  · intro w' hS'
    have hq := hS'.1
    have hq2 := hS'.2
    clear hS'
    first | (go_simp; done) | (go_simp; with_reducible rfl)
  try clear ho
  try simp only [Act.put, List.getElem_toArray, List.getElem_cons_zero, List.getElem_cons_succ, List.setIfInBounds_toArray, List.set_cons_zero, List.set_cons_succ]
  have ho : opsrdCfg[9]? = some (opAt opsrdCfg 9) := by kernel_rfl
  conv at ho => rhs; arg 1; whnf
  refine wpAnyH_take (i := 9) (v := ?_) ho (by kernel_rfl) (by kernel_rfl) (by kernel_rfl) (fun _ _ _ h => h) (Or.inl ⟨by kernel_rfl, ?_⟩) hS ?_
  clear ho
  rotate_left
  · intro w' hS'
    have hq := hS'.1
    have hq2 := hS'.2
    clear hS'
    first | (go_simp; done) | (go_simp; with_reducible rfl)
  try clear ho
  try simp only [Act.put, List.getElem_toArray, List.getElem_cons_zero, List.getElem_cons_succ, List.setIfInBounds_toArray, List.set_cons_zero, List.set_cons_succ]
  have ho : opsrdCfg[10]? = some (opAt opsrdCfg 10) := by kernel_rfl
  conv at ho => rhs; arg 1; whnf
  refine wpAnyH_take (i := 10) (v := ?_) ho (by kernel_rfl) (by kernel_rfl) (by kernel_rfl) (fun _ _ _ h => h) (Or.inl ⟨by kernel_rfl, ?_⟩) hS ?_
  clear ho
  rotate_left
  · intro w' hS'
    have hq := hS'.1
    have hq2 := hS'.2
    clear hS'
    first | (go_simp; done) | (go_simp; with_reducible rfl)
  try clear ho
  try simp only [Act.put, List.getElem_toArray, List.getElem_cons_zero, List.getElem_cons_succ, List.setIfInBounds_toArray, List.set_cons_zero, List.set_cons_succ]
  have ho : opsrdCfg[11]? = some (opAt opsrdCfg 11) := by kernel_rfl
  conv at ho => rhs; arg 1; whnf
  refine wpAnyH_take (i := 11) (v := ?_) ho (by kernel_rfl) (by kernel_rfl) (by kernel_rfl) (fun _ _ _ h => h) (Or.inl ⟨by kernel_rfl, ?_⟩) hS ?_
  clear ho
  rotate_left
  · intro w' hS'
    have hq := hS'.1
    have hq2 := hS'.2
    clear hS'
    first | (go_simp; done) | (go_simp; with_reducible rfl)
  try clear ho
  try simp only [Act.put, List.getElem_toArray, List.getElem_cons_zero, List.getElem_cons_succ, List.setIfInBounds_toArray, List.set_cons_zero, List.set_cons_succ]
  have ho : opsrdCfg[12]? = some (opAt opsrdCfg 12) := by kernel_rfl
  conv at ho => rhs; arg 1; whnf
  refine wpAnyH_take (i := 12) (v := ?_) ho (by kernel_rfl) (by kernel_rfl) (by kernel_rfl) (fun _ _ _ h => h) (Or.inl ⟨by kernel_rfl, ?_⟩) hS ?_
  clear ho
  rotate_left
  · intro w' hS'
    have hq := hS'.1
    have hq2 := hS'.2
    clear hS'
    first | (go_simp; done) | (go_simp; with_reducible rfl)
  try clear ho
  try simp only [Act.put, List.getElem_toArray, List.getElem_cons_zero, List.getElem_cons_succ, List.setIfInBounds_toArray, List.set_cons_zero, List.set_cons_succ]
  have ho : opsrdCfg[13]? = some (opAt opsrdCfg 13) := by kernel_rfl
  conv at ho => rhs; arg 1; whnf
  refine wpAnyH_take (i := 13) (v := ?_) ho (by kernel_rfl) (by kernel_rfl) (by kernel_rfl) (fun _ _ _ h => h) (Or.inl ⟨by kernel_rfl, ?_⟩) hS ?_
  clear ho
  rotate_left
  · intro w' hS'
    have hq := hS'.1
    have hq2 := hS'.2
    clear hS'
    first | (go_simp; done) | (go_simp; with_reducible rfl)
  try clear ho
  try simp only [Act.put, List.getElem_toArray, List.getElem_cons_zero, List.getElem_cons_succ, List.setIfInBounds_toArray, List.set_cons_zero, List.set_cons_succ]
  have ho : opsrdCfg[14]? = some (opAt opsrdCfg 14) := by kernel_rfl
  conv at ho => rhs; arg 1; whnf
  refine wpAnyH_take (i := 14) (v := ?_) ho (by kernel_rfl) (by kernel_rfl) (by kernel_rfl) (fun _ _ _ h => h) (Or.inl ⟨by kernel_rfl, ?_⟩) hS ?_
  clear ho
  rotate_left
  · intro w' hS'
    have hq := hS'.1
    have hq2 := hS'.2
    clear hS'
    first | (go_simp; done) | (go_simp; with_reducible rfl)
  try clear ho
  try simp only [Act.put, List.getElem_toArray, List.getElem_cons_zero, List.getElem_cons_succ, List.setIfInBounds_toArray, List.set_cons_zero, List.set_cons_succ]
  have ho : opsrdCfg[15]? = some (opAt opsrdCfg 15) := by kernel_rfl
  conv at ho => rhs; arg 1; whnf
  refine wpAnyH_take (i := 15) (v := ?_) ho (by kernel_rfl) (by kernel_rfl) (by kernel_rfl) (fun _ _ _ h => h) (Or.inl ⟨by kernel_rfl, ?_⟩) hS ?_
  clear ho
  rotate_left
  · intro w' hS'
    have hq := hS'.1
    have hq2 := hS'.2
    clear hS'
    first | (go_simp; done) | (go_simp; with_reducible rfl)
  try clear ho
  try simp only [Act.put, List.getElem_toArray, List.getElem_cons_zero, List.getElem_cons_succ, List.setIfInBounds_toArray, List.set_cons_zero, List.set_cons_succ]
  have ho : opsrdCfg[16]? = some (opAt opsrdCfg 16) := by kernel_rfl
  conv at ho => rhs; arg 1; whnf
  refine wpAnyH_take (i := 16) (v := ?_) ho (by kernel_rfl) (by kernel_rfl) (by kernel_rfl) (fun _ _ _ h => h) (Or.inl ⟨by kernel_rfl, ?_⟩) hS ?_
  clear ho
  rotate_left
  · intro w' hS'
    have hq := hS'.1
    have hq2 := hS'.2
    clear hS'
    first | (go_simp; done) | (go_simp; with_reducible rfl)
  try clear ho
  try simp only [Act.put, List.getElem_toArray, List.getElem_cons_zero, List.getElem_cons_succ, List.setIfInBounds_toArray, List.set_cons_zero, List.set_cons_succ]
  have ho : opsrdCfg[17]? = some (opAt opsrdCfg 17) := by kernel_rfl
  conv at ho => rhs; arg 1; whnf
  refine wpAnyH_take (i := 17) (v := ?_) ho (by kernel_rfl) (by kernel_rfl) (by kernel_rfl) (fun _ _ _ h => h) (Or.inl ⟨by kernel_rfl, ?_⟩) hS ?_
  clear ho
  rotate_left
  · intro w' hS'
    have hq := hS'.1
    have hq2 := hS'.2
    clear hS'
    first | (go_simp; done) | (go_simp; with_reducible rfl)
  try clear ho
  try simp only [Act.put, List.getElem_toArray, List.getElem_cons_zero, List.getElem_cons_succ, List.setIfInBounds_toArray, List.set_cons_zero, List.set_cons_succ]
  have ho : opsrdCfg[18]? = some (opAt opsrdCfg 18) := by kernel_rfl
  conv at ho => rhs; arg 1; whnf
  refine wpAnyH_take (i := 18) (v := ?_) ho (by kernel_rfl) (by kernel_rfl) (by kernel_rfl) (fun _ _ _ h => h) (Or.inl ⟨by kernel_rfl, ?_⟩) hS ?_
  clear ho
  rotate_left
  · intro w' hS'
    have hq := hS'.1
    have hq2 := hS'.2
    clear hS'
    first | (go_simp; done) | (go_simp; with_reducible rfl)
  try clear ho
  try simp only [Act.put, List.getElem_toArray, List.getElem_cons_zero, List.getElem_cons_succ, List.setIfInBounds_toArray, List.set_cons_zero, List.set_cons_succ]
  have ho : opsrdCfg[19]? = some (opAt opsrdCfg 19) := by kernel_rfl
  conv at ho => rhs; arg 1; whnf
  refine wpAnyH_take (i := 19) (v := ?_) ho (by kernel_rfl) (by kernel_rfl) (by kernel_rfl) (fun _ _ _ h => h) (Or.inl ⟨by kernel_rfl, ?_⟩) hS ?_
  clear ho
  rotate_left
  · intro w' hS'
    have hq := hS'.1
    have hq2 := hS'.2
    clear hS'
    first | (go_simp; done) | (go_simp; with_reducible rfl)
  try clear ho
  try simp only [Act.put, List.getElem_toArray, List.getElem_cons_zero, List.getElem_cons_succ, List.setIfInBounds_toArray, List.set_cons_zero, List.set_cons_succ]
  have ho : opsrdCfg[20]? = some (opAt opsrdCfg 20) := by kernel_rfl
  conv at ho => rhs; arg 1; whnf
  refine wpAnyH_take (i := 20) (v := ?_) ho (by kernel_rfl) (by kernel_rfl) (by kernel_rfl) (fun _ _ _ h => h) (Or.inl ⟨by kernel_rfl, ?_⟩) hS ?_
  clear ho
  rotate_left
  · intro w' hS'
    have hq := hS'.1
    have hq2 := hS'.2
    clear hS'
    first | (go_simp; done) | (go_simp; with_reducible rfl)
  try clear ho
  try simp only [Act.put, List.getElem_toArray, List.getElem_cons_zero, List.getElem_cons_succ, List.setIfInBounds_toArray, List.set_cons_zero, List.set_cons_succ]
  have ho : opsrdCfg[21]? = some (opAt opsrdCfg 21) := by kernel_rfl
  conv at ho => rhs; arg 1; whnf
  refine wpAnyH_take (i := 21) (v := ?_) ho (by kernel_rfl) (by kernel_rfl) (by kernel_rfl) (fun _ _ _ h => h) (Or.inl ⟨by kernel_rfl, ?_⟩) hS ?_
  clear ho
  rotate_left
  · intro w' hS'
    have hq := hS'.1
    have hq2 := hS'.2
    clear hS'
    first | (go_simp; done) | (go_simp; with_reducible rfl)
  try clear ho
  try simp only [Act.put, List.getElem_toArray, List.getElem_cons_zero, List.getElem_cons_succ, List.setIfInBounds_toArray, List.set_cons_zero, List.set_cons_succ]
  have ho : opsrdCfg[22]? = some (opAt opsrdCfg 22) := by kernel_rfl
  conv at ho => rhs; arg 1; whnf
  refine wpAnyH_take (i := 22) (v := ?_) ho (by kernel_rfl) (by kernel_rfl) (by kernel_rfl) (fun _ _ _ h => h) (Or.inl ⟨by kernel_rfl, ?_⟩) hS ?_
  clear ho
  rotate_left
  · intro w' hS'
    have hq := hS'.1
    have hq2 := hS'.2
    clear hS'
    first | (go_simp; done) | (go_simp; with_reducible rfl)
  try clear ho
  try simp only [Act.put, List.getElem_toArray, List.getElem_cons_zero, List.getElem_cons_succ, List.setIfInBounds_toArray, List.set_cons_zero, List.set_cons_succ]
  have ho : opsrdCfg[23]? = some (opAt opsrdCfg 23) := by kernel_rfl
  conv at ho => rhs; arg 1; whnf
  refine wpAnyH_take (i := 23) (v := ?_) ho (by kernel_rfl) (by kernel_rfl) (by kernel_rfl) (fun _ _ _ h => h) (Or.inl ⟨by kernel_rfl, ?_⟩) hS ?_
  clear ho
  rotate_left
  · intro w' hS'
    have hq := hS'.1
    have hq2 := hS'.2
    clear hS'
    first | (go_simp; done) | (go_simp; with_reducible rfl)
  try clear ho
  try simp only [Act.put, List.getElem_toArray, List.getElem_cons_zero, List.getElem_cons_succ, List.setIfInBounds_toArray, List.set_cons_zero, List.set_cons_succ]
  have ho1 : opsrdCfg[1]? = some (opAt opsrdCfg 1) := by kernel_rfl
  conv at ho1 => rhs; arg 1; whnf
  refine wpAnyH_ready (rs := [1]) (by kernel_rfl) (by simp) ?_
  refine (AllReadyH.cons ho1 (fun K hK => ?_) AllReadyH.nil)
  all_goals clear ho1
  go_simp
  go_at_call 79
  refine (Htw.out _ (hkW.trans' ((Below.refl _ _).drew))).mono ?_
  rintro e w1 ⟨rfl, hk⟩
  try dsimp only
  have hB1 := heap_kept hk (heap_drew hB)
  have hk1 : Kept w w1 := (hkW.trans' ((Below.refl _ _).drew)).trans' hk
  refine hK.out _ _ ?_ (fun hS => ?_)
  · exact ⟨fun o => hk.cell (p := ⟨b, o, none⟩) (Nat.lt_of_lt_of_le hb hkW.size), hk1⟩
  clear hK K
  try simp only [Act.put, List.getElem_toArray, List.getElem_cons_zero, List.getElem_cons_succ, List.setIfInBounds_toArray, List.set_cons_zero, List.set_cons_succ]
  have ho : opsrdCfg[24]? = some (opAt opsrdCfg 24) := by kernel_rfl
  conv at ho => rhs; arg 1; whnf
  refine wpAnyH_take (i := 24) (v := ?_) ho (by kernel_rfl) (by kernel_rfl) (by kernel_rfl) (fun _ _ _ h => h) (Or.inl ⟨by kernel_rfl, ?_⟩) hS ?_
  clear ho
  rotate_left
  · intro w' hS'
    have hq := hS'.1
    have hq2 := hS'.2
    clear hS'
    first | (go_simp; done) | (go_simp; with_reducible rfl)
  try clear ho
  try simp only [Act.put, List.getElem_toArray, List.getElem_cons_zero, List.getElem_cons_succ, List.setIfInBounds_toArray, List.set_cons_zero, List.set_cons_succ]
  have ho25 : opsrdCfg[25]? = some (opAt opsrdCfg 25) := by kernel_rfl
  conv at ho25 => rhs; arg 1; whnf
  refine wpAnyH_ready (rs := [25]) (by kernel_rfl) (by simp) ?_
  refine (AllReadyH.cons ho25 (fun K hK => ?_) AllReadyH.nil)
  all_goals clear ho25
  rw [if_pos (by kernel_rfl)]
  refine wp_store_row 29 (.tmp 2) (.tmp 27) rfl w.heap.size #[.int .u16 (z2 + 256 * z3), .int .u8 z4, .int .u8 z5, .int .u8 z6, .bool (z7 / 64 % 2 == 1), .bool (z7 / 32 % 2 == 1), .int .u8 z8] (by rfl) (by rfl) 29 _ hB1 (by kernel_rfl) (by rfl) (by simp [Value.oneCell']) ?_
  have k9 : Kept w (w1.setRow w.heap.size #[.int .u16 (z2 + 256 * z3), .int .u8 z4, .int .u8 z5, .int .u8 z6, .bool (z7 / 64 % 2 == 1), .bool (z7 / 32 % 2 == 1), .int .u8 z8]) := below_row hk1 (Nat.le_refl _) _
  have hb9 : (w1.setRow w.heap.size #[.int .u16 (z2 + 256 * z3), .int .u8 z4, .int .u8 z5, .int .u8 z6, .bool (z7 / 64 % 2 == 1), .bool (z7 / 32 % 2 == 1), .int .u8 z8]).heap[w.heap.size]? = some (.cells #[.int .u16 (z2 + 256 * z3), .int .u8 z4, .int .u8 z5, .int .u8 z6, .bool (z7 / 64 % 2 == 1), .bool (z7 / 32 % 2 == 1), .int .u8 z8] 29 (0, 0)) := heap_row hB1
  refine hK.out _ _ ?_ (fun hS => ?_)
  · exact ⟨fun o => (World.cell?_of_block (a := ⟨b, o, none⟩) (below_row (Below.refl w.heap.size _) (Nat.le_refl _) _ |>.block b hb)).trans (hS.1 o), k9⟩
  clear hK K
  try simp only [Act.put, List.getElem_toArray, List.getElem_cons_zero, List.getElem_cons_succ, List.setIfInBounds_toArray, List.set_cons_zero, List.set_cons_succ]
  refine wpAnyH_done (by kernel_rfl) ?_ _
  go_wp2_with fail
  refine bodyPost_ret (results_cell_row rfl _ _ w.heap.size 29 #[.int .u16 (z2 + 256 * z3), .int .u8 z4, .int .u8 z5, .int .u8 z6, .bool (z7 / 64 % 2 == 1), .bool (z7 / 32 % 2 == 1), .int .u8 z8] (0, 0) _ rfl hb9 Tryd.underlying29 rfl (by kernel_rfl)) rfl ⟨rfl, k9⟩
noncomputable def coderdIf : Code := (Tryd.f81.body.bind (findR 1)).getD .skip
noncomputable def opsrdIf : Array Oper := opsOf (headC coderdIf)
set_option maxRecDepth 100000 in
set_option maxHeartbeats 4000000 in
theorem rdIf_any (A : Option Addr) (c : Nat) (l : List Int) (w : World) (hl : Sl u8T w (low w.heap.size) A 9 l) :
    Calls Tryd.prog 81 #[.slice A 9 c] w fun e w' => e = .returned (.agg (readIf l).cells.toArray) ∧ Kept w w' := by
  have Hl := hide hl
  obtain ⟨b, off, rfl, hb, hc⟩ := sl_bytes hl (by decide)
  have x2 := hc 2 (by decide)
  obtain ⟨z2, hz2⟩ : ∃ z, byteAt l 2 = z := ⟨_, rfl⟩
  rw [hz2] at x2
  have x3 := hc 3 (by decide)
  obtain ⟨z3, hz3⟩ : ∃ z, byteAt l 3 = z := ⟨_, rfl⟩
  rw [hz3] at x3
  have x4 := hc 4 (by decide)
  obtain ⟨z4, hz4⟩ : ∃ z, byteAt l 4 = z := ⟨_, rfl⟩
  rw [hz4] at x4
  have x5 := hc 5 (by decide)
  obtain ⟨z5, hz5⟩ : ∃ z, byteAt l 5 = z := ⟨_, rfl⟩
  rw [hz5] at x5
  have x6 := hc 6 (by decide)
  obtain ⟨z6, hz6⟩ : ∃ z, byteAt l 6 = z := ⟨_, rfl⟩
  rw [hz6] at x6
  have x7 := hc 7 (by decide)
  obtain ⟨z7, hz7⟩ : ∃ z, byteAt l 7 = z := ⟨_, rfl⟩
  rw [hz7] at x7
  have x8 := hc 8 (by decide)
  obtain ⟨z8, hz8⟩ : ∃ z, byteAt l 8 = z := ⟨_, rfl⟩
  rw [hz8] at x8
  have hr : (readIf l).cells = [.int .u8 z2, .int .u8 z3, .int .u8 z4, .int .u8 z5, .int .u8 z6, .int .u8 z7, .int .u8 z8] := by
    unfold readIf IfD.cells
    simp only [hz2, hz3, hz4, hz5, hz6, hz7, hz8]
  rw [hr]
  clear hr hl hc hz2 hz3 hz4 hz5 hz6 hz7 hz8
  go_enter Tryd.func81, Tryd.ntmps81
  go_upto_region 1 with (fail)
  refine wp_at (fun W => W.heap[w.heap.size]? = some (.cells #[.int .u8 0, .int .u8 0, .int .u8 0, .int .u8 0, .int .u8 0, .int .u8 0, .int .u8 0] 53 (0, 0)) ∧ Kept w W) ⟨heap_at _ rfl, by go_grown⟩ (fun W hW => ?_)
  obtain ⟨hB, hkW⟩ := hW
  have Htw := hide True.intro
  
  obtain ⟨hcw, _⟩ := bcell hkW
  have y2 := (hcw b (off + 2) hb).trans x2
  have y3 := (hcw b (off + 3) hb).trans x3
  have y4 := (hcw b (off + 4) hb).trans x4
  have y5 := (hcw b (off + 5) hb).trans x5
  have y6 := (hcw b (off + 6) hb).trans x6
  have y7 := (hcw b (off + 7) hb).trans x7
  have y8 := (hcw b (off + 8) hb).trans x8
  clear hcw x2 x3 x4 x5 x6 x7 x8
  refine wp_region_held_named (ops' := opsrdIf) (n := 23) (S := fun w' => (∀ o, w'.cell? ⟨b, o, none⟩ = W.cell? ⟨b, o, none⟩) ∧ Kept w w') (by kernel_rfl) (by kernel_rfl) (by kernel_rfl) ⟨fun _ => rfl, hkW.trans' ((Below.refl _ _).drew)⟩ (fun hS => ?_)
  have ho : opsrdIf[0]? = some (opAt opsrdIf 0) := by kernel_rfl
  conv at ho => rhs; arg 1; whnf
  refine wpAnyH_take (i := 0) (v := ?_) ho (by kernel_rfl) (by kernel_rfl) (by kernel_rfl) (fun _ _ _ h => h) (Or.inl ⟨by kernel_rfl, ?_⟩) hS ?_
  clear ho
  rotate_left
  · intro w' hS'
    have hq := hS'.1
    have hq2 := hS'.2
    clear hS'
    first | (go_simp; done) | (go_simp; with_reducible rfl)
  try clear ho
  try simp only [Act.put, List.getElem_toArray, List.getElem_cons_zero, List.getElem_cons_succ, List.setIfInBounds_toArray, List.set_cons_zero, List.set_cons_succ]
  have ho : opsrdIf[1]? = some (opAt opsrdIf 1) := by kernel_rfl
  conv at ho => rhs; arg 1; whnf
  refine wpAnyH_take (i := 1) (v := ?_) ho (by kernel_rfl) (by kernel_rfl) (by kernel_rfl) (fun _ _ _ h => h) (Or.inl ⟨by kernel_rfl, ?_⟩) hS ?_
  clear ho
  rotate_left
  · intro w' hS'
    have hq := hS'.1
    have hq2 := hS'.2
    clear hS'
    first | (go_simp; done) | (go_simp; with_reducible rfl)
  try clear ho
  try simp only [Act.put, List.getElem_toArray, List.getElem_cons_zero, List.getElem_cons_succ, List.setIfInBounds_toArray, List.set_cons_zero, List.set_cons_succ]
  have ho : opsrdIf[2]? = some (opAt opsrdIf 2) := by kernel_rfl
  conv at ho => rhs; arg 1; whnf
  refine wpAnyH_take (i := 2) (v := ?_) ho (by kernel_rfl) (by kernel_rfl) (by kernel_rfl) (fun _ _ _ h => h) (Or.inl ⟨by kernel_rfl, ?_⟩) hS ?_
  clear ho
  rotate_left
  · intro w' hS'
    have hq := hS'.1
    have hq2 := hS'.2
    clear hS'
    first | (go_simp; done) | (go_simp; with_reducible rfl)
  try clear ho
  try simp only [Act.put, List.getElem_toArray, List.getElem_cons_zero, List.getElem_cons_succ, List.setIfInBounds_toArray, List.set_cons_zero, List.set_cons_succ]
  have ho : opsrdIf[3]? = some (opAt opsrdIf 3) := by kernel_rfl
  conv at ho => rhs; arg 1; whnf
  refine wpAnyH_take (i := 3) (v := ?_) ho (by kernel_rfl) (by kernel_rfl) (by kernel_rfl) (fun _ _ _ h => h) (Or.inl ⟨by kernel_rfl, ?_⟩) hS ?_
  clear ho
  rotate_left
  · intro w' hS'
    have hq := hS'.1
    have hq2 := hS'.2
    clear hS'
    first | (go_simp; done) | (go_simp; with_reducible rfl)
  try clear ho
  try simp only [Act.put, List.getElem_toArray, List.getElem_cons_zero, List.getElem_cons_succ, List.setIfInBounds_toArray, List.set_cons_zero, List.set_cons_succ]
  have ho : opsrdIf[4]? = some (opAt opsrdIf 4) := by kernel_rfl
  conv at ho => rhs; arg 1; whnf
  refine wpAnyH_take (i := 4) (v := ?_) ho (by kernel_rfl) (by kernel_rfl) (by kernel_rfl) (fun _ _ _ h => h) (Or.inl ⟨by kernel_rfl, ?_⟩) hS ?_
  clear ho
  rotate_left
  · intro w' hS'
    have hq := hS'.1
    have hq2 := hS'.2
    clear hS'
    first | (go_simp; done) | (go_simp; with_reducible rfl)
  try clear ho
  try simp only [Act.put, List.getElem_toArray, List.getElem_cons_zero, List.getElem_cons_succ, List.setIfInBounds_toArray, List.set_cons_zero, List.set_cons_succ]
  have ho : opsrdIf[5]? = some (opAt opsrdIf 5) := by kernel_rfl
  conv at ho => rhs; arg 1; whnf
  refine wpAnyH_take (i := 5) (v := ?_) ho (by kernel_rfl) (by kernel_rfl) (by kernel_rfl) (fun _ _ _ h => h) (Or.inl ⟨by kernel_rfl, ?_⟩) hS ?_
  clear ho
  rotate_left
  · intro w' hS'
    have hq := hS'.1
    have hq2 := hS'.2
    clear hS'
    first | (go_simp; done) | (go_simp; with_reducible rfl)
  try clear ho
  try simp only [Act.put, List.getElem_toArray, List.getElem_cons_zero, List.getElem_cons_succ, List.setIfInBounds_toArray, List.set_cons_zero, List.set_cons_succ]
  have ho : opsrdIf[6]? = some (opAt opsrdIf 6) := by kernel_rfl
  conv at ho => rhs; arg 1; whnf
  refine wpAnyH_take (i := 6) (v := ?_) ho (by kernel_rfl) (by kernel_rfl) (by kernel_rfl) (fun _ _ _ h => h) (Or.inl ⟨by kernel_rfl, ?_⟩) hS ?_
  clear ho
  rotate_left
  · intro w' hS'
    have hq := hS'.1
    have hq2 := hS'.2
    clear hS'
    first | (go_simp; done) | (go_simp; with_reducible rfl)
  try clear ho
  try simp only [Act.put, List.getElem_toArray, List.getElem_cons_zero, List.getElem_cons_succ, List.setIfInBounds_toArray, List.set_cons_zero, List.set_cons_succ]
  have ho : opsrdIf[7]? = some (opAt opsrdIf 7) := by kernel_rfl
  conv at ho => rhs; arg 1; whnf
  refine wpAnyH_take (i := 7) (v := ?_) ho (by kernel_rfl) (by kernel_rfl) (by kernel_rfl) (fun _ _ _ h => h) (Or.inl ⟨by kernel_rfl, ?_⟩) hS ?_
  clear ho
  rotate_left
  · intro w' hS'
    have hq := hS'.1
    have hq2 := hS'.2
    clear hS'
    first | (go_simp; done) | (go_simp; with_reducible rfl)
  try clear ho
  try simp only [Act.put, List.getElem_toArray, List.getElem_cons_zero, List.getElem_cons_succ, List.setIfInBounds_toArray, List.set_cons_zero, List.set_cons_succ]
  have ho : opsrdIf[8]? = some (opAt opsrdIf 8) := by kernel_rfl
  conv at ho => rhs; arg 1; whnf
  refine wpAnyH_take (i := 8) (v := ?_) ho (by kernel_rfl) (by kernel_rfl) (by kernel_rfl) (fun _ _ _ h => h) (Or.inl ⟨by kernel_rfl, ?_⟩) hS ?_
  clear ho
  rotate_left
  · intro w' hS'
    have hq := hS'.1
    have hq2 := hS'.2
    clear hS'
    first | (go_simp; done) | (go_simp; with_reducible rfl)
  try clear ho
  try simp only [Act.put, List.getElem_toArray, List.getElem_cons_zero, List.getElem_cons_succ, List.setIfInBounds_toArray, List.set_cons_zero, List.set_cons_succ]
  have ho : opsrdIf[9]? = some (opAt opsrdIf 9) := by kernel_rfl
  conv at ho => rhs; arg 1; whnf
  refine wpAnyH_take (i := 9) (v := ?_) ho (by kernel_rfl) (by kernel_rfl) (by kernel_rfl) (fun _ _ _ h => h) (Or.inl ⟨by kernel_rfl, ?_⟩) hS ?_
  clear ho
  rotate_left
  · intro w' hS'
    have hq := hS'.1
    have hq2 := hS'.2
    clear hS'
    first | (go_simp; done) | (go_simp; with_reducible rfl)
  try clear ho
  try simp only [Act.put, List.getElem_toArray, List.getElem_cons_zero, List.getElem_cons_succ, List.setIfInBounds_toArray, List.set_cons_zero, List.set_cons_succ]
  have ho : opsrdIf[10]? = some (opAt opsrdIf 10) := by kernel_rfl
  conv at ho => rhs; arg 1; whnf
  refine wpAnyH_take (i := 10) (v := ?_) ho (by kernel_rfl) (by kernel_rfl) (by kernel_rfl) (fun _ _ _ h => h) (Or.inl ⟨by kernel_rfl, ?_⟩) hS ?_
  clear ho
  rotate_left
  · intro w' hS'
    have hq := hS'.1
    have hq2 := hS'.2
    clear hS'
    first | (go_simp; done) | (go_simp; with_reducible rfl)
  try clear ho
  try simp only [Act.put, List.getElem_toArray, List.getElem_cons_zero, List.getElem_cons_succ, List.setIfInBounds_toArray, List.set_cons_zero, List.set_cons_succ]
  have ho : opsrdIf[11]? = some (opAt opsrdIf 11) := by kernel_rfl
  conv at ho => rhs; arg 1; whnf
  refine wpAnyH_take (i := 11) (v := ?_) ho (by kernel_rfl) (by kernel_rfl) (by kernel_rfl) (fun _ _ _ h => h) (Or.inl ⟨by kernel_rfl, ?_⟩) hS ?_
  clear ho
  rotate_left
  · intro w' hS'
    have hq := hS'.1
    have hq2 := hS'.2
    clear hS'
    first | (go_simp; done) | (go_simp; with_reducible rfl)
  try clear ho
  try simp only [Act.put, List.getElem_toArray, List.getElem_cons_zero, List.getElem_cons_succ, List.setIfInBounds_toArray, List.set_cons_zero, List.set_cons_succ]
  have ho : opsrdIf[12]? = some (opAt opsrdIf 12) := by kernel_rfl
  conv at ho => rhs; arg 1; whnf
  refine wpAnyH_take (i := 12) (v := ?_) ho (by kernel_rfl) (by kernel_rfl) (by kernel_rfl) (fun _ _ _ h => h) (Or.inl ⟨by kernel_rfl, ?_⟩) hS ?_
  clear ho
  rotate_left
  · intro w' hS'
    have hq := hS'.1
    have hq2 := hS'.2
    clear hS'
    first | (go_simp; done) | (go_simp; with_reducible rfl)
  try clear ho
  try simp only [Act.put, List.getElem_toArray, List.getElem_cons_zero, List.getElem_cons_succ, List.setIfInBounds_toArray, List.set_cons_zero, List.set_cons_succ]
  have ho : opsrdIf[13]? = some (opAt opsrdIf 13) := by kernel_rfl
  conv at ho => rhs; arg 1; whnf
  refine wpAnyH_take (i := 13) (v := ?_) ho (by kernel_rfl) (by kernel_rfl) (by kernel_rfl) (fun _ _ _ h => h) (Or.inl ⟨by kernel_rfl, ?_⟩) hS ?_
  clear ho
  rotate_left
  · intro w' hS'
    have hq := hS'.1
    have hq2 := hS'.2
    clear hS'
    first | (go_simp; done) | (go_simp; with_reducible rfl)
  try clear ho
  try simp only [Act.put, List.getElem_toArray, List.getElem_cons_zero, List.getElem_cons_succ, List.setIfInBounds_toArray, List.set_cons_zero, List.set_cons_succ]
  have ho : opsrdIf[14]? = some (opAt opsrdIf 14) := by kernel_rfl
  conv at ho => rhs; arg 1; whnf
  refine wpAnyH_take (i := 14) (v := ?_) ho (by kernel_rfl) (by kernel_rfl) (by kernel_rfl) (fun _ _ _ h => h) (Or.inl ⟨by kernel_rfl, ?_⟩) hS ?_
  clear ho
  rotate_left
  · intro w' hS'
    have hq := hS'.1
    have hq2 := hS'.2
    clear hS'
    first | (go_simp; done) | (go_simp; with_reducible rfl)
  try clear ho
  try simp only [Act.put, List.getElem_toArray, List.getElem_cons_zero, List.getElem_cons_succ, List.setIfInBounds_toArray, List.set_cons_zero, List.set_cons_succ]
  have ho : opsrdIf[15]? = some (opAt opsrdIf 15) := by kernel_rfl
  conv at ho => rhs; arg 1; whnf
  refine wpAnyH_take (i := 15) (v := ?_) ho (by kernel_rfl) (by kernel_rfl) (by kernel_rfl) (fun _ _ _ h => h) (Or.inl ⟨by kernel_rfl, ?_⟩) hS ?_
  clear ho
  rotate_left
  · intro w' hS'
    have hq := hS'.1
    have hq2 := hS'.2
    clear hS'
    first | (go_simp; done) | (go_simp; with_reducible rfl)
  try clear ho
  try simp only [Act.put, List.getElem_toArray, List.getElem_cons_zero, List.getElem_cons_succ, List.setIfInBounds_toArray, List.set_cons_zero, List.set_cons_succ]
  have ho : opsrdIf[16]? = some (opAt opsrdIf 16) := by kernel_rfl
  conv at ho => rhs; arg 1; whnf
  refine wpAnyH_take (i := 16) (v := ?_) ho (by kernel_rfl) (by kernel_rfl) (by kernel_rfl) (fun _ _ _ h => h) (Or.inl ⟨by kernel_rfl, ?_⟩) hS ?_
  clear ho
  rotate_left
  · intro w' hS'
    have hq := hS'.1
    have hq2 := hS'.2
    clear hS'
    first | (go_simp; done) | (go_simp; with_reducible rfl)
  try clear ho
  try simp only [Act.put, List.getElem_toArray, List.getElem_cons_zero, List.getElem_cons_succ, List.setIfInBounds_toArray, List.set_cons_zero, List.set_cons_succ]
  have ho : opsrdIf[17]? = some (opAt opsrdIf 17) := by kernel_rfl
  conv at ho => rhs; arg 1; whnf
  refine wpAnyH_take (i := 17) (v := ?_) ho (by kernel_rfl) (by kernel_rfl) (by kernel_rfl) (fun _ _ _ h => h) (Or.inl ⟨by kernel_rfl, ?_⟩) hS ?_
  clear ho
  rotate_left
  · intro w' hS'
    have hq := hS'.1
    have hq2 := hS'.2
    clear hS'
    first | (go_simp; done) | (go_simp; with_reducible rfl)
  try clear ho
  try simp only [Act.put, List.getElem_toArray, List.getElem_cons_zero, List.getElem_cons_succ, List.setIfInBounds_toArray, List.set_cons_zero, List.set_cons_succ]
  have ho : opsrdIf[18]? = some (opAt opsrdIf 18) := by kernel_rfl
  conv at ho => rhs; arg 1; whnf
  refine wpAnyH_take (i := 18) (v := ?_) ho (by kernel_rfl) (by kernel_rfl) (by kernel_rfl) (fun _ _ _ h => h) (Or.inl ⟨by kernel_rfl, ?_⟩) hS ?_
  clear ho
  rotate_left
  · intro w' hS'
    have hq := hS'.1
    have hq2 := hS'.2
    clear hS'
    first | (go_simp; done) | (go_simp; with_reducible rfl)
  try clear ho
  try simp only [Act.put, List.getElem_toArray, List.getElem_cons_zero, List.getElem_cons_succ, List.setIfInBounds_toArray, List.set_cons_zero, List.set_cons_succ]
  have ho : opsrdIf[19]? = some (opAt opsrdIf 19) := by kernel_rfl
  conv at ho => rhs; arg 1; whnf
  refine wpAnyH_take (i := 19) (v := ?_) ho (by kernel_rfl) (by kernel_rfl) (by kernel_rfl) (fun _ _ _ h => h) (Or.inl ⟨by kernel_rfl, ?_⟩) hS ?_
  clear ho
  rotate_left
  · intro w' hS'
    have hq := hS'.1
    have hq2 := hS'.2
    clear hS'
    first | (go_simp; done) | (go_simp; with_reducible rfl)
  try clear ho
  try simp only [Act.put, List.getElem_toArray, List.getElem_cons_zero, List.getElem_cons_succ, List.setIfInBounds_toArray, List.set_cons_zero, List.set_cons_succ]
  have ho : opsrdIf[20]? = some (opAt opsrdIf 20) := by kernel_rfl
  conv at ho => rhs; arg 1; whnf
  refine wpAnyH_take (i := 20) (v := ?_) ho (by kernel_rfl) (by kernel_rfl) (by kernel_rfl) (fun _ _ _ h => h) (Or.inl ⟨by kernel_rfl, ?_⟩) hS ?_
  clear ho
  rotate_left
  · intro w' hS'
    have hq := hS'.1
    have hq2 := hS'.2
    clear hS'
    first | (go_simp; done) | (go_simp; with_reducible rfl)
  try clear ho
  try simp only [Act.put, List.getElem_toArray, List.getElem_cons_zero, List.getElem_cons_succ, List.setIfInBounds_toArray, List.set_cons_zero, List.set_cons_succ]
  have ho : opsrdIf[21]? = some (opAt opsrdIf 21) := by kernel_rfl
  conv at ho => rhs; arg 1; whnf
  refine wpAnyH_take (i := 21) (v := ?_) ho (by kernel_rfl) (by kernel_rfl) (by kernel_rfl) (fun _ _ _ h => h) (Or.inl ⟨by kernel_rfl, ?_⟩) hS ?_
  clear ho
  rotate_left
  · intro w' hS'
    have hq := hS'.1
    have hq2 := hS'.2
    clear hS'
    first | (go_simp; done) | (go_simp; with_reducible rfl)
  try clear ho
  try simp only [Act.put, List.getElem_toArray, List.getElem_cons_zero, List.getElem_cons_succ, List.setIfInBounds_toArray, List.set_cons_zero, List.set_cons_succ]
  have hB1 := heap_drew hB
  have hk1 : Kept w W.drew := hkW.trans' ((Below.refl _ _).drew)
  have ho22 : opsrdIf[22]? = some (opAt opsrdIf 22) := by kernel_rfl
  conv at ho22 => rhs; arg 1; whnf
  refine wpAnyH_ready (rs := [22]) (by kernel_rfl) (by simp) ?_
  refine (AllReadyH.cons ho22 (fun K hK => ?_) AllReadyH.nil)
  all_goals clear ho22
  rw [if_pos (by kernel_rfl)]
  refine wp_store_row 53 (.tmp 2) (.tmp 24) rfl w.heap.size #[.int .u8 z2, .int .u8 z3, .int .u8 z4, .int .u8 z5, .int .u8 z6, .int .u8 z7, .int .u8 z8] (by rfl) (by rfl) 53 _ hB1 (by kernel_rfl) (by rfl) (by simp [Value.oneCell']) ?_
  have k9 : Kept w (W.drew.setRow w.heap.size #[.int .u8 z2, .int .u8 z3, .int .u8 z4, .int .u8 z5, .int .u8 z6, .int .u8 z7, .int .u8 z8]) := below_row hk1 (Nat.le_refl _) _
  have hb9 : (W.drew.setRow w.heap.size #[.int .u8 z2, .int .u8 z3, .int .u8 z4, .int .u8 z5, .int .u8 z6, .int .u8 z7, .int .u8 z8]).heap[w.heap.size]? = some (.cells #[.int .u8 z2, .int .u8 z3, .int .u8 z4, .int .u8 z5, .int .u8 z6, .int .u8 z7, .int .u8 z8] 53 (0, 0)) := heap_row hB1
  refine hK.out _ _ ?_ (fun hS => ?_)
  · exact ⟨fun o => (World.cell?_of_block (a := ⟨b, o, none⟩) (below_row (Below.refl w.heap.size _) (Nat.le_refl _) _ |>.block b hb)).trans (hS.1 o), k9⟩
  clear hK K
  try simp only [Act.put, List.getElem_toArray, List.getElem_cons_zero, List.getElem_cons_succ, List.setIfInBounds_toArray, List.set_cons_zero, List.set_cons_succ]
  refine wpAnyH_done (by kernel_rfl) ?_ _
  go_wp2_with fail
  refine bodyPost_ret (results_cell_row rfl _ _ w.heap.size 53 #[.int .u8 z2, .int .u8 z3, .int .u8 z4, .int .u8 z5, .int .u8 z6, .int .u8 z7, .int .u8 z8] (0, 0) _ rfl hb9 Tryd.underlying53 rfl (by kernel_rfl)) rfl ⟨rfl, k9⟩
noncomputable def coderdEp : Code := (Tryd.f84.body.bind (findR 1)).getD .skip
noncomputable def opsrdEp : Array Oper := opsOf (headC coderdEp)
set_option maxRecDepth 100000 in
set_option maxHeartbeats 4000000 in
theorem rdEp_any (A : Option Addr) (c : Nat) (l : List Int) (w : World) (hl : Sl u8T w (low w.heap.size) A 7 l) :
    Calls Tryd.prog 84 #[.slice A 7 c] w fun e w' => e = .returned (.agg (readEp l).cells.toArray) ∧ Kept w w' := by
  have Hl := hide hl
  obtain ⟨b, off, rfl, hb, hc⟩ := sl_bytes hl (by decide)
  have x2 := hc 2 (by decide)
  obtain ⟨z2, hz2⟩ : ∃ z, byteAt l 2 = z := ⟨_, rfl⟩
  rw [hz2] at x2
  have x3 := hc 3 (by decide)
  obtain ⟨z3, hz3⟩ : ∃ z, byteAt l 3 = z := ⟨_, rfl⟩
  rw [hz3] at x3
  have x4 := hc 4 (by decide)
  obtain ⟨z4, hz4⟩ : ∃ z, byteAt l 4 = z := ⟨_, rfl⟩
  rw [hz4] at x4
  have x5 := hc 5 (by decide)
  obtain ⟨z5, hz5⟩ : ∃ z, byteAt l 5 = z := ⟨_, rfl⟩
  rw [hz5] at x5
  have x6 := hc 6 (by decide)
  obtain ⟨z6, hz6⟩ : ∃ z, byteAt l 6 = z := ⟨_, rfl⟩
  rw [hz6] at x6
  obtain ⟨_, _, f1, f2⟩ := bit_f z2 (by rw [← hz2]; exact sl_byte8 hl 2)
  have hr : (readEp l).cells = [.int .u8 (z2 % 128), .bool (z2 / 128 % 2 == 1), .int .u8 z3, .int .u16 (z4 + 256 * z5), .int .u8 z6] := by
    unfold readEp EpD.cells
    simp only [hz2, hz3, hz4, hz5, hz6]
  have htw : ∀ w', Kept w w' → Calls Tryd.prog 79 #[.slice (some ⟨b, off, none⟩) 7 c, .int .i64 4] w' fun e w'' => e = .returned (.int .u16 (z4 + 256 * z5)) ∧ Kept w' w'' := fun w' hk => by
    have := two_any (some ⟨b, off, none⟩) 7 c 4 l w' (Hl.out.kept hk) (by decide) (by decide)
    rw [hz4, hz5] at this
    exact this
  rw [hr]
  clear hr hl hc hz2 hz3 hz4 hz5 hz6
  go_enter Tryd.func84, Tryd.ntmps84
  go_upto_region 1 with (fail)
  refine wp_at (fun W => W.heap[w.heap.size]? = some (.cells #[.int .u8 0, .bool false, .int .u8 0, .int .u16 0, .int .u8 0] 59 (0, 0)) ∧ Kept w W) ⟨heap_at _ rfl, by go_grown⟩ (fun W hW => ?_)
  obtain ⟨hB, hkW⟩ := hW
  have Htw := hide htw
  clear htw
  obtain ⟨hcw, _⟩ := bcell hkW
  have y2 := (hcw b (off + 2) hb).trans x2
  have y3 := (hcw b (off + 3) hb).trans x3
  have y4 := (hcw b (off + 4) hb).trans x4
  have y5 := (hcw b (off + 5) hb).trans x5
  have y6 := (hcw b (off + 6) hb).trans x6
  clear hcw x2 x3 x4 x5 x6
  refine wp_region_held_named (ops' := opsrdEp) (n := 19) (S := fun w' => (∀ o, w'.cell? ⟨b, o, none⟩ = W.cell? ⟨b, o, none⟩) ∧ Kept w w') (by kernel_rfl) (by kernel_rfl) (by kernel_rfl) ⟨fun _ => rfl, hkW.trans' ((Below.refl _ _).drew)⟩ (fun hS => ?_)
  have ho : opsrdEp[0]? = some (opAt opsrdEp 0) := by kernel_rfl
  conv at ho => rhs; arg 1; whnf
  refine wpAnyH_take (i := 0) (v := ?_) ho (by kernel_rfl) (by kernel_rfl) (by kernel_rfl) (fun _ _ _ h => h) (Or.inl ⟨by kernel_rfl, ?_⟩) hS ?_
  clear ho
  rotate_left
  · intro w' hS'
    have hq := hS'.1
    have hq2 := hS'.2
    clear hS'
    first | (go_simp; done) | (go_simp; with_reducible rfl)
  try clear ho
  try simp only [Act.put, List.getElem_toArray, List.getElem_cons_zero, List.getElem_cons_succ, List.setIfInBounds_toArray, List.set_cons_zero, List.set_cons_succ]
  have ho : opsrdEp[1]? = some (opAt opsrdEp 1) := by kernel_rfl
  conv at ho => rhs; arg 1; whnf
  refine wpAnyH_take (i := 1) (v := ?_) ho (by kernel_rfl) (by kernel_rfl) (by kernel_rfl) (fun _ _ _ h => h) (Or.inl ⟨by kernel_rfl, ?_⟩) hS ?_
  clear ho
  rotate_left
  · intro w' hS'
    have hq := hS'.1
    have hq2 := hS'.2
    clear hS'
    first | (go_simp; done) | (go_simp; with_reducible rfl)
  try clear ho
  try simp only [Act.put, List.getElem_toArray, List.getElem_cons_zero, List.getElem_cons_succ, List.setIfInBounds_toArray, List.set_cons_zero, List.set_cons_succ]
  have ho : opsrdEp[2]? = some (opAt opsrdEp 2) := by kernel_rfl
  conv at ho => rhs; arg 1; whnf
  refine wpAnyH_take (i := 2) (v := ?_) ho (by kernel_rfl) (by kernel_rfl) (by kernel_rfl) (fun _ _ _ h => h) (Or.inl ⟨by kernel_rfl, ?_⟩) hS ?_
  clear ho
  rotate_left
  · intro w' hS'
    have hq := hS'.1
    have hq2 := hS'.2
    clear hS'
    first | (go_simp; done) | (go_simp; with_reducible rfl)
  try clear ho
  try simp only [Act.put, List.getElem_toArray, List.getElem_cons_zero, List.getElem_cons_succ, List.setIfInBounds_toArray, List.set_cons_zero, List.set_cons_succ]
  have ho : opsrdEp[3]? = some (opAt opsrdEp 3) := by kernel_rfl
  conv at ho => rhs; arg 1; whnf
  refine wpAnyH_take (i := 3) (v := ?_) ho (by kernel_rfl) (by kernel_rfl) (by kernel_rfl) (fun _ _ _ h => h) (Or.inl ⟨by kernel_rfl, ?_⟩) hS ?_
  clear ho
  rotate_left
  · intro w' hS'
    have hq := hS'.1
    have hq2 := hS'.2
    clear hS'
    first | (go_simp; done) | (go_simp; with_reducible rfl)
  try clear ho
  try simp only [Act.put, List.getElem_toArray, List.getElem_cons_zero, List.getElem_cons_succ, List.setIfInBounds_toArray, List.set_cons_zero, List.set_cons_succ]
  have ho : opsrdEp[4]? = some (opAt opsrdEp 4) := by kernel_rfl
  conv at ho => rhs; arg 1; whnf
  refine wpAnyH_take (i := 4) (v := ?_) ho (by kernel_rfl) (by kernel_rfl) (by kernel_rfl) (fun _ _ _ h => h) (Or.inl ⟨by kernel_rfl, ?_⟩) hS ?_
  clear ho
  rotate_left
  · intro w' hS'
    have hq := hS'.1
    have hq2 := hS'.2
    clear hS'
    first | (go_simp; done) | (go_simp; with_reducible rfl)
  try clear ho
  try simp only [Act.put, List.getElem_toArray, List.getElem_cons_zero, List.getElem_cons_succ, List.setIfInBounds_toArray, List.set_cons_zero, List.set_cons_succ]
  have ho : opsrdEp[5]? = some (opAt opsrdEp 5) := by kernel_rfl
  conv at ho => rhs; arg 1; whnf
  refine wpAnyH_take (i := 5) (v := ?_) ho (by kernel_rfl) (by kernel_rfl) (by kernel_rfl) (fun _ _ _ h => h) (Or.inl ⟨by kernel_rfl, ?_⟩) hS ?_
  clear ho
  rotate_left
  · intro w' hS'
    have hq := hS'.1
    have hq2 := hS'.2
    clear hS'
    first | (go_simp; done) | (go_simp; with_reducible rfl)
  try clear ho
  try simp only [Act.put, List.getElem_toArray, List.getElem_cons_zero, List.getElem_cons_succ, List.setIfInBounds_toArray, List.set_cons_zero, List.set_cons_succ]
  have ho : opsrdEp[6]? = some (opAt opsrdEp 6) := by kernel_rfl
  conv at ho => rhs; arg 1; whnf
  refine wpAnyH_take (i := 6) (v := ?_) ho (by kernel_rfl) (by kernel_rfl) (by kernel_rfl) (fun _ _ _ h => h) (Or.inl ⟨by kernel_rfl, ?_⟩) hS ?_
  clear ho
  rotate_left
  · intro w' hS'
    have hq := hS'.1
    have hq2 := hS'.2
    clear hS'
    first | (go_simp; done) | (go_simp; with_reducible rfl)
  try clear ho
  try simp only [Act.put, List.getElem_toArray, List.getElem_cons_zero, List.getElem_cons_succ, List.setIfInBounds_toArray, List.set_cons_zero, List.set_cons_succ]
  have ho : opsrdEp[7]? = some (opAt opsrdEp 7) := by kernel_rfl
  conv at ho => rhs; arg 1; whnf
  refine wpAnyH_take (i := 7) (v := ?_) ho (by kernel_rfl) (by kernel_rfl) (by kernel_rfl) (fun _ _ _ h => h) (Or.inl ⟨by kernel_rfl, ?_⟩) hS ?_
  clear ho
  rotate_left
  · intro w' hS'
    have hq := hS'.1
    have hq2 := hS'.2
    clear hS'
    first | (go_simp; done) | (go_simp; with_reducible rfl)
  try clear ho
  try simp only [Act.put, List.getElem_toArray, List.getElem_cons_zero, List.getElem_cons_succ, List.setIfInBounds_toArray, List.set_cons_zero, List.set_cons_succ]
  have ho : opsrdEp[8]? = some (opAt opsrdEp 8) := by kernel_rfl
  conv at ho => rhs; arg 1; whnf
  refine wpAnyH_take (i := 8) (v := ?_) ho (by kernel_rfl) (by kernel_rfl) (by kernel_rfl) (fun _ _ _ h => h) (Or.inl ⟨by kernel_rfl, ?_⟩) hS ?_
  clear ho
  rotate_left
  · intro w' hS'
    have hq := hS'.1
    have hq2 := hS'.2
    clear hS'
    first | (go_simp; done) | (go_simp; with_reducible rfl)
  try clear ho
  try simp only [Act.put, List.getElem_toArray, List.getElem_cons_zero, List.getElem_cons_succ, List.setIfInBounds_toArray, List.set_cons_zero, List.set_cons_succ]
  have ho : opsrdEp[9]? = some (opAt opsrdEp 9) := by kernel_rfl
  conv at ho => rhs; arg 1; whnf
  refine wpAnyH_take (i := 9) (v := ?_) ho (by kernel_rfl) (by kernel_rfl) (by kernel_rfl) (fun _ _ _ h => h) (Or.inl ⟨by kernel_rfl, ?_⟩) hS ?_
  clear ho
  rotate_left
  · intro w' hS'
    have hq := hS'.1
    have hq2 := hS'.2
    clear hS'
    first | (go_simp; done) | (go_simp; with_reducible rfl)
  try clear ho
  try simp only [Act.put, List.getElem_toArray, List.getElem_cons_zero, List.getElem_cons_succ, List.setIfInBounds_toArray, List.set_cons_zero, List.set_cons_succ]
  have ho : opsrdEp[10]? = some (opAt opsrdEp 10) := by kernel_rfl
  conv at ho => rhs; arg 1; whnf
  refine wpAnyH_take (i := 10) (v := ?_) ho (by kernel_rfl) (by kernel_rfl) (by kernel_rfl) (fun _ _ _ h => h) (Or.inl ⟨by kernel_rfl, ?_⟩) hS ?_
  clear ho
  rotate_left
  · intro w' hS'
    have hq := hS'.1
    have hq2 := hS'.2
    clear hS'
    first | (go_simp; done) | (go_simp; with_reducible rfl)
  try clear ho
  try simp only [Act.put, List.getElem_toArray, List.getElem_cons_zero, List.getElem_cons_succ, List.setIfInBounds_toArray, List.set_cons_zero, List.set_cons_succ]
  have ho : opsrdEp[11]? = some (opAt opsrdEp 11) := by kernel_rfl
  conv at ho => rhs; arg 1; whnf
  refine wpAnyH_take (i := 11) (v := ?_) ho (by kernel_rfl) (by kernel_rfl) (by kernel_rfl) (fun _ _ _ h => h) (Or.inl ⟨by kernel_rfl, ?_⟩) hS ?_
  clear ho
  rotate_left
  · intro w' hS'
    have hq := hS'.1
    have hq2 := hS'.2
    clear hS'
    first | (go_simp; done) | (go_simp; with_reducible rfl)
  try clear ho
  try simp only [Act.put, List.getElem_toArray, List.getElem_cons_zero, List.getElem_cons_succ, List.setIfInBounds_toArray, List.set_cons_zero, List.set_cons_succ]
  have ho : opsrdEp[12]? = some (opAt opsrdEp 12) := by kernel_rfl
  conv at ho => rhs; arg 1; whnf
  refine wpAnyH_take (i := 12) (v := ?_) ho (by kernel_rfl) (by kernel_rfl) (by kernel_rfl) (fun _ _ _ h => h) (Or.inl ⟨by kernel_rfl, ?_⟩) hS ?_
  clear ho
  rotate_left
  · intro w' hS'
    have hq := hS'.1
    have hq2 := hS'.2
    clear hS'
    first | (go_simp; done) | (go_simp; with_reducible rfl)
  try clear ho
  try simp only [Act.put, List.getElem_toArray, List.getElem_cons_zero, List.getElem_cons_succ, List.setIfInBounds_toArray, List.set_cons_zero, List.set_cons_succ]
  have ho : opsrdEp[14]? = some (opAt opsrdEp 14) := by kernel_rfl
  conv at ho => rhs; arg 1; whnf
  refine wpAnyH_take (i := 14) (v := ?_) ho (by kernel_rfl) (by kernel_rfl) (by kernel_rfl) (fun _ _ _ h => h) (Or.inl ⟨by kernel_rfl, ?_⟩) hS ?_
  clear ho
  rotate_left
  · intro w' hS'
    have hq := hS'.1
    have hq2 := hS'.2
    clear hS'
    first | (go_simp; done) | (go_simp; with_reducible rfl)
  try clear ho
  try simp only [Act.put, List.getElem_toArray, List.getElem_cons_zero, List.getElem_cons_succ, List.setIfInBounds_toArray, List.set_cons_zero, List.set_cons_succ]
  have ho : opsrdEp[15]? = some (opAt opsrdEp 15) := by kernel_rfl
  conv at ho => rhs; arg 1; whnf
  refine wpAnyH_take (i := 15) (v := ?_) ho (by kernel_rfl) (by kernel_rfl) (by kernel_rfl) (fun _ _ _ h => h) (Or.inl ⟨by kernel_rfl, ?_⟩) hS ?_
  clear ho
  rotate_left
  · intro w' hS'
    have hq := hS'.1
    have hq2 := hS'.2
    clear hS'
    first | (go_simp; done) | (go_simp; with_reducible rfl)
  try clear ho
  try simp only [Act.put, List.getElem_toArray, List.getElem_cons_zero, List.getElem_cons_succ, List.setIfInBounds_toArray, List.set_cons_zero, List.set_cons_succ]
  have ho : opsrdEp[16]? = some (opAt opsrdEp 16) := by kernel_rfl
  conv at ho => rhs; arg 1; whnf
  refine wpAnyH_take (i := 16) (v := ?_) ho (by kernel_rfl) (by kernel_rfl) (by kernel_rfl) (fun _ _ _ h => h) (Or.inl ⟨by kernel_rfl, ?_⟩) hS ?_
  clear ho
  rotate_left
  · intro w' hS'
    have hq := hS'.1
    have hq2 := hS'.2
    clear hS'
    first | (go_simp; done) | (go_simp; with_reducible rfl)
  try clear ho
  try simp only [Act.put, List.getElem_toArray, List.getElem_cons_zero, List.getElem_cons_succ, List.setIfInBounds_toArray, List.set_cons_zero, List.set_cons_succ]
  have ho13 : opsrdEp[13]? = some (opAt opsrdEp 13) := by kernel_rfl
  conv at ho13 => rhs; arg 1; whnf
  refine wpAnyH_ready (rs := [13]) (by kernel_rfl) (by simp) ?_
  refine (AllReadyH.cons ho13 (fun K hK => ?_) AllReadyH.nil)
  all_goals clear ho13
  go_simp
  go_at_call 79
  refine (Htw.out _ (hkW.trans' ((Below.refl _ _).drew))).mono ?_
  rintro e w1 ⟨rfl, hk⟩
  try dsimp only
  have hB1 := heap_kept hk (heap_drew hB)
  have hk1 : Kept w w1 := (hkW.trans' ((Below.refl _ _).drew)).trans' hk
  refine hK.out _ _ ?_ (fun hS => ?_)
  · exact ⟨fun o => hk.cell (p := ⟨b, o, none⟩) (Nat.lt_of_lt_of_le hb hkW.size), hk1⟩
  clear hK K
  try simp only [Act.put, List.getElem_toArray, List.getElem_cons_zero, List.getElem_cons_succ, List.setIfInBounds_toArray, List.set_cons_zero, List.set_cons_succ]
  have ho : opsrdEp[17]? = some (opAt opsrdEp 17) := by kernel_rfl
  conv at ho => rhs; arg 1; whnf
  refine wpAnyH_take (i := 17) (v := ?_) ho (by kernel_rfl) (by kernel_rfl) (by kernel_rfl) (fun _ _ _ h => h) (Or.inl ⟨by kernel_rfl, ?_⟩) hS ?_
  clear ho
  rotate_left
  · intro w' hS'
    have hq := hS'.1
    have hq2 := hS'.2
    clear hS'
    first | (go_simp; done) | (go_simp; with_reducible rfl)
  try clear ho
  try simp only [Act.put, List.getElem_toArray, List.getElem_cons_zero, List.getElem_cons_succ, List.setIfInBounds_toArray, List.set_cons_zero, List.set_cons_succ]
  have ho18 : opsrdEp[18]? = some (opAt opsrdEp 18) := by kernel_rfl
  conv at ho18 => rhs; arg 1; whnf
  refine wpAnyH_ready (rs := [18]) (by kernel_rfl) (by simp) ?_
  refine (AllReadyH.cons ho18 (fun K hK => ?_) AllReadyH.nil)
  all_goals clear ho18
  rw [if_pos (by kernel_rfl)]
  refine wp_store_row 59 (.tmp 2) (.tmp 20) rfl w.heap.size #[.int .u8 (z2 % 128), .bool (z2 / 128 % 2 == 1), .int .u8 z3, .int .u16 (z4 + 256 * z5), .int .u8 z6] (by rfl) (by rfl) 59 _ hB1 (by kernel_rfl) (by rfl) (by simp [Value.oneCell']) ?_
  have k9 : Kept w (w1.setRow w.heap.size #[.int .u8 (z2 % 128), .bool (z2 / 128 % 2 == 1), .int .u8 z3, .int .u16 (z4 + 256 * z5), .int .u8 z6]) := below_row hk1 (Nat.le_refl _) _
  have hb9 : (w1.setRow w.heap.size #[.int .u8 (z2 % 128), .bool (z2 / 128 % 2 == 1), .int .u8 z3, .int .u16 (z4 + 256 * z5), .int .u8 z6]).heap[w.heap.size]? = some (.cells #[.int .u8 (z2 % 128), .bool (z2 / 128 % 2 == 1), .int .u8 z3, .int .u16 (z4 + 256 * z5), .int .u8 z6] 59 (0, 0)) := heap_row hB1
  refine hK.out _ _ ?_ (fun hS => ?_)
  · exact ⟨fun o => (World.cell?_of_block (a := ⟨b, o, none⟩) (below_row (Below.refl w.heap.size _) (Nat.le_refl _) _ |>.block b hb)).trans (hS.1 o), k9⟩
  clear hK K
  try simp only [Act.put, List.getElem_toArray, List.getElem_cons_zero, List.getElem_cons_succ, List.setIfInBounds_toArray, List.set_cons_zero, List.set_cons_succ]
  refine wpAnyH_done (by kernel_rfl) ?_ _
  go_wp2_with fail
  refine bodyPost_ret (results_cell_row rfl _ _ w.heap.size 59 #[.int .u8 (z2 % 128), .bool (z2 / 128 % 2 == 1), .int .u8 z3, .int .u16 (z4 + 256 * z5), .int .u8 z6] (0, 0) _ rfl hb9 Tryd.underlying59 rfl (by kernel_rfl)) rfl ⟨rfl, k9⟩
end Go.Proofs.YtjgncofhobhjdaaDoor
/- decode of the descriptor of a configuration. Printed by gen_sh.py. -/
namespace Go.Proofs.YtjgncofhobhjdaaDoor
open Go.RowKit
attribute [local go_sem ↓] Go.wp_at_zero Go.wp_at_succ

theorem dcfgRet {tm : Array Value} {w : World} {R : Nat} {a b c d e f g : Value} {E : Int} (h2 : tm[8]? = some (.pointer (some ⟨R, 0, none⟩))) (h3 : tm[9]? = some (.int .i64 E)) (h : w.heap[R]? = some (.cells #[a, b, c, d, e, f, g] 29 (0, 0))) : (results Tryd.f77 tm).run Tryd.prog w = .ok (.tuple #[.agg #[a, b, c, d, e, f, g], .int .i64 E]) w := by
  have c0 : w.cell? ⟨R, 0, none⟩ = some a := cell_heap h (o := 0) rfl
  have c1 : w.cell? ⟨R, 1, none⟩ = some b := cell_heap h (o := 1) rfl
  have c2 : w.cell? ⟨R, 2, none⟩ = some c := cell_heap h (o := 2) rfl
  have c3 : w.cell? ⟨R, 3, none⟩ = some d := cell_heap h (o := 3) rfl
  have c4 : w.cell? ⟨R, 4, none⟩ = some e := cell_heap h (o := 4) rfl
  have c5 : w.cell? ⟨R, 5, none⟩ = some f := cell_heap h (o := 5) rfl
  have c6 : w.cell? ⟨R, 6, none⟩ = some g := cell_heap h (o := 6) rfl
  simp [results, Tryd.results77, go_sem, Array.getD_eq_getD_getElem?, h2, h3, c0, c1, c2, c3, c4, c5, c6]
theorem decCfg_no {b : List Int} (h : decCfg b = none) (hl : b.length = 9) : okCfg (readCfg b) = false ∨ (okCfg (readCfg b) = true ∧ ¬ rawCfg (readCfg b) = b) := by
  unfold decCfg at h
  cases ho : okCfg (readCfg b) with
  | false => exact .inl rfl
  | true =>
    refine .inr ⟨rfl, fun e => ?_⟩
    rw [if_pos ⟨hl, ho, e⟩] at h
    cases h
theorem decCfg_yes {b : List Int} {d : CfgD} (h : decCfg b = some d) : b.length = 9 ∧ okCfg d = true ∧ rawCfg d = b ∧ readCfg b = d := by
  unfold decCfg at h
  by_cases hc : b.length = 9 ∧ okCfg (readCfg b) = true ∧ rawCfg (readCfg b) = b
  · rw [if_pos hc] at h
    injection h with h
    rw [h] at hc
    exact ⟨hc.1, hc.2.1, hc.2.2, h⟩
  · rw [if_neg hc] at h
    cases h
set_option maxRecDepth 100000 in
set_option maxHeartbeats 4000000 in
theorem dcfg_size (A : Option Addr) (n c : Nat) (l : List Int) (w : World) (hl : Sl u8T w (low w.heap.size) A n l) (hn : n ≠ 9) :
    Calls Tryd.prog 77 #[.slice A n c, .int .i64 9, .func (.func 78) #[] #[], .func (.func 71) #[] #[]] w fun e w' => (∃ E : Int, e = .returned (.tuple #[.agg #[.int .u16 0, .int .u8 0, .int .u8 0, .int .u8 0, .bool false, .bool false, .int .u8 0], .int .i64 E]) ∧ E ≠ 0) ∧ Kept w w' := by
  have hne : ((n : Int) != 9) = true := by simp; omega
  have hne2 : decide ((n : Int) = 9) = false := decide_eq_false (by omega)
  go_enter Tryd.func77, Tryd.ntmps77
  go_upto_region 3 with (fail)
  have k2 : True := trivial
  refine wp_at (fun V => V.heap[w.heap.size]? = some (.cells #[.int .u16 0, .int .u8 0, .int .u8 0, .int .u8 0, .bool false, .bool false, .int .u8 0] 29 (0, 0)) ∧ V.heap[w.heap.size + 1]? = some (.cells #[.int .u16 0, .int .u8 0, .int .u8 0, .int .u8 0, .bool false, .bool false, .int .u8 0] 29 (0, 0)) ∧ Kept w V) ⟨heap_past (heap_at _ rfl), heap_at _ (by simp), by go_grown⟩ (fun V2 hV2 => ?_)
  obtain ⟨hB3, hC3, hk3⟩ := hV2
  have hlb := heap_lt hB3
  have hlc := heap_lt hC3
  have b0 := cell_heap hB3 (o := 0) rfl
  have p0 := frozen_heap hB3 (o := 0)
  have q0 := cell_heap hC3 (o := 0) rfl
  have b1 := cell_heap hB3 (o := 1) rfl
  have p1 := frozen_heap hB3 (o := 1)
  have q1 := cell_heap hC3 (o := 1) rfl
  have b2 := cell_heap hB3 (o := 2) rfl
  have p2 := frozen_heap hB3 (o := 2)
  have q2 := cell_heap hC3 (o := 2) rfl
  have b3 := cell_heap hB3 (o := 3) rfl
  have p3 := frozen_heap hB3 (o := 3)
  have q3 := cell_heap hC3 (o := 3) rfl
  have b4 := cell_heap hB3 (o := 4) rfl
  have p4 := frozen_heap hB3 (o := 4)
  have q4 := cell_heap hC3 (o := 4) rfl
  have b5 := cell_heap hB3 (o := 5) rfl
  have p5 := frozen_heap hB3 (o := 5)
  have q5 := cell_heap hC3 (o := 5) rfl
  have b6 := cell_heap hB3 (o := 6) rfl
  have p6 := frozen_heap hB3 (o := 6)
  have q6 := cell_heap hC3 (o := 6) rfl
  go_wp2_with fail
  refine bodyPost_ret (dcfgRet (R := w.heap.size) rfl rfl (heap_store (heap_store (heap_store (heap_store (heap_store (heap_store (heap_store hB3 _) _) _) _) _) _) _)) rfl ⟨⟨_, rfl, by decide⟩, ?_⟩
  exact hk3.trans ((((((((Below.refl _ _).setCell (p := ⟨w.heap.size, 0, none⟩) (Nat.le_refl _) _).setCell (p := ⟨w.heap.size, 1, none⟩) (Nat.le_refl _) _).setCell (p := ⟨w.heap.size, 2, none⟩) (Nat.le_refl _) _).setCell (p := ⟨w.heap.size, 3, none⟩) (Nat.le_refl _) _).setCell (p := ⟨w.heap.size, 4, none⟩) (Nat.le_refl _) _).setCell (p := ⟨w.heap.size, 5, none⟩) (Nat.le_refl _) _).setCell (p := ⟨w.heap.size, 6, none⟩) (Nat.le_refl _) _)
set_option maxRecDepth 100000 in
set_option maxHeartbeats 4000000 in
theorem dcfg_bad (A : Option Addr) (c : Nat) (l : List Int) (w : World) (hl : Sl u8T w (low w.heap.size) A 9 l) (d : CfgD) (hdd : readCfg l = d) (ho : okCfg d = false) :
    Calls Tryd.prog 77 #[.slice A 9 c, .int .i64 9, .func (.func 78) #[] #[], .func (.func 71) #[] #[]] w fun e w' => (∃ E : Int, e = .returned (.tuple #[.agg #[.int .u16 0, .int .u8 0, .int .u8 0, .int .u8 0, .bool false, .bool false, .int .u8 0], .int .i64 E]) ∧ E ≠ 0) ∧ Kept w w' := by
  have hd8 := hl.all8
  have hrd : ∀ w', Kept w w' → Calls Tryd.prog 78 #[.slice A 9 c] w' fun e w'' => e = .returned (.agg #[.int .u16 d.total, .int .u8 d.ifs, .int .u8 d.number, .int .u8 d.text, .bool d.self, .bool d.wake, .int .u8 d.power]) ∧ Kept w' w'' := fun w' hk => by
    have := rdCfg_any A c l w' (hl.kept hk)
    rw [hdd] at this
    exact this
  have hdo : d.ok := by rw [← hdd]; exact readCfg_ok hd8
  have hen := fun w' => encCfg_bad d w' ho
  unfold CfgD.cells at hen
  go_enter Tryd.func77, Tryd.ntmps77
  go_upto_region 4 with (fail)
  refine wp_at (fun W => W.heap[w.heap.size]? = some (.cells #[.int .u16 0, .int .u8 0, .int .u8 0, .int .u8 0, .bool false, .bool false, .int .u8 0] 29 (0, 0)) ∧ W.heap[w.heap.size + 1]? = some (.cells #[.int .u16 0, .int .u8 0, .int .u8 0, .int .u8 0, .bool false, .bool false, .int .u8 0] 29 (0, 0)) ∧ Kept w W) ⟨heap_past (heap_at _ rfl), heap_at _ (by simp), by go_grown⟩ (fun W hW => ?_)
  obtain ⟨hB, hC, hkW⟩ := hW
  have HB := hide hB
  have HC := hide hC
  clear hB hC
  go_upto_region 5 with (go_at_call 78; refine (hrd _ hkW).mono ?_; rintro e w1 ⟨rfl, hk1⟩)
  refine wp_at (fun V => V.heap[w1.heap.size]? = some (.cells #[.int .u16 d.total, .int .u8 d.ifs, .int .u8 d.number, .int .u8 d.text, .bool d.self, .bool d.wake, .int .u8 d.power] 29 (0, 0)) ∧ Kept w1 V) ⟨heap_at _ rfl, by go_grown⟩ (fun V hV => ?_)
  obtain ⟨hD, hkV⟩ := hV
  have hlD := heap_lt hD
  have HD := hide hD
  have d0 := cell_heap hD (o := 0) rfl
  have d1 := cell_heap hD (o := 1) rfl
  have d2 := cell_heap hD (o := 2) rfl
  have d3 := cell_heap hD (o := 3) rfl
  have d4 := cell_heap hD (o := 4) rfl
  have d5 := cell_heap hD (o := 5) rfl
  have d6 := cell_heap hD (o := 6) rfl
  have k2 : Kept w V := (hkW.trans' hk1).trans' hkV
  have hB := heap_kept (hk1.trans' hkV) HB.out
  have hC := heap_kept (hk1.trans' hkV) HC.out
  have HB2 := hide hB
  have HC2 := hide hC
  have HD2 := hide hD
  clear hB hC hD hrd
  go_upto_region 7 with (go_at_call 71; refine (hen _).mono ?_; rintro e w2 ⟨rfl, hk2⟩)
  refine wp_at (fun V => V.heap[w.heap.size]? = some (.cells #[.int .u16 0, .int .u8 0, .int .u8 0, .int .u8 0, .bool false, .bool false, .int .u8 0] 29 (0, 0)) ∧ V.heap[w.heap.size + 1]? = some (.cells #[.int .u16 0, .int .u8 0, .int .u8 0, .int .u8 0, .bool false, .bool false, .int .u8 0] 29 (0, 0)) ∧ Kept w V) ⟨heap_kept hk2 HB2.out, heap_kept hk2 HC2.out, k2.trans' hk2⟩ (fun V2 hV2 => ?_)
  obtain ⟨hB3, hC3, hk3⟩ := hV2
  have hlb := heap_lt hB3
  have hlc := heap_lt hC3
  have b0 := cell_heap hB3 (o := 0) rfl
  have p0 := frozen_heap hB3 (o := 0)
  have q0 := cell_heap hC3 (o := 0) rfl
  have b1 := cell_heap hB3 (o := 1) rfl
  have p1 := frozen_heap hB3 (o := 1)
  have q1 := cell_heap hC3 (o := 1) rfl
  have b2 := cell_heap hB3 (o := 2) rfl
  have p2 := frozen_heap hB3 (o := 2)
  have q2 := cell_heap hC3 (o := 2) rfl
  have b3 := cell_heap hB3 (o := 3) rfl
  have p3 := frozen_heap hB3 (o := 3)
  have q3 := cell_heap hC3 (o := 3) rfl
  have b4 := cell_heap hB3 (o := 4) rfl
  have p4 := frozen_heap hB3 (o := 4)
  have q4 := cell_heap hC3 (o := 4) rfl
  have b5 := cell_heap hB3 (o := 5) rfl
  have p5 := frozen_heap hB3 (o := 5)
  have q5 := cell_heap hC3 (o := 5) rfl
  have b6 := cell_heap hB3 (o := 6) rfl
  have p6 := frozen_heap hB3 (o := 6)
  have q6 := cell_heap hC3 (o := 6) rfl
  go_wp2_with fail
  refine bodyPost_ret (dcfgRet (R := w.heap.size) rfl rfl (heap_store (heap_store (heap_store (heap_store (heap_store (heap_store (heap_store hB3 _) _) _) _) _) _) _)) rfl ⟨⟨_, rfl, by decide⟩, ?_⟩
  exact hk3.trans ((((((((Below.refl _ _).setCell (p := ⟨w.heap.size, 0, none⟩) (Nat.le_refl _) _).setCell (p := ⟨w.heap.size, 1, none⟩) (Nat.le_refl _) _).setCell (p := ⟨w.heap.size, 2, none⟩) (Nat.le_refl _) _).setCell (p := ⟨w.heap.size, 3, none⟩) (Nat.le_refl _) _).setCell (p := ⟨w.heap.size, 4, none⟩) (Nat.le_refl _) _).setCell (p := ⟨w.heap.size, 5, none⟩) (Nat.le_refl _) _).setCell (p := ⟨w.heap.size, 6, none⟩) (Nat.le_refl _) _)
set_option maxRecDepth 100000 in
set_option maxHeartbeats 4000000 in
theorem dcfg_other (A : Option Addr) (c : Nat) (l : List Int) (w : World) (hl : Sl u8T w (low w.heap.size) A 9 l) (d : CfgD) (hdd : readCfg l = d) (ho : okCfg d = true) (hne : ¬ rawCfg d = l) :
    Calls Tryd.prog 77 #[.slice A 9 c, .int .i64 9, .func (.func 78) #[] #[], .func (.func 71) #[] #[]] w fun e w' => (∃ E : Int, e = .returned (.tuple #[.agg #[.int .u16 0, .int .u8 0, .int .u8 0, .int .u8 0, .bool false, .bool false, .int .u8 0], .int .i64 E]) ∧ E ≠ 0) ∧ Kept w w' := by
  have hd8 := hl.all8
  have hrd : ∀ w', Kept w w' → Calls Tryd.prog 78 #[.slice A 9 c] w' fun e w'' => e = .returned (.agg #[.int .u16 d.total, .int .u8 d.ifs, .int .u8 d.number, .int .u8 d.text, .bool d.self, .bool d.wake, .int .u8 d.power]) ∧ Kept w' w'' := fun w' hk => by
    have := rdCfg_any A c l w' (hl.kept hk)
    rw [hdd] at this
    exact this
  have hdo : d.ok := by rw [← hdd]; exact readCfg_ok hd8
  have hen := fun w' => encCfg_ok d w' hdo ho
  have heq : ∀ w' (A' : Option Addr) (cap : Nat), Kept w w' → Sl u8T w' (low w'.heap.size) A' 9 (rawCfg d) → Calls Tryd.prog 42 #[.slice A' 9 cap, .slice A 9 c] w' fun e w'' => e = .returned (.bool false) ∧ Kept w' w'' := fun w' A' cap hk hs => by
    have := eqB_any A' A 9 cap 9 c (rawCfg d) l w' (by decide) hs (hl.kept hk)
    rw [decide_eq_false hne] at this
    exact this
  unfold CfgD.cells at hen
  have Heq := hide heq
  clear heq
  go_enter Tryd.func77, Tryd.ntmps77
  go_upto_region 4 with (fail)
  refine wp_at (fun W => W.heap[w.heap.size]? = some (.cells #[.int .u16 0, .int .u8 0, .int .u8 0, .int .u8 0, .bool false, .bool false, .int .u8 0] 29 (0, 0)) ∧ W.heap[w.heap.size + 1]? = some (.cells #[.int .u16 0, .int .u8 0, .int .u8 0, .int .u8 0, .bool false, .bool false, .int .u8 0] 29 (0, 0)) ∧ Kept w W) ⟨heap_past (heap_at _ rfl), heap_at _ (by simp), by go_grown⟩ (fun W hW => ?_)
  obtain ⟨hB, hC, hkW⟩ := hW
  have HB := hide hB
  have HC := hide hC
  clear hB hC
  go_upto_region 5 with (go_at_call 78; refine (hrd _ hkW).mono ?_; rintro e w1 ⟨rfl, hk1⟩)
  refine wp_at (fun V => V.heap[w1.heap.size]? = some (.cells #[.int .u16 d.total, .int .u8 d.ifs, .int .u8 d.number, .int .u8 d.text, .bool d.self, .bool d.wake, .int .u8 d.power] 29 (0, 0)) ∧ Kept w1 V) ⟨heap_at _ rfl, by go_grown⟩ (fun V hV => ?_)
  obtain ⟨hD, hkV⟩ := hV
  have hlD := heap_lt hD
  have HD := hide hD
  have d0 := cell_heap hD (o := 0) rfl
  have d1 := cell_heap hD (o := 1) rfl
  have d2 := cell_heap hD (o := 2) rfl
  have d3 := cell_heap hD (o := 3) rfl
  have d4 := cell_heap hD (o := 4) rfl
  have d5 := cell_heap hD (o := 5) rfl
  have d6 := cell_heap hD (o := 6) rfl
  have k2 : Kept w V := (hkW.trans' hk1).trans' hkV
  have hB := heap_kept (hk1.trans' hkV) HB.out
  have hC := heap_kept (hk1.trans' hkV) HC.out
  have HB2 := hide hB
  have HC2 := hide hC
  have HD2 := hide hD
  clear hB hC hD hrd
  go_upto_region 7 with (first
    | (go_at_call 71; refine (hen _).mono ?_; rintro e w2 ⟨A', cap, rfl, hs2', hk2⟩; have hs2 := hs2'.newlow)
    | (go_at_call 42; refine (Heq.out _ _ _ (k2.trans' hk2) hs2).mono ?_; rintro e w3 ⟨rfl, hk3⟩; have hk23 := hk2.trans' hk3))
  refine wp_at (fun V => V.heap[w.heap.size]? = some (.cells #[.int .u16 0, .int .u8 0, .int .u8 0, .int .u8 0, .bool false, .bool false, .int .u8 0] 29 (0, 0)) ∧ V.heap[w.heap.size + 1]? = some (.cells #[.int .u16 0, .int .u8 0, .int .u8 0, .int .u8 0, .bool false, .bool false, .int .u8 0] 29 (0, 0)) ∧ Kept w V) ⟨heap_kept hk23 HB2.out, heap_kept hk23 HC2.out, k2.trans' hk23⟩ (fun V2 hV2 => ?_)
  obtain ⟨hB3, hC3, hk4⟩ := hV2
  have hlb := heap_lt hB3
  have hlc := heap_lt hC3
  have b0 := cell_heap hB3 (o := 0) rfl
  have p0 := frozen_heap hB3 (o := 0)
  have q0 := cell_heap hC3 (o := 0) rfl
  have b1 := cell_heap hB3 (o := 1) rfl
  have p1 := frozen_heap hB3 (o := 1)
  have q1 := cell_heap hC3 (o := 1) rfl
  have b2 := cell_heap hB3 (o := 2) rfl
  have p2 := frozen_heap hB3 (o := 2)
  have q2 := cell_heap hC3 (o := 2) rfl
  have b3 := cell_heap hB3 (o := 3) rfl
  have p3 := frozen_heap hB3 (o := 3)
  have q3 := cell_heap hC3 (o := 3) rfl
  have b4 := cell_heap hB3 (o := 4) rfl
  have p4 := frozen_heap hB3 (o := 4)
  have q4 := cell_heap hC3 (o := 4) rfl
  have b5 := cell_heap hB3 (o := 5) rfl
  have p5 := frozen_heap hB3 (o := 5)
  have q5 := cell_heap hC3 (o := 5) rfl
  have b6 := cell_heap hB3 (o := 6) rfl
  have p6 := frozen_heap hB3 (o := 6)
  have q6 := cell_heap hC3 (o := 6) rfl
  go_wp2_with fail
  refine bodyPost_ret (dcfgRet (R := w.heap.size) rfl rfl (heap_store (heap_store (heap_store (heap_store (heap_store (heap_store (heap_store hB3 _) _) _) _) _) _) _)) rfl ⟨⟨_, rfl, by decide⟩, ?_⟩
  exact hk4.trans ((((((((Below.refl _ _).setCell (p := ⟨w.heap.size, 0, none⟩) (Nat.le_refl _) _).setCell (p := ⟨w.heap.size, 1, none⟩) (Nat.le_refl _) _).setCell (p := ⟨w.heap.size, 2, none⟩) (Nat.le_refl _) _).setCell (p := ⟨w.heap.size, 3, none⟩) (Nat.le_refl _) _).setCell (p := ⟨w.heap.size, 4, none⟩) (Nat.le_refl _) _).setCell (p := ⟨w.heap.size, 5, none⟩) (Nat.le_refl _) _).setCell (p := ⟨w.heap.size, 6, none⟩) (Nat.le_refl _) _)
set_option maxRecDepth 100000 in
set_option maxHeartbeats 4000000 in
theorem dcfg_good (A : Option Addr) (c : Nat) (l : List Int) (w : World) (hl : Sl u8T w (low w.heap.size) A 9 l) (d : CfgD) (hdd : readCfg l = d) (ho : okCfg d = true) (hne : rawCfg d = l) :
    Calls Tryd.prog 77 #[.slice A 9 c, .int .i64 9, .func (.func 78) #[] #[], .func (.func 71) #[] #[]] w fun e w' => e = .returned (.tuple #[.agg #[.int .u16 d.total, .int .u8 d.ifs, .int .u8 d.number, .int .u8 d.text, .bool d.self, .bool d.wake, .int .u8 d.power], .int .i64 0]) ∧ Kept w w' := by
  have hd8 := hl.all8
  have hrd : ∀ w', Kept w w' → Calls Tryd.prog 78 #[.slice A 9 c] w' fun e w'' => e = .returned (.agg #[.int .u16 d.total, .int .u8 d.ifs, .int .u8 d.number, .int .u8 d.text, .bool d.self, .bool d.wake, .int .u8 d.power]) ∧ Kept w' w'' := fun w' hk => by
    have := rdCfg_any A c l w' (hl.kept hk)
    rw [hdd] at this
    exact this
  have hdo : d.ok := by rw [← hdd]; exact readCfg_ok hd8
  have hen := fun w' => encCfg_ok d w' hdo ho
  have heq : ∀ w' (A' : Option Addr) (cap : Nat), Kept w w' → Sl u8T w' (low w'.heap.size) A' 9 (rawCfg d) → Calls Tryd.prog 42 #[.slice A' 9 cap, .slice A 9 c] w' fun e w'' => e = .returned (.bool true) ∧ Kept w' w'' := fun w' A' cap hk hs => by
    have := eqB_any A' A 9 cap 9 c (rawCfg d) l w' (by decide) hs (hl.kept hk)
    rw [decide_eq_true hne] at this
    exact this
  unfold CfgD.cells at hen
  have Heq := hide heq
  clear heq
  go_enter Tryd.func77, Tryd.ntmps77
  go_upto_region 4 with (fail)
  refine wp_at (fun W => W.heap[w.heap.size]? = some (.cells #[.int .u16 0, .int .u8 0, .int .u8 0, .int .u8 0, .bool false, .bool false, .int .u8 0] 29 (0, 0)) ∧ W.heap[w.heap.size + 1]? = some (.cells #[.int .u16 0, .int .u8 0, .int .u8 0, .int .u8 0, .bool false, .bool false, .int .u8 0] 29 (0, 0)) ∧ Kept w W) ⟨heap_past (heap_at _ rfl), heap_at _ (by simp), by go_grown⟩ (fun W hW => ?_)
  obtain ⟨hB, hC, hkW⟩ := hW
  have HB := hide hB
  have HC := hide hC
  clear hB hC
  go_upto_region 5 with (go_at_call 78; refine (hrd _ hkW).mono ?_; rintro e w1 ⟨rfl, hk1⟩)
  refine wp_at (fun V => V.heap[w1.heap.size]? = some (.cells #[.int .u16 d.total, .int .u8 d.ifs, .int .u8 d.number, .int .u8 d.text, .bool d.self, .bool d.wake, .int .u8 d.power] 29 (0, 0)) ∧ Kept w1 V) ⟨heap_at _ rfl, by go_grown⟩ (fun V hV => ?_)
  obtain ⟨hD, hkV⟩ := hV
  have hlD := heap_lt hD
  have HD := hide hD
  have d0 := cell_heap hD (o := 0) rfl
  have d1 := cell_heap hD (o := 1) rfl
  have d2 := cell_heap hD (o := 2) rfl
  have d3 := cell_heap hD (o := 3) rfl
  have d4 := cell_heap hD (o := 4) rfl
  have d5 := cell_heap hD (o := 5) rfl
  have d6 := cell_heap hD (o := 6) rfl
  have k2 : Kept w V := (hkW.trans' hk1).trans' hkV
  have hB := heap_kept (hk1.trans' hkV) HB.out
  have hC := heap_kept (hk1.trans' hkV) HC.out
  have HB2 := hide hB
  have HC2 := hide hC
  have HD2 := hide hD
  clear hB hC hD hrd
  go_upto_region 8 with (first
    | (go_at_call 71; refine (hen _).mono ?_; rintro e w2 ⟨A', cap, rfl, hs2', hk2⟩; have hs2 := hs2'.newlow)
    | (go_at_call 42; refine (Heq.out _ _ _ (k2.trans' hk2) hs2).mono ?_; rintro e w3 ⟨rfl, hk3⟩; have hk23 := hk2.trans' hk3))
  refine wp_at (fun V => V.heap[w.heap.size]? = some (.cells #[.int .u16 0, .int .u8 0, .int .u8 0, .int .u8 0, .bool false, .bool false, .int .u8 0] 29 (0, 0)) ∧ V.heap[w1.heap.size]? = some (.cells #[.int .u16 d.total, .int .u8 d.ifs, .int .u8 d.number, .int .u8 d.text, .bool d.self, .bool d.wake, .int .u8 d.power] 29 (0, 0)) ∧ Kept w V) ⟨heap_kept hk23 HB2.out, heap_kept hk23 HD2.out, k2.trans' hk23⟩ (fun V2 hV2 => ?_)
  obtain ⟨hB3, hC3, hk4⟩ := hV2
  have hlb := heap_lt hB3
  have hlc := heap_lt hC3
  have b0 := cell_heap hB3 (o := 0) rfl
  have p0 := frozen_heap hB3 (o := 0)
  have q0 := cell_heap hC3 (o := 0) rfl
  have b1 := cell_heap hB3 (o := 1) rfl
  have p1 := frozen_heap hB3 (o := 1)
  have q1 := cell_heap hC3 (o := 1) rfl
  have b2 := cell_heap hB3 (o := 2) rfl
  have p2 := frozen_heap hB3 (o := 2)
  have q2 := cell_heap hC3 (o := 2) rfl
  have b3 := cell_heap hB3 (o := 3) rfl
  have p3 := frozen_heap hB3 (o := 3)
  have q3 := cell_heap hC3 (o := 3) rfl
  have b4 := cell_heap hB3 (o := 4) rfl
  have p4 := frozen_heap hB3 (o := 4)
  have q4 := cell_heap hC3 (o := 4) rfl
  have b5 := cell_heap hB3 (o := 5) rfl
  have p5 := frozen_heap hB3 (o := 5)
  have q5 := cell_heap hC3 (o := 5) rfl
  have b6 := cell_heap hB3 (o := 6) rfl
  have p6 := frozen_heap hB3 (o := 6)
  have q6 := cell_heap hC3 (o := 6) rfl
  go_wp2_with fail
  refine bodyPost_ret (dcfgRet (R := w.heap.size) rfl rfl (heap_store (heap_store (heap_store (heap_store (heap_store (heap_store (heap_store hB3 _) _) _) _) _) _) _)) rfl ⟨rfl, ?_⟩
  exact hk4.trans ((((((((Below.refl _ _).setCell (p := ⟨w.heap.size, 0, none⟩) (Nat.le_refl _) _).setCell (p := ⟨w.heap.size, 1, none⟩) (Nat.le_refl _) _).setCell (p := ⟨w.heap.size, 2, none⟩) (Nat.le_refl _) _).setCell (p := ⟨w.heap.size, 3, none⟩) (Nat.le_refl _) _).setCell (p := ⟨w.heap.size, 4, none⟩) (Nat.le_refl _) _).setCell (p := ⟨w.heap.size, 5, none⟩) (Nat.le_refl _) _).setCell (p := ⟨w.heap.size, 6, none⟩) (Nat.le_refl _) _)
end Go.Proofs.YtjgncofhobhjdaaDoor
/- EncodeInterface. The numbers lie in their kinds. Printed by gen_sc.py. -/
namespace Go.Proofs.YtjgncofhobhjdaaDoor
open Go.RowKit
attribute [local go_sem ↓] Go.wp_at_zero Go.wp_at_succ

theorem okIf_good {d : IfD} (h : okIf d = true) : d.num < 16 ∧ d.alt < 16 ∧ d.eps ≤ 30 := by
  unfold okIf at h
  simp only [Bool.and_eq_true, decide_eq_true_eq] at h
  omega
theorem okIf_bad {d : IfD} (h : okIf d = false) : 16 ≤ d.num ∨ 16 ≤ d.alt ∨ 30 < d.eps := by
  unfold okIf at h
  simp only [Bool.and_eq_false_iff, decide_eq_false_iff_not] at h
  omega
set_option maxRecDepth 100000 in
set_option maxHeartbeats 4000000 in
theorem encIf_bad (d : IfD) (w : World) (ho : okIf d = false) : Calls Tryd.prog 72 #[.agg d.cells.toArray] w fun e w' => e = .returned (.tuple #[.slice none 0 0, .int .i64 1]) ∧ Kept w w' := by
  have h := okIf_bad ho
  unfold IfD.cells
  clear ho
  go_enter Tryd.func72, Tryd.ntmps72
  by_cases c0 : 16 ≤ d.num
  · go_wp2_with fail
    refine bodyPost_ret (v := .tuple #[.slice none 0 0, .int .i64 1]) (by simp [results, Tryd.results72, go_sem]) rfl ⟨rfl, by go_grown⟩
  by_cases c1 : 16 ≤ d.alt
  · go_wp2_with fail
    refine bodyPost_ret (v := .tuple #[.slice none 0 0, .int .i64 1]) (by simp [results, Tryd.results72, go_sem]) rfl ⟨rfl, by go_grown⟩
  have c2 : 30 < d.eps := by omega
  go_wp2_with fail
  refine bodyPost_ret (v := .tuple #[.slice none 0 0, .int .i64 1]) (by simp [results, Tryd.results72, go_sem]) rfl ⟨rfl, by go_grown⟩
set_option maxRecDepth 100000 in
set_option maxHeartbeats 4000000 in
theorem encIf_ok (d : IfD) (w : World) (hd : d.ok) (ho : okIf d = true) : Calls Tryd.prog 72 #[.agg d.cells.toArray] w fun e w' => ∃ A cap, e = .returned (.tuple #[.slice A 9 cap, .int .i64 0]) ∧ Sl u8T w' (fun b => w.heap.size ≤ b ∧ b < w'.heap.size) A 9 (rawIf d) ∧ Kept w w' := by
  obtain ⟨g1, g2, g3⟩ := okIf_good ho
  obtain ⟨u1, u2, u3, u4, u5, u6, u7⟩ := hd
  have a1 : ¬ 16 ≤ d.num := by omega
  have a2 : ¬ 16 ≤ d.alt := by omega
  have a3 : ¬ 30 < d.eps := by omega
  unfold IfD.cells
  clear ho
  obtain ⟨num, alt, eps, cls, sub, pr, tx⟩ := d
  simp only at *
  have hlit : ∀ z ∈ [num, alt, eps, cls, sub, pr, tx], u8k z := by
    intro z hz
    simp only [List.mem_cons, List.not_mem_nil, or_false] at hz
    rcases hz with rfl | rfl | rfl | rfl | rfl | rfl | rfl <;> assumption
  go_enter Tryd.func72, Tryd.ntmps72
  go_wp2_with (go_at_call 92; refine (join_any 4 _ 7 7 [num, alt, eps, cls, sub, pr, tx] _ ⟨by decide, by decide⟩ (by decide) (by exact sl_lit8 (l := [num, alt, eps, cls, sub, pr, tx]) (heap_at _ (by first | rfl | simp)) (by simp [low]) hlit)).mono ?_; rintro e w1 ⟨A', cap, rfl, hown, hk⟩; have hown := own_new8 (hown.lower (base' := w.heap.size) (by first | (simp; done) | (simp; omega))))
  refine bodyPost_ret (v := .tuple #[.slice A' 9 cap, .int .i64 0]) (by simp [results, Tryd.results72, go_sem]) rfl ⟨A', cap, rfl, ?_, Below.trans (by go_grown) (hk.mono (by simp; omega))⟩
  exact hown
end Go.Proofs.YtjgncofhobhjdaaDoor
