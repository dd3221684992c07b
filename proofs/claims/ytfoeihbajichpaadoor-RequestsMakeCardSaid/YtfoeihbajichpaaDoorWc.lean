

/- The law of the makers: its walk. The library's variables are as the program lays them. -/
import Derived.Test.YtfoeihbajichpaaDoorChecked
import Derived.Deep.RegionHeld3
import Derived.Deep.DrawnRows
import Derived.Deep.DeepCutAuto
import Derived.Deep.LoopGhost
import Derived.Outline
import Derived.Handy
import Derived.OwnWalk
import Derived.Laws.EntriesVeiled
import Derived.Test.YtfoeihbajichpaaDoorSq
import Derived.Test.YtfoeihbajichpaaDoorWa
set_option linter.unusedVariables false
set_option linter.unusedSimpArgs false
set_option linter.unusedSectionVars false
namespace Go.Proofs.YtfoeihbajichpaaDoor
open Go.RowKit Go.Lib Go.Maps Go.WideShapes
attribute [local go_sem ↓] Go.wp_at_zero Go.wp_at_succ

set_option maxRecDepth 100000 in
set_option maxHeartbeats 16000000 in
theorem make_false (r a b p q x n : Int) (w : World) (hT : Tabs w) (r0 : 0 ≤ r) (r1 : r < 256) (a0 : 0 ≤ a) (a1 : a < 256) (b0 : 0 ≤ b) (b1 : b < 256) (p0 : 0 ≤ p) (p1 : p < 65536) (q0 : 0 ≤ q) (q1 : q < 65536) (x0 : 0 ≤ x) (x1 : x < 65536) (n0 : 0 ≤ n) (n1 : n < 65536) :
    Calls Tryd.prog 9 #[.agg #[.bool false, .int .u8 r, .int .u8 a, .int .u8 b, .int .u16 p, .int .u16 q, .int .u16 x, .int .u16 n]] w fun e w' => e = .returned (.bool true) ∧ Kept w w' := by
  have H25 : ∀ W, Calls Tryd.prog 25 #[.int .u8 r, .int .u16 q] W fun e w' => e = .returned (.agg #[.int .u8 (128 + r % 32), .int .u8 (0), .int .u16 (0), .int .u16 (q), .int .u16 (2)]) ∧ Kept W w' := fun W => status_any r q r0 r1 W
  have H26 : ∀ W, Calls Tryd.prog 26 #[.bool false, .int .u8 r, .int .u16 p, .int .u16 q] W fun e w' => e = .returned (.agg #[.int .u8 (r % 32), .int .u8 (1), .int .u16 (p), .int .u16 (q), .int .u16 (0)]) ∧ Kept W w' := fun W => feature_clear r p q r0 r1 W
  have H27 : ∀ W, Calls Tryd.prog 27 #[.int .u8 a] W fun e w' => e = .returned (.agg #[.int .u8 (0), .int .u8 (5), .int .u16 (a), .int .u16 (0), .int .u16 (0)]) ∧ Kept W w' := fun W => address_any a a0 a1 W
  have H28 : ∀ W, Calls Tryd.prog 28 #[.int .u8 a, .int .u8 b, .int .u16 x, .int .u16 n] W fun e w' => e = .returned (.agg #[.int .u8 (128), .int .u8 (6), .int .u16 (256 * a + b), .int .u16 (x), .int .u16 (n)]) ∧ Kept W w' := fun W => by have h := descriptor_any a b x n a0 a1 b0 b1 n0 n1 W; rw [Int.mul_comm a 256] at h; exact h
  have H29 : ∀ W, Calls Tryd.prog 29 #[.int .u8 a] W fun e w' => e = .returned (.agg #[.int .u8 (0), .int .u8 (9), .int .u16 (a), .int .u16 (0), .int .u16 (0)]) ∧ Kept W w' := fun W => configure_any a a0 a1 W
  have H30 : ∀ W, Calls Tryd.prog 30 #[] W fun e w' => e = .returned (.agg #[.int .u8 (128), .int .u8 (8), .int .u16 (0), .int .u16 (0), .int .u16 (1)]) ∧ Kept W w' := fun W => configuration_any W
  have H31 : ∀ W, Calls Tryd.prog 31 #[.int .u8 a, .int .u8 b] W fun e w' => e = .returned (.agg #[.int .u8 (1), .int .u8 (11), .int .u16 (b), .int .u16 (a), .int .u16 (0)]) ∧ Kept W w' := fun W => alter_any a b a0 a1 b0 b1 W
  have H32 : ∀ W, Calls Tryd.prog 32 #[.int .u8 a] W fun e w' => e = .returned (.agg #[.int .u8 (129), .int .u8 (10), .int .u16 (0), .int .u16 (a), .int .u16 (1)]) ∧ Kept W w' := fun W => alternate_any a a0 a1 W
  have m0 : 0 ≤ r % 32 := by omega
  have m1 : r % 32 < 32 := by omega
  have m2 : 0 ≤ 128 + r % 32 := by omega
  have m3 : 128 + r % 32 < 256 := by omega
  have m4 : 0 ≤ 256 * a := by omega
  have m5 : 256 * a < 65536 := by omega
  have m6 : 0 ≤ 256 * a + b := by omega
  have m7 : 256 * a + b < 65536 := by omega
  have hw1 : IntKind.u8.wrap (128 + r % 32) = 128 + r % 32 := by rw [IntKind.wrap_u8]; omega
  have hw2 : IntKind.u16.wrap a = a := by rw [IntKind.wrap_u16]; omega
  have hw3 : IntKind.u16.wrap b = b := by rw [IntKind.wrap_u16]; omega
  have hw4 : IntKind.u16.wrap (256 * a) = 256 * a := by rw [IntKind.wrap_u16]; omega
  have hw5 : IntKind.u16.wrap (256 * a + b) = 256 * a + b := by rw [IntKind.wrap_u16]; omega
  go_enter Tryd.func9, Tryd.ntmps9
  go_upto_region 5 with (fail)
  refine wp_at (fun W => W.heap[w.heap.size]? = some (.cells #[.bool false, .int .u8 r, .int .u8 a, .int .u8 b, .int .u16 p, .int .u16 q, .int .u16 x, .int .u16 n] 49 (0, 0)) ∧ Kept w W) ⟨heap_at _ rfl, by go_grown⟩ (fun W hL => ?_)
  obtain ⟨hD, hkW⟩ := hL
  have hTW := Lib.hid (hT.kept hkW)
  have d0 := cell_heap hD (o := 0) rfl
  have d1 := cell_heap hD (o := 1) rfl
  have d2 := cell_heap hD (o := 2) rfl
  have d3 := cell_heap hD (o := 3) rfl
  have d4 := cell_heap hD (o := 4) rfl
  have d5 := cell_heap hD (o := 5) rfl
  have d6 := cell_heap hD (o := 6) rfl
  have d7 := cell_heap hD (o := 7) rfl
  have hdl := heap_lt hD
  refine wp_region_held_named (ops' := opsM) (n := 109) (S := (fun w' => (∀ b o, b < W.heap.size → w'.cell? ⟨b, o, none⟩ = W.cell? ⟨b, o, none⟩) ∧ Below W.heap.size W w')) (by kernel_rfl) (by kernel_rfl) (by kernel_rfl) since_start (fun hS => ?_)
  have ho : opsM[0]? = some (opAt opsM 0) := by kernel_rfl
  conv at ho => rhs; arg 1; whnf
  refine wpAnyH_take (i := 0) (v := ?_) ho (by kernel_rfl) (by kernel_rfl) (by kernel_rfl) (fun _ _ _ h => h) (Or.inl ⟨by kernel_rfl, ?_⟩) hS ?_
  clear ho
  rotate_left
  · intro w' hS'
    have hq := hS'.1
    have hq2 := hS'.2
    clear hS'
    first | (go_simp; done) | (go_simp; with_reducible rfl)
  try clear ho
  try simp only [Act.put, List.getElem_toArray, List.getElem_cons_zero, List.getElem_cons_succ, List.setIfInBounds_toArray, List.set_cons_zero, List.set_cons_succ]
  have ho : opsM[1]? = some (opAt opsM 1) := by kernel_rfl
  conv at ho => rhs; arg 1; whnf
  refine wpAnyH_take (i := 1) (v := ?_) ho (by kernel_rfl) (by kernel_rfl) (by kernel_rfl) (fun _ _ _ h => h) (Or.inl ⟨by kernel_rfl, ?_⟩) hS ?_
  clear ho
  rotate_left
  · intro w' hS'
    have hq := hS'.1
    have hq2 := hS'.2
    clear hS'
    first | (go_simp; done) | (go_simp; with_reducible rfl)
  try clear ho
  try simp only [Act.put, List.getElem_toArray, List.getElem_cons_zero, List.getElem_cons_succ, List.setIfInBounds_toArray, List.set_cons_zero, List.set_cons_succ]
  have ho : opsM[2]? = some (opAt opsM 2) := by kernel_rfl
  conv at ho => rhs; arg 1; whnf
  refine wpAnyH_take (i := 2) (v := ?_) ho (by kernel_rfl) (by kernel_rfl) (by kernel_rfl) (fun _ _ _ h => h) (Or.inl ⟨by kernel_rfl, ?_⟩) hS ?_
  clear ho
  rotate_left
  · intro w' hS'
    have hq := hS'.1
    have hq2 := hS'.2
    clear hS'
    first | (go_simp; done) | (go_simp; with_reducible rfl)
  try clear ho
  try simp only [Act.put, List.getElem_toArray, List.getElem_cons_zero, List.getElem_cons_succ, List.setIfInBounds_toArray, List.set_cons_zero, List.set_cons_succ]
  have ho : opsM[3]? = some (opAt opsM 3) := by kernel_rfl
  conv at ho => rhs; arg 1; whnf
  refine wpAnyH_take (i := 3) (v := ?_) ho (by kernel_rfl) (by kernel_rfl) (by kernel_rfl) (fun _ _ _ h => h) (Or.inl ⟨by kernel_rfl, ?_⟩) hS ?_
  clear ho
  rotate_left
  · intro w' hS'
    have hq := hS'.1
    have hq2 := hS'.2
    clear hS'
    first | (go_simp; done) | (go_simp; with_reducible rfl)
  try clear ho
  try simp only [Act.put, List.getElem_toArray, List.getElem_cons_zero, List.getElem_cons_succ, List.setIfInBounds_toArray, List.set_cons_zero, List.set_cons_succ]
  have ho : opsM[5]? = some (opAt opsM 5) := by kernel_rfl
  conv at ho => rhs; arg 1; whnf
  refine wpAnyH_take (i := 5) (v := ?_) ho (by kernel_rfl) (by kernel_rfl) (by kernel_rfl) (fun _ _ _ h => h) (Or.inl ⟨by kernel_rfl, ?_⟩) hS ?_
  clear ho
  rotate_left
  · intro w' hS'
    have hq := hS'.1
    have hq2 := hS'.2
    clear hS'
    first | (go_simp; done) | (go_simp; with_reducible rfl)
  try clear ho
  try simp only [Act.put, List.getElem_toArray, List.getElem_cons_zero, List.getElem_cons_succ, List.setIfInBounds_toArray, List.set_cons_zero, List.set_cons_succ]
  have ho : opsM[6]? = some (opAt opsM 6) := by kernel_rfl
  conv at ho => rhs; arg 1; whnf
  refine wpAnyH_take (i := 6) (v := ?_) ho (by kernel_rfl) (by kernel_rfl) (by kernel_rfl) (fun _ _ _ h => h) (Or.inl ⟨by kernel_rfl, ?_⟩) hS ?_
  clear ho
  rotate_left
  · intro w' hS'
    have hq := hS'.1
    have hq2 := hS'.2
    clear hS'
    first | (go_simp; done) | (go_simp; with_reducible rfl)
  try clear ho
  try simp only [Act.put, List.getElem_toArray, List.getElem_cons_zero, List.getElem_cons_succ, List.setIfInBounds_toArray, List.set_cons_zero, List.set_cons_succ]
  have ho : opsM[7]? = some (opAt opsM 7) := by kernel_rfl
  conv at ho => rhs; arg 1; whnf
  refine wpAnyH_take (i := 7) (v := ?_) ho (by kernel_rfl) (by kernel_rfl) (by kernel_rfl) (fun _ _ _ h => h) (Or.inl ⟨by kernel_rfl, ?_⟩) hS ?_
  clear ho
  rotate_left
  · intro w' hS'
    have hq := hS'.1
    have hq2 := hS'.2
    clear hS'
    first | (go_simp; done) | (go_simp; with_reducible rfl)
  try clear ho
  try simp only [Act.put, List.getElem_toArray, List.getElem_cons_zero, List.getElem_cons_succ, List.setIfInBounds_toArray, List.set_cons_zero, List.set_cons_succ]
  have ho : opsM[8]? = some (opAt opsM 8) := by kernel_rfl
  conv at ho => rhs; arg 1; whnf
  refine wpAnyH_take (i := 8) (v := ?_) ho (by kernel_rfl) (by kernel_rfl) (by kernel_rfl) (fun _ _ _ h => h) (Or.inl ⟨by kernel_rfl, ?_⟩) hS ?_
  clear ho
  rotate_left
  · intro w' hS'
    have hq := hS'.1
    have hq2 := hS'.2
    clear hS'
    first | (go_simp; done) | (go_simp; with_reducible rfl)
  try clear ho
  try simp only [Act.put, List.getElem_toArray, List.getElem_cons_zero, List.getElem_cons_succ, List.setIfInBounds_toArray, List.set_cons_zero, List.set_cons_succ]
  have ho : opsM[9]? = some (opAt opsM 9) := by kernel_rfl
  conv at ho => rhs; arg 1; whnf
  refine wpAnyH_take (i := 9) (v := ?_) ho (by kernel_rfl) (by kernel_rfl) (by kernel_rfl) (fun _ _ _ h => h) (Or.inl ⟨by kernel_rfl, ?_⟩) hS ?_
  clear ho
  rotate_left
  · intro w' hS'
    have hq := hS'.1
    have hq2 := hS'.2
    clear hS'
    first | (go_simp; done) | (go_simp; with_reducible rfl)
  try clear ho
  try simp only [Act.put, List.getElem_toArray, List.getElem_cons_zero, List.getElem_cons_succ, List.setIfInBounds_toArray, List.set_cons_zero, List.set_cons_succ]
  have ho : opsM[4]? = some (opAt opsM 4) := by kernel_rfl
  conv at ho => rhs; arg 1; whnf
  refine wpAnyH_ready (rs := [4]) (by kernel_rfl) (by simp) ?_
  refine AllReadyH.cons ho (fun K hK => ?_) AllReadyH.nil
  clear ho
  go_simp
  go_at_call 25
  refine (H25 _).mono ?_
  rintro e w5 ⟨rfl, hk⟩
  try dsimp only
  have k5 : Below W.heap.size W w5 := hS.2.trans (hk.mono hS.2.size)
  refine hK.out _ _ ?_ (fun hS => ?_)
  · exact ⟨(bcell k5).1, k5⟩
  clear hK K hk k5
  try simp only [Act.put, List.getElem_toArray, List.getElem_cons_zero, List.getElem_cons_succ, List.setIfInBounds_toArray, List.set_cons_zero, List.set_cons_succ]
  have ho : opsM[10]? = some (opAt opsM 10) := by kernel_rfl
  conv at ho => rhs; arg 1; whnf
  refine wpAnyH_take (i := 10) (v := .bool true) ho (by kernel_rfl) (by kernel_rfl) (by kernel_rfl) (fun _ _ _ h => h) (Or.inl ⟨by kernel_rfl, ?_⟩) hS ?_
  · clear ho
    intro w' hS'
    have hq := hS'.1
    have hq2 := hS'.2
    clear hS'
    go_simp
  clear ho
  try simp only [Act.put, List.getElem_toArray, List.getElem_cons_zero, List.getElem_cons_succ, List.setIfInBounds_toArray, List.set_cons_zero, List.set_cons_succ]
  have ho : opsM[11]? = some (opAt opsM 11) := by kernel_rfl
  conv at ho => rhs; arg 1; whnf
  refine wpAnyH_take (i := 11) (v := ?_) ho (by kernel_rfl) (by kernel_rfl) (by kernel_rfl) (fun _ _ _ h => h) (Or.inl ⟨by kernel_rfl, ?_⟩) hS ?_
  clear ho
  rotate_left
  · intro w' hS'
    have hq := hS'.1
    have hq2 := hS'.2
    clear hS'
    first | (go_simp; done) | (go_simp; with_reducible rfl)
  try clear ho
  try simp only [Act.put, List.getElem_toArray, List.getElem_cons_zero, List.getElem_cons_succ, List.setIfInBounds_toArray, List.set_cons_zero, List.set_cons_succ]
  have ho : opsM[12]? = some (opAt opsM 12) := by kernel_rfl
  conv at ho => rhs; arg 1; whnf
  refine wpAnyH_take (i := 12) (v := ?_) ho (by kernel_rfl) (by kernel_rfl) (by kernel_rfl) (fun _ _ _ h => h) (Or.inl ⟨by kernel_rfl, ?_⟩) hS ?_
  clear ho
  rotate_left
  · intro w' hS'
    have hq := hS'.1
    have hq2 := hS'.2
    clear hS'
    first | (go_simp; done) | (go_simp; with_reducible rfl)
  try clear ho
  try simp only [Act.put, List.getElem_toArray, List.getElem_cons_zero, List.getElem_cons_succ, List.setIfInBounds_toArray, List.set_cons_zero, List.set_cons_succ]
  have ho : opsM[13]? = some (opAt opsM 13) := by kernel_rfl
  conv at ho => rhs; arg 1; whnf
  refine wpAnyH_take (i := 13) (v := ?_) ho (by kernel_rfl) (by kernel_rfl) (by kernel_rfl) (fun _ _ _ h => h) (Or.inl ⟨by kernel_rfl, ?_⟩) hS ?_
  clear ho
  rotate_left
  · intro w' hS'
    have hq := hS'.1
    have hq2 := hS'.2
    clear hS'
    first | (go_simp; done) | (go_simp; with_reducible rfl)
  try clear ho
  try simp only [Act.put, List.getElem_toArray, List.getElem_cons_zero, List.getElem_cons_succ, List.setIfInBounds_toArray, List.set_cons_zero, List.set_cons_succ]
  have ho : opsM[14]? = some (opAt opsM 14) := by kernel_rfl
  conv at ho => rhs; arg 1; whnf
  refine wpAnyH_take (i := 14) (v := ?_) ho (by kernel_rfl) (by kernel_rfl) (by kernel_rfl) (fun _ _ _ h => h) (Or.inl ⟨by kernel_rfl, ?_⟩) hS ?_
  clear ho
  rotate_left
  · intro w' hS'
    have hq := hS'.1
    have hq2 := hS'.2
    clear hS'
    first | (go_simp; done) | (go_simp; with_reducible rfl)
  try clear ho
  try simp only [Act.put, List.getElem_toArray, List.getElem_cons_zero, List.getElem_cons_succ, List.setIfInBounds_toArray, List.set_cons_zero, List.set_cons_succ]
  have ho : opsM[15]? = some (opAt opsM 15) := by kernel_rfl
  conv at ho => rhs; arg 1; whnf
  refine wpAnyH_take (i := 15) (v := ?_) ho (by kernel_rfl) (by kernel_rfl) (by kernel_rfl) (fun _ _ _ h => h) (Or.inl ⟨by kernel_rfl, ?_⟩) hS ?_
  clear ho
  rotate_left
  · intro w' hS'
    have hq := hS'.1
    have hq2 := hS'.2
    clear hS'
    first | (go_simp; done) | (go_simp; with_reducible rfl)
  try clear ho
  try simp only [Act.put, List.getElem_toArray, List.getElem_cons_zero, List.getElem_cons_succ, List.setIfInBounds_toArray, List.set_cons_zero, List.set_cons_succ]
  have ho : opsM[16]? = some (opAt opsM 16) := by kernel_rfl
  conv at ho => rhs; arg 1; whnf
  refine wpAnyH_take (i := 16) (v := ?_) ho (by kernel_rfl) (by kernel_rfl) (by kernel_rfl) (fun _ _ _ h => h) (Or.inl ⟨by kernel_rfl, ?_⟩) hS ?_
  clear ho
  rotate_left
  · intro w' hS'
    have hq := hS'.1
    have hq2 := hS'.2
    clear hS'
    first | (go_simp; done) | (go_simp; with_reducible rfl)
  try clear ho
  try simp only [Act.put, List.getElem_toArray, List.getElem_cons_zero, List.getElem_cons_succ, List.setIfInBounds_toArray, List.set_cons_zero, List.set_cons_succ]
  have ho : opsM[17]? = some (opAt opsM 17) := by kernel_rfl
  conv at ho => rhs; arg 1; whnf
  refine wpAnyH_take (i := 17) (v := ?_) ho (by kernel_rfl) (by kernel_rfl) (by kernel_rfl) (fun _ _ _ h => h) (Or.inl ⟨by kernel_rfl, ?_⟩) hS ?_
  clear ho
  rotate_left
  · intro w' hS'
    have hq := hS'.1
    have hq2 := hS'.2
    clear hS'
    first | (go_simp; done) | (go_simp; with_reducible rfl)
  try clear ho
  try simp only [Act.put, List.getElem_toArray, List.getElem_cons_zero, List.getElem_cons_succ, List.setIfInBounds_toArray, List.set_cons_zero, List.set_cons_succ]
  have ho : opsM[18]? = some (opAt opsM 18) := by kernel_rfl
  conv at ho => rhs; arg 1; whnf
  refine wpAnyH_take (i := 18) (v := ?_) ho (by kernel_rfl) (by kernel_rfl) (by kernel_rfl) (fun _ _ _ h => h) (Or.inl ⟨by kernel_rfl, ?_⟩) hS ?_
  clear ho
  rotate_left
  · intro w' hS'
    have hq := hS'.1
    have hq2 := hS'.2
    clear hS'
    first | (go_simp; done) | (go_simp; with_reducible rfl)
  try clear ho
  try simp only [Act.put, List.getElem_toArray, List.getElem_cons_zero, List.getElem_cons_succ, List.setIfInBounds_toArray, List.set_cons_zero, List.set_cons_succ]
  have ho : opsM[19]? = some (opAt opsM 19) := by kernel_rfl
  conv at ho => rhs; arg 1; whnf
  refine wpAnyH_take (i := 19) (v := ?_) ho (by kernel_rfl) (by kernel_rfl) (by kernel_rfl) (fun _ _ _ h => h) (Or.inl ⟨by kernel_rfl, ?_⟩) hS ?_
  clear ho
  rotate_left
  · intro w' hS'
    have hq := hS'.1
    have hq2 := hS'.2
    clear hS'
    first | (go_simp; done) | (go_simp; with_reducible rfl)
  try clear ho
  try simp only [Act.put, List.getElem_toArray, List.getElem_cons_zero, List.getElem_cons_succ, List.setIfInBounds_toArray, List.set_cons_zero, List.set_cons_succ]
  have ho : opsM[21]? = some (opAt opsM 21) := by kernel_rfl
  conv at ho => rhs; arg 1; whnf
  refine wpAnyH_take (i := 21) (v := ?_) ho (by kernel_rfl) (by kernel_rfl) (by kernel_rfl) (fun _ _ _ h => h) (Or.inl ⟨by kernel_rfl, ?_⟩) hS ?_
  clear ho
  rotate_left
  · intro w' hS'
    have hq := hS'.1
    have hq2 := hS'.2
    clear hS'
    first | (go_simp; done) | (go_simp; with_reducible rfl)
  try clear ho
  try simp only [Act.put, List.getElem_toArray, List.getElem_cons_zero, List.getElem_cons_succ, List.setIfInBounds_toArray, List.set_cons_zero, List.set_cons_succ]
  have ho : opsM[22]? = some (opAt opsM 22) := by kernel_rfl
  conv at ho => rhs; arg 1; whnf
  refine wpAnyH_take (i := 22) (v := ?_) ho (by kernel_rfl) (by kernel_rfl) (by kernel_rfl) (fun _ _ _ h => h) (Or.inl ⟨by kernel_rfl, ?_⟩) hS ?_
  clear ho
  rotate_left
  · intro w' hS'
    have hq := hS'.1
    have hq2 := hS'.2
    clear hS'
    first | (go_simp; done) | (go_simp; with_reducible rfl)
  try clear ho
  try simp only [Act.put, List.getElem_toArray, List.getElem_cons_zero, List.getElem_cons_succ, List.setIfInBounds_toArray, List.set_cons_zero, List.set_cons_succ]
  have ho : opsM[23]? = some (opAt opsM 23) := by kernel_rfl
  conv at ho => rhs; arg 1; whnf
  refine wpAnyH_take (i := 23) (v := ?_) ho (by kernel_rfl) (by kernel_rfl) (by kernel_rfl) (fun _ _ _ h => h) (Or.inl ⟨by kernel_rfl, ?_⟩) hS ?_
  clear ho
  rotate_left
  · intro w' hS'
    have hq := hS'.1
    have hq2 := hS'.2
    clear hS'
    first | (go_simp; done) | (go_simp; with_reducible rfl)
  try clear ho
  try simp only [Act.put, List.getElem_toArray, List.getElem_cons_zero, List.getElem_cons_succ, List.setIfInBounds_toArray, List.set_cons_zero, List.set_cons_succ]
  have ho : opsM[24]? = some (opAt opsM 24) := by kernel_rfl
  conv at ho => rhs; arg 1; whnf
  refine wpAnyH_take (i := 24) (v := ?_) ho (by kernel_rfl) (by kernel_rfl) (by kernel_rfl) (fun _ _ _ h => h) (Or.inl ⟨by kernel_rfl, ?_⟩) hS ?_
  clear ho
  rotate_left
  · intro w' hS'
    have hq := hS'.1
    have hq2 := hS'.2
    clear hS'
    first | (go_simp; done) | (go_simp; with_reducible rfl)
  try clear ho
  try simp only [Act.put, List.getElem_toArray, List.getElem_cons_zero, List.getElem_cons_succ, List.setIfInBounds_toArray, List.set_cons_zero, List.set_cons_succ]
  have ho : opsM[25]? = some (opAt opsM 25) := by kernel_rfl
  conv at ho => rhs; arg 1; whnf
  refine wpAnyH_take (i := 25) (v := ?_) ho (by kernel_rfl) (by kernel_rfl) (by kernel_rfl) (fun _ _ _ h => h) (Or.inl ⟨by kernel_rfl, ?_⟩) hS ?_
  clear ho
  rotate_left
  · intro w' hS'
    have hq := hS'.1
    have hq2 := hS'.2
    clear hS'
    first | (go_simp; done) | (go_simp; with_reducible rfl)
  try clear ho
  try simp only [Act.put, List.getElem_toArray, List.getElem_cons_zero, List.getElem_cons_succ, List.setIfInBounds_toArray, List.set_cons_zero, List.set_cons_succ]
  have ho : opsM[26]? = some (opAt opsM 26) := by kernel_rfl
  conv at ho => rhs; arg 1; whnf
  refine wpAnyH_take (i := 26) (v := ?_) ho (by kernel_rfl) (by kernel_rfl) (by kernel_rfl) (fun _ _ _ h => h) (Or.inl ⟨by kernel_rfl, ?_⟩) hS ?_
  clear ho
  rotate_left
  · intro w' hS'
    have hq := hS'.1
    have hq2 := hS'.2
    clear hS'
    first | (go_simp; done) | (go_simp; with_reducible rfl)
  try clear ho
  try simp only [Act.put, List.getElem_toArray, List.getElem_cons_zero, List.getElem_cons_succ, List.setIfInBounds_toArray, List.set_cons_zero, List.set_cons_succ]
  have ho : opsM[27]? = some (opAt opsM 27) := by kernel_rfl
  conv at ho => rhs; arg 1; whnf
  refine wpAnyH_take (i := 27) (v := ?_) ho (by kernel_rfl) (by kernel_rfl) (by kernel_rfl) (fun _ _ _ h => h) (Or.inl ⟨by kernel_rfl, ?_⟩) hS ?_
  clear ho
  rotate_left
  · intro w' hS'
    have hq := hS'.1
    have hq2 := hS'.2
    clear hS'
    first | (go_simp; done) | (go_simp; with_reducible rfl)
  try clear ho
  try simp only [Act.put, List.getElem_toArray, List.getElem_cons_zero, List.getElem_cons_succ, List.setIfInBounds_toArray, List.set_cons_zero, List.set_cons_succ]
  have ho : opsM[20]? = some (opAt opsM 20) := by kernel_rfl
  conv at ho => rhs; arg 1; whnf
  refine wpAnyH_ready (rs := [20]) (by kernel_rfl) (by simp) ?_
  refine AllReadyH.cons ho (fun K hK => ?_) AllReadyH.nil
  clear ho
  rw [if_pos (by kernel_rfl)]
  go_simp
  go_at_call 26
  refine (H26 _).mono ?_
  rintro e w5 ⟨rfl, hk⟩
  try dsimp only
  have k5 : Below W.heap.size W w5 := hS.2.trans (hk.mono hS.2.size)
  refine hK.out _ _ ?_ (fun hS => ?_)
  · exact ⟨(bcell k5).1, k5⟩
  clear hK K hk k5
  try simp only [Act.put, List.getElem_toArray, List.getElem_cons_zero, List.getElem_cons_succ, List.setIfInBounds_toArray, List.set_cons_zero, List.set_cons_succ]
  have ho : opsM[28]? = some (opAt opsM 28) := by kernel_rfl
  conv at ho => rhs; arg 1; whnf
  refine wpAnyH_take (i := 28) (v := .bool true) ho (by kernel_rfl) (by kernel_rfl) (by kernel_rfl) (fun _ _ _ h => h) (Or.inl ⟨by kernel_rfl, ?_⟩) hS ?_
  · clear ho
    intro w' hS'
    have hq := hS'.1
    have hq2 := hS'.2
    clear hS'
    go_simp
  clear ho
  try simp only [Act.put, List.getElem_toArray, List.getElem_cons_zero, List.getElem_cons_succ, List.setIfInBounds_toArray, List.set_cons_zero, List.set_cons_succ]
  have ho : opsM[29]? = some (opAt opsM 29) := by kernel_rfl
  conv at ho => rhs; arg 1; whnf
  refine wpAnyH_take (i := 29) (v := ?_) ho (by kernel_rfl) (by kernel_rfl) (by kernel_rfl) (fun _ _ _ h => h) (Or.inl ⟨by kernel_rfl, ?_⟩) hS ?_
  clear ho
  rotate_left
  · intro w' hS'
    have hq := hS'.1
    have hq2 := hS'.2
    clear hS'
    first | (go_simp; done) | (go_simp; with_reducible rfl)
  try clear ho
  try simp only [Act.put, List.getElem_toArray, List.getElem_cons_zero, List.getElem_cons_succ, List.setIfInBounds_toArray, List.set_cons_zero, List.set_cons_succ]
  have ho : opsM[30]? = some (opAt opsM 30) := by kernel_rfl
  conv at ho => rhs; arg 1; whnf
  refine wpAnyH_take (i := 30) (v := ?_) ho (by kernel_rfl) (by kernel_rfl) (by kernel_rfl) (fun _ _ _ h => h) (Or.inl ⟨by kernel_rfl, ?_⟩) hS ?_
  clear ho
  rotate_left
  · intro w' hS'
    have hq := hS'.1
    have hq2 := hS'.2
    clear hS'
    first | (go_simp; done) | (go_simp; with_reducible rfl)
  try clear ho
  try simp only [Act.put, List.getElem_toArray, List.getElem_cons_zero, List.getElem_cons_succ, List.setIfInBounds_toArray, List.set_cons_zero, List.set_cons_succ]
  have ho : opsM[31]? = some (opAt opsM 31) := by kernel_rfl
  conv at ho => rhs; arg 1; whnf
  refine wpAnyH_take (i := 31) (v := ?_) ho (by kernel_rfl) (by kernel_rfl) (by kernel_rfl) (fun _ _ _ h => h) (Or.inl ⟨by kernel_rfl, ?_⟩) hS ?_
  clear ho
  rotate_left
  · intro w' hS'
    have hq := hS'.1
    have hq2 := hS'.2
    clear hS'
    first | (go_simp; done) | (go_simp; with_reducible rfl)
  try clear ho
  try simp only [Act.put, List.getElem_toArray, List.getElem_cons_zero, List.getElem_cons_succ, List.setIfInBounds_toArray, List.set_cons_zero, List.set_cons_succ]
  have ho : opsM[32]? = some (opAt opsM 32) := by kernel_rfl
  conv at ho => rhs; arg 1; whnf
  refine wpAnyH_take (i := 32) (v := ?_) ho (by kernel_rfl) (by kernel_rfl) (by kernel_rfl) (fun _ _ _ h => h) (Or.inl ⟨by kernel_rfl, ?_⟩) hS ?_
  clear ho
  rotate_left
  · intro w' hS'
    have hq := hS'.1
    have hq2 := hS'.2
    clear hS'
    first | (go_simp; done) | (go_simp; with_reducible rfl)
  try clear ho
  try simp only [Act.put, List.getElem_toArray, List.getElem_cons_zero, List.getElem_cons_succ, List.setIfInBounds_toArray, List.set_cons_zero, List.set_cons_succ]
  have ho : opsM[34]? = some (opAt opsM 34) := by kernel_rfl
  conv at ho => rhs; arg 1; whnf
  refine wpAnyH_take (i := 34) (v := ?_) ho (by kernel_rfl) (by kernel_rfl) (by kernel_rfl) (fun _ _ _ h => h) (Or.inl ⟨by kernel_rfl, ?_⟩) hS ?_
  clear ho
  rotate_left
  · intro w' hS'
    have hq := hS'.1
    have hq2 := hS'.2
    clear hS'
    first | (go_simp; done) | (go_simp; with_reducible rfl)
  try clear ho
  try simp only [Act.put, List.getElem_toArray, List.getElem_cons_zero, List.getElem_cons_succ, List.setIfInBounds_toArray, List.set_cons_zero, List.set_cons_succ]
  have ho : opsM[35]? = some (opAt opsM 35) := by kernel_rfl
  conv at ho => rhs; arg 1; whnf
  refine wpAnyH_take (i := 35) (v := ?_) ho (by kernel_rfl) (by kernel_rfl) (by kernel_rfl) (fun _ _ _ h => h) (Or.inl ⟨by kernel_rfl, ?_⟩) hS ?_
  clear ho
  rotate_left
  · intro w' hS'
    have hq := hS'.1
    have hq2 := hS'.2
    clear hS'
    first | (go_simp; done) | (go_simp; with_reducible rfl)
  try clear ho
  try simp only [Act.put, List.getElem_toArray, List.getElem_cons_zero, List.getElem_cons_succ, List.setIfInBounds_toArray, List.set_cons_zero, List.set_cons_succ]
  have ho : opsM[36]? = some (opAt opsM 36) := by kernel_rfl
  conv at ho => rhs; arg 1; whnf
  refine wpAnyH_take (i := 36) (v := ?_) ho (by kernel_rfl) (by kernel_rfl) (by kernel_rfl) (fun _ _ _ h => h) (Or.inl ⟨by kernel_rfl, ?_⟩) hS ?_
  clear ho
  rotate_left
  · intro w' hS'
    have hq := hS'.1
    have hq2 := hS'.2
    clear hS'
    first | (go_simp; done) | (go_simp; with_reducible rfl)
  try clear ho
  try simp only [Act.put, List.getElem_toArray, List.getElem_cons_zero, List.getElem_cons_succ, List.setIfInBounds_toArray, List.set_cons_zero, List.set_cons_succ]
  have ho : opsM[37]? = some (opAt opsM 37) := by kernel_rfl
  conv at ho => rhs; arg 1; whnf
  refine wpAnyH_take (i := 37) (v := ?_) ho (by kernel_rfl) (by kernel_rfl) (by kernel_rfl) (fun _ _ _ h => h) (Or.inl ⟨by kernel_rfl, ?_⟩) hS ?_
  clear ho
  rotate_left
  · intro w' hS'
    have hq := hS'.1
    have hq2 := hS'.2
    clear hS'
    first | (go_simp; done) | (go_simp; with_reducible rfl)
  try clear ho
  try simp only [Act.put, List.getElem_toArray, List.getElem_cons_zero, List.getElem_cons_succ, List.setIfInBounds_toArray, List.set_cons_zero, List.set_cons_succ]
  have ho : opsM[33]? = some (opAt opsM 33) := by kernel_rfl
  conv at ho => rhs; arg 1; whnf
  refine wpAnyH_ready (rs := [33]) (by kernel_rfl) (by simp) ?_
  refine AllReadyH.cons ho (fun K hK => ?_) AllReadyH.nil
  clear ho
  rw [if_pos (by kernel_rfl)]
  go_simp
  go_at_call 27
  refine (H27 _).mono ?_
  rintro e w5 ⟨rfl, hk⟩
  try dsimp only
  have k5 : Below W.heap.size W w5 := hS.2.trans (hk.mono hS.2.size)
  refine hK.out _ _ ?_ (fun hS => ?_)
  · exact ⟨(bcell k5).1, k5⟩
  clear hK K hk k5
  try simp only [Act.put, List.getElem_toArray, List.getElem_cons_zero, List.getElem_cons_succ, List.setIfInBounds_toArray, List.set_cons_zero, List.set_cons_succ]
  have ho : opsM[38]? = some (opAt opsM 38) := by kernel_rfl
  conv at ho => rhs; arg 1; whnf
  refine wpAnyH_take (i := 38) (v := .bool true) ho (by kernel_rfl) (by kernel_rfl) (by kernel_rfl) (fun _ _ _ h => h) (Or.inl ⟨by kernel_rfl, ?_⟩) hS ?_
  · clear ho
    intro w' hS'
    have hq := hS'.1
    have hq2 := hS'.2
    clear hS'
    go_simp
  clear ho
  try simp only [Act.put, List.getElem_toArray, List.getElem_cons_zero, List.getElem_cons_succ, List.setIfInBounds_toArray, List.set_cons_zero, List.set_cons_succ]
  have ho : opsM[39]? = some (opAt opsM 39) := by kernel_rfl
  conv at ho => rhs; arg 1; whnf
  refine wpAnyH_take (i := 39) (v := ?_) ho (by kernel_rfl) (by kernel_rfl) (by kernel_rfl) (fun _ _ _ h => h) (Or.inl ⟨by kernel_rfl, ?_⟩) hS ?_
  clear ho
  rotate_left
  · intro w' hS'
    have hq := hS'.1
    have hq2 := hS'.2
    clear hS'
    first | (go_simp; done) | (go_simp; with_reducible rfl)
  try clear ho
  try simp only [Act.put, List.getElem_toArray, List.getElem_cons_zero, List.getElem_cons_succ, List.setIfInBounds_toArray, List.set_cons_zero, List.set_cons_succ]
  have ho : opsM[40]? = some (opAt opsM 40) := by kernel_rfl
  conv at ho => rhs; arg 1; whnf
  refine wpAnyH_take (i := 40) (v := ?_) ho (by kernel_rfl) (by kernel_rfl) (by kernel_rfl) (fun _ _ _ h => h) (Or.inl ⟨by kernel_rfl, ?_⟩) hS ?_
  clear ho
  rotate_left
  · intro w' hS'
    have hq := hS'.1
    have hq2 := hS'.2
    clear hS'
    first | (go_simp; done) | (go_simp; with_reducible rfl)
  try clear ho
  try simp only [Act.put, List.getElem_toArray, List.getElem_cons_zero, List.getElem_cons_succ, List.setIfInBounds_toArray, List.set_cons_zero, List.set_cons_succ]
  have ho : opsM[41]? = some (opAt opsM 41) := by kernel_rfl
  conv at ho => rhs; arg 1; whnf
  refine wpAnyH_take (i := 41) (v := ?_) ho (by kernel_rfl) (by kernel_rfl) (by kernel_rfl) (fun _ _ _ h => h) (Or.inl ⟨by kernel_rfl, ?_⟩) hS ?_
  clear ho
  rotate_left
  · intro w' hS'
    have hq := hS'.1
    have hq2 := hS'.2
    clear hS'
    first | (go_simp; done) | (go_simp; with_reducible rfl)
  try clear ho
  try simp only [Act.put, List.getElem_toArray, List.getElem_cons_zero, List.getElem_cons_succ, List.setIfInBounds_toArray, List.set_cons_zero, List.set_cons_succ]
  have ho : opsM[42]? = some (opAt opsM 42) := by kernel_rfl
  conv at ho => rhs; arg 1; whnf
  refine wpAnyH_take (i := 42) (v := ?_) ho (by kernel_rfl) (by kernel_rfl) (by kernel_rfl) (fun _ _ _ h => h) (Or.inl ⟨by kernel_rfl, ?_⟩) hS ?_
  clear ho
  rotate_left
  · intro w' hS'
    have hq := hS'.1
    have hq2 := hS'.2
    clear hS'
    first | (go_simp; done) | (go_simp; with_reducible rfl)
  try clear ho
  try simp only [Act.put, List.getElem_toArray, List.getElem_cons_zero, List.getElem_cons_succ, List.setIfInBounds_toArray, List.set_cons_zero, List.set_cons_succ]
  have ho : opsM[43]? = some (opAt opsM 43) := by kernel_rfl
  conv at ho => rhs; arg 1; whnf
  refine wpAnyH_take (i := 43) (v := ?_) ho (by kernel_rfl) (by kernel_rfl) (by kernel_rfl) (fun _ _ _ h => h) (Or.inl ⟨by kernel_rfl, ?_⟩) hS ?_
  clear ho
  rotate_left
  · intro w' hS'
    have hq := hS'.1
    have hq2 := hS'.2
    clear hS'
    first | (go_simp; done) | (go_simp; with_reducible rfl)
  try clear ho
  try simp only [Act.put, List.getElem_toArray, List.getElem_cons_zero, List.getElem_cons_succ, List.setIfInBounds_toArray, List.set_cons_zero, List.set_cons_succ]
  have ho : opsM[44]? = some (opAt opsM 44) := by kernel_rfl
  conv at ho => rhs; arg 1; whnf
  refine wpAnyH_take (i := 44) (v := ?_) ho (by kernel_rfl) (by kernel_rfl) (by kernel_rfl) (fun _ _ _ h => h) (Or.inl ⟨by kernel_rfl, ?_⟩) hS ?_
  clear ho
  rotate_left
  · intro w' hS'
    have hq := hS'.1
    have hq2 := hS'.2
    clear hS'
    first | (go_simp; done) | (go_simp; with_reducible rfl)
  try clear ho
  try simp only [Act.put, List.getElem_toArray, List.getElem_cons_zero, List.getElem_cons_succ, List.setIfInBounds_toArray, List.set_cons_zero, List.set_cons_succ]
  have ho : opsM[45]? = some (opAt opsM 45) := by kernel_rfl
  conv at ho => rhs; arg 1; whnf
  refine wpAnyH_take (i := 45) (v := ?_) ho (by kernel_rfl) (by kernel_rfl) (by kernel_rfl) (fun _ _ _ h => h) (Or.inl ⟨by kernel_rfl, ?_⟩) hS ?_
  clear ho
  rotate_left
  · intro w' hS'
    have hq := hS'.1
    have hq2 := hS'.2
    clear hS'
    first | (go_simp; done) | (go_simp; with_reducible rfl)
  try clear ho
  try simp only [Act.put, List.getElem_toArray, List.getElem_cons_zero, List.getElem_cons_succ, List.setIfInBounds_toArray, List.set_cons_zero, List.set_cons_succ]
  have ho : opsM[46]? = some (opAt opsM 46) := by kernel_rfl
  conv at ho => rhs; arg 1; whnf
  refine wpAnyH_take (i := 46) (v := ?_) ho (by kernel_rfl) (by kernel_rfl) (by kernel_rfl) (fun _ _ _ h => h) (Or.inl ⟨by kernel_rfl, ?_⟩) hS ?_
  clear ho
  rotate_left
  · intro w' hS'
    have hq := hS'.1
    have hq2 := hS'.2
    clear hS'
    first | (go_simp; done) | (go_simp; with_reducible rfl)
  try clear ho
  try simp only [Act.put, List.getElem_toArray, List.getElem_cons_zero, List.getElem_cons_succ, List.setIfInBounds_toArray, List.set_cons_zero, List.set_cons_succ]
  have ho : opsM[47]? = some (opAt opsM 47) := by kernel_rfl
  conv at ho => rhs; arg 1; whnf
  refine wpAnyH_take (i := 47) (v := ?_) ho (by kernel_rfl) (by kernel_rfl) (by kernel_rfl) (fun _ _ _ h => h) (Or.inl ⟨by kernel_rfl, ?_⟩) hS ?_
  clear ho
  rotate_left
  · intro w' hS'
    have hq := hS'.1
    have hq2 := hS'.2
    clear hS'
    first | (go_simp; done) | (go_simp; with_reducible rfl)
  try clear ho
  try simp only [Act.put, List.getElem_toArray, List.getElem_cons_zero, List.getElem_cons_succ, List.setIfInBounds_toArray, List.set_cons_zero, List.set_cons_succ]
  have ho : opsM[48]? = some (opAt opsM 48) := by kernel_rfl
  conv at ho => rhs; arg 1; whnf
  refine wpAnyH_take (i := 48) (v := ?_) ho (by kernel_rfl) (by kernel_rfl) (by kernel_rfl) (fun _ _ _ h => h) (Or.inl ⟨by kernel_rfl, ?_⟩) hS ?_
  clear ho
  rotate_left
  · intro w' hS'
    have hq := hS'.1
    have hq2 := hS'.2
    clear hS'
    first | (go_simp; done) | (go_simp; with_reducible rfl)
  try clear ho
  try simp only [Act.put, List.getElem_toArray, List.getElem_cons_zero, List.getElem_cons_succ, List.setIfInBounds_toArray, List.set_cons_zero, List.set_cons_succ]
  have ho : opsM[50]? = some (opAt opsM 50) := by kernel_rfl
  conv at ho => rhs; arg 1; whnf
  refine wpAnyH_take (i := 50) (v := ?_) ho (by kernel_rfl) (by kernel_rfl) (by kernel_rfl) (fun _ _ _ h => h) (Or.inl ⟨by kernel_rfl, ?_⟩) hS ?_
  clear ho
  rotate_left
  · intro w' hS'
    have hq := hS'.1
    have hq2 := hS'.2
    clear hS'
    first | (go_simp; done) | (go_simp; with_reducible rfl)
  try clear ho
  try simp only [Act.put, List.getElem_toArray, List.getElem_cons_zero, List.getElem_cons_succ, List.setIfInBounds_toArray, List.set_cons_zero, List.set_cons_succ]
  have ho : opsM[51]? = some (opAt opsM 51) := by kernel_rfl
  conv at ho => rhs; arg 1; whnf
  refine wpAnyH_take (i := 51) (v := ?_) ho (by kernel_rfl) (by kernel_rfl) (by kernel_rfl) (fun _ _ _ h => h) (Or.inl ⟨by kernel_rfl, ?_⟩) hS ?_
  clear ho
  rotate_left
  · intro w' hS'
    have hq := hS'.1
    have hq2 := hS'.2
    clear hS'
    first | (go_simp; done) | (go_simp; with_reducible rfl)
  try clear ho
  try simp only [Act.put, List.getElem_toArray, List.getElem_cons_zero, List.getElem_cons_succ, List.setIfInBounds_toArray, List.set_cons_zero, List.set_cons_succ]
  have ho : opsM[52]? = some (opAt opsM 52) := by kernel_rfl
  conv at ho => rhs; arg 1; whnf
  refine wpAnyH_take (i := 52) (v := ?_) ho (by kernel_rfl) (by kernel_rfl) (by kernel_rfl) (fun _ _ _ h => h) (Or.inl ⟨by kernel_rfl, ?_⟩) hS ?_
  clear ho
  rotate_left
  · intro w' hS'
    have hq := hS'.1
    have hq2 := hS'.2
    clear hS'
    first | (go_simp; done) | (go_simp; with_reducible rfl)
  try clear ho
  try simp only [Act.put, List.getElem_toArray, List.getElem_cons_zero, List.getElem_cons_succ, List.setIfInBounds_toArray, List.set_cons_zero, List.set_cons_succ]
  have ho : opsM[53]? = some (opAt opsM 53) := by kernel_rfl
  conv at ho => rhs; arg 1; whnf
  refine wpAnyH_take (i := 53) (v := ?_) ho (by kernel_rfl) (by kernel_rfl) (by kernel_rfl) (fun _ _ _ h => h) (Or.inl ⟨by kernel_rfl, ?_⟩) hS ?_
  clear ho
  rotate_left
  · intro w' hS'
    have hq := hS'.1
    have hq2 := hS'.2
    clear hS'
    first | (go_simp; done) | (go_simp; with_reducible rfl)
  try clear ho
  try simp only [Act.put, List.getElem_toArray, List.getElem_cons_zero, List.getElem_cons_succ, List.setIfInBounds_toArray, List.set_cons_zero, List.set_cons_succ]
  have ho : opsM[54]? = some (opAt opsM 54) := by kernel_rfl
  conv at ho => rhs; arg 1; whnf
  refine wpAnyH_take (i := 54) (v := ?_) ho (by kernel_rfl) (by kernel_rfl) (by kernel_rfl) (fun _ _ _ h => h) (Or.inl ⟨by kernel_rfl, ?_⟩) hS ?_
  clear ho
  rotate_left
  · intro w' hS'
    have hq := hS'.1
    have hq2 := hS'.2
    clear hS'
    first | (go_simp; done) | (go_simp; with_reducible rfl)
  try clear ho
  try simp only [Act.put, List.getElem_toArray, List.getElem_cons_zero, List.getElem_cons_succ, List.setIfInBounds_toArray, List.set_cons_zero, List.set_cons_succ]
  have ho : opsM[55]? = some (opAt opsM 55) := by kernel_rfl
  conv at ho => rhs; arg 1; whnf
  refine wpAnyH_take (i := 55) (v := ?_) ho (by kernel_rfl) (by kernel_rfl) (by kernel_rfl) (fun _ _ _ h => h) (Or.inl ⟨by kernel_rfl, ?_⟩) hS ?_
  clear ho
  rotate_left
  · intro w' hS'
    have hq := hS'.1
    have hq2 := hS'.2
    clear hS'
    first | (go_simp; done) | (go_simp; with_reducible rfl)
  try clear ho
  try simp only [Act.put, List.getElem_toArray, List.getElem_cons_zero, List.getElem_cons_succ, List.setIfInBounds_toArray, List.set_cons_zero, List.set_cons_succ]
  have ho : opsM[56]? = some (opAt opsM 56) := by kernel_rfl
  conv at ho => rhs; arg 1; whnf
  refine wpAnyH_take (i := 56) (v := ?_) ho (by kernel_rfl) (by kernel_rfl) (by kernel_rfl) (fun _ _ _ h => h) (Or.inl ⟨by kernel_rfl, ?_⟩) hS ?_
  clear ho
  rotate_left
  · intro w' hS'
    have hq := hS'.1
    have hq2 := hS'.2
    clear hS'
    first | (go_simp; done) | (go_simp; with_reducible rfl)
  try clear ho
  try simp only [Act.put, List.getElem_toArray, List.getElem_cons_zero, List.getElem_cons_succ, List.setIfInBounds_toArray, List.set_cons_zero, List.set_cons_succ]
  have ho : opsM[57]? = some (opAt opsM 57) := by kernel_rfl
  conv at ho => rhs; arg 1; whnf
  refine wpAnyH_take (i := 57) (v := ?_) ho (by kernel_rfl) (by kernel_rfl) (by kernel_rfl) (fun _ _ _ h => h) (Or.inl ⟨by kernel_rfl, ?_⟩) hS ?_
  clear ho
  rotate_left
  · intro w' hS'
    have hq := hS'.1
    have hq2 := hS'.2
    clear hS'
    first | (go_simp; done) | (go_simp; with_reducible rfl)
  try clear ho
  try simp only [Act.put, List.getElem_toArray, List.getElem_cons_zero, List.getElem_cons_succ, List.setIfInBounds_toArray, List.set_cons_zero, List.set_cons_succ]
  have ho : opsM[58]? = some (opAt opsM 58) := by kernel_rfl
  conv at ho => rhs; arg 1; whnf
  refine wpAnyH_take (i := 58) (v := ?_) ho (by kernel_rfl) (by kernel_rfl) (by kernel_rfl) (fun _ _ _ h => h) (Or.inl ⟨by kernel_rfl, ?_⟩) hS ?_
  clear ho
  rotate_left
  · intro w' hS'
    have hq := hS'.1
    have hq2 := hS'.2
    clear hS'
    first | (go_simp; done) | (go_simp; with_reducible rfl)
  try clear ho
  try simp only [Act.put, List.getElem_toArray, List.getElem_cons_zero, List.getElem_cons_succ, List.setIfInBounds_toArray, List.set_cons_zero, List.set_cons_succ]
  have ho : opsM[59]? = some (opAt opsM 59) := by kernel_rfl
  conv at ho => rhs; arg 1; whnf
  refine wpAnyH_take (i := 59) (v := ?_) ho (by kernel_rfl) (by kernel_rfl) (by kernel_rfl) (fun _ _ _ h => h) (Or.inl ⟨by kernel_rfl, ?_⟩) hS ?_
  clear ho
  rotate_left
  · intro w' hS'
    have hq := hS'.1
    have hq2 := hS'.2
    clear hS'
    first | (go_simp; done) | (go_simp; with_reducible rfl)
  try clear ho
  try simp only [Act.put, List.getElem_toArray, List.getElem_cons_zero, List.getElem_cons_succ, List.setIfInBounds_toArray, List.set_cons_zero, List.set_cons_succ]
  have ho : opsM[60]? = some (opAt opsM 60) := by kernel_rfl
  conv at ho => rhs; arg 1; whnf
  refine wpAnyH_take (i := 60) (v := ?_) ho (by kernel_rfl) (by kernel_rfl) (by kernel_rfl) (fun _ _ _ h => h) (Or.inl ⟨by kernel_rfl, ?_⟩) hS ?_
  clear ho
  rotate_left
  · intro w' hS'
    have hq := hS'.1
    have hq2 := hS'.2
    clear hS'
    first | (go_simp; done) | (go_simp; with_reducible rfl)
  try clear ho
  try simp only [Act.put, List.getElem_toArray, List.getElem_cons_zero, List.getElem_cons_succ, List.setIfInBounds_toArray, List.set_cons_zero, List.set_cons_succ]
  have ho : opsM[61]? = some (opAt opsM 61) := by kernel_rfl
  conv at ho => rhs; arg 1; whnf
  refine wpAnyH_take (i := 61) (v := ?_) ho (by kernel_rfl) (by kernel_rfl) (by kernel_rfl) (fun _ _ _ h => h) (Or.inl ⟨by kernel_rfl, ?_⟩) hS ?_
  clear ho
  rotate_left
  · intro w' hS'
    have hq := hS'.1
    have hq2 := hS'.2
    clear hS'
    first | (go_simp; done) | (go_simp; with_reducible rfl)
  try clear ho
  try simp only [Act.put, List.getElem_toArray, List.getElem_cons_zero, List.getElem_cons_succ, List.setIfInBounds_toArray, List.set_cons_zero, List.set_cons_succ]
  have ho : opsM[62]? = some (opAt opsM 62) := by kernel_rfl
  conv at ho => rhs; arg 1; whnf
  refine wpAnyH_take (i := 62) (v := ?_) ho (by kernel_rfl) (by kernel_rfl) (by kernel_rfl) (fun _ _ _ h => h) (Or.inl ⟨by kernel_rfl, ?_⟩) hS ?_
  clear ho
  rotate_left
  · intro w' hS'
    have hq := hS'.1
    have hq2 := hS'.2
    clear hS'
    first | (go_simp; done) | (go_simp; with_reducible rfl)
  try clear ho
  try simp only [Act.put, List.getElem_toArray, List.getElem_cons_zero, List.getElem_cons_succ, List.setIfInBounds_toArray, List.set_cons_zero, List.set_cons_succ]
  have ho : opsM[49]? = some (opAt opsM 49) := by kernel_rfl
  conv at ho => rhs; arg 1; whnf
  refine wpAnyH_ready (rs := [49]) (by kernel_rfl) (by simp) ?_
  refine AllReadyH.cons ho (fun K hK => ?_) AllReadyH.nil
  clear ho
  rw [if_pos (by kernel_rfl)]
  go_simp
  go_at_call 28
  refine (H28 _).mono ?_
  rintro e w5 ⟨rfl, hk⟩
  try dsimp only
  have k5 : Below W.heap.size W w5 := hS.2.trans (hk.mono hS.2.size)
  refine hK.out _ _ ?_ (fun hS => ?_)
  · exact ⟨(bcell k5).1, k5⟩
  clear hK K hk k5
  try simp only [Act.put, List.getElem_toArray, List.getElem_cons_zero, List.getElem_cons_succ, List.setIfInBounds_toArray, List.set_cons_zero, List.set_cons_succ]
  have ho : opsM[63]? = some (opAt opsM 63) := by kernel_rfl
  conv at ho => rhs; arg 1; whnf
  refine wpAnyH_take (i := 63) (v := .bool true) ho (by kernel_rfl) (by kernel_rfl) (by kernel_rfl) (fun _ _ _ h => h) (Or.inl ⟨by kernel_rfl, ?_⟩) hS ?_
  · clear ho
    intro w' hS'
    have hq := hS'.1
    have hq2 := hS'.2
    clear hS'
    go_simp
  clear ho
  try simp only [Act.put, List.getElem_toArray, List.getElem_cons_zero, List.getElem_cons_succ, List.setIfInBounds_toArray, List.set_cons_zero, List.set_cons_succ]
  have ho : opsM[64]? = some (opAt opsM 64) := by kernel_rfl
  conv at ho => rhs; arg 1; whnf
  refine wpAnyH_take (i := 64) (v := ?_) ho (by kernel_rfl) (by kernel_rfl) (by kernel_rfl) (fun _ _ _ h => h) (Or.inl ⟨by kernel_rfl, ?_⟩) hS ?_
  clear ho
  rotate_left
  · intro w' hS'
    have hq := hS'.1
    have hq2 := hS'.2
    clear hS'
    first | (go_simp; done) | (go_simp; with_reducible rfl)
  try clear ho
  try simp only [Act.put, List.getElem_toArray, List.getElem_cons_zero, List.getElem_cons_succ, List.setIfInBounds_toArray, List.set_cons_zero, List.set_cons_succ]
  have ho : opsM[65]? = some (opAt opsM 65) := by kernel_rfl
  conv at ho => rhs; arg 1; whnf
  refine wpAnyH_take (i := 65) (v := ?_) ho (by kernel_rfl) (by kernel_rfl) (by kernel_rfl) (fun _ _ _ h => h) (Or.inl ⟨by kernel_rfl, ?_⟩) hS ?_
  clear ho
  rotate_left
  · intro w' hS'
    have hq := hS'.1
    have hq2 := hS'.2
    clear hS'
    first | (go_simp; done) | (go_simp; with_reducible rfl)
  try clear ho
  try simp only [Act.put, List.getElem_toArray, List.getElem_cons_zero, List.getElem_cons_succ, List.setIfInBounds_toArray, List.set_cons_zero, List.set_cons_succ]
  exact make_end w.heap.size false r a b p q x n w W _ hkW hTW hD r0 r1 a0 a1 b0 b1 p0 p1 q0 q1 x0 x1 n0 n1 H29 H30 H31 H32 hS _ (by assumption)
end Go.Proofs.YtfoeihbajichpaaDoor
