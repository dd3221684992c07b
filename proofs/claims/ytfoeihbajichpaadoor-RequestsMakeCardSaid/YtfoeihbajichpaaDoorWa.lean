

/- The law of the makers: its walk. The library's variables are as the program lays them. -/
import Derived.Test.YtfoeihbajichpaaDoorChecked
import Derived.Deep.RegionHeld3
import Derived.Deep.DrawnRows
import Derived.Deep.DeepCutAuto
import Derived.Deep.LoopGhost
import Derived.Outline
import Derived.Handy
import Derived.OwnWalk
import Derived.Laws.EntriesVeiled
import Derived.Test.YtfoeihbajichpaaDoorSq
import Derived.Test.YtfoeihbajichpaaDoorRk
set_option linter.unusedVariables false
set_option linter.unusedSimpArgs false
set_option linter.unusedSectionVars false
namespace Go.Proofs.YtfoeihbajichpaaDoor
open Go.RowKit Go.Lib Go.Maps Go.WideShapes
attribute [local go_sem ↓] Go.wp_at_zero Go.wp_at_succ

noncomputable def codeM : Code := (Tryd.f9.body.bind (fromR 5)).getD .skip
noncomputable def opsM : Array Oper := opsOf (headC codeM)
set_option maxRecDepth 100000 in
set_option maxHeartbeats 16000000 in
theorem make_end {u0 u2 u3 u4 u5 u6 u7 u8 u9 u10 u11 u12 u13 u14 u15 u16 u17 u18 u19 u20 u21 u22 u23 u24 u25 u26 u27 u28 u29 u30 u31 u32 u33 u34 u35 u36 u37 u38 u39 u40 u41 u42 u43 u44 u45 u46 u47 u48 u49 u50 u51 u52 u53 u54 u55 u56 u57 u58 u59 u60 u61 u62 u63 u64 u65 u66 u67 u68 u69 u70 u71 u72 u73 u74 u76 u77 u78 u79 u80 u81 u82 u83 u84 u85 u86 u87 u88 u89 u90 u91 u92 u93 u94 u95 u96 u97 u98 u99 u100 u101 u102 u103 u104 u105 u106 u107 u108 u109 u110 u111 u112 u113 u114 u115 u116 u117 : Value} (D : Nat) (s : Bool) (r a b p q x n : Int) (w W w5 : World) (hkW : Kept w W) (hTW : Hid (Tabs W)) (hD : W.heap[D]? = some (.cells #[.bool s, .int .u8 r, .int .u8 a, .int .u8 b, .int .u16 p, .int .u16 q, .int .u16 x, .int .u16 n] 49 (0, 0))) (r0 : 0 ≤ r) (r1 : r < 256) (a0 : 0 ≤ a) (a1 : a < 256) (b0 : 0 ≤ b) (b1 : b < 256) (p0 : 0 ≤ p) (p1 : p < 65536) (q0 : 0 ≤ q) (q1 : q < 65536) (x0 : 0 ≤ x) (x1 : x < 65536) (n0 : 0 ≤ n) (n1 : n < 65536)
    (H29 : ∀ W, Calls Tryd.prog 29 #[.int .u8 a] W fun e w' => e = .returned (.agg #[.int .u8 (0), .int .u8 (9), .int .u16 (a), .int .u16 (0), .int .u16 (0)]) ∧ Kept W w') (H30 : ∀ W, Calls Tryd.prog 30 #[] W fun e w' => e = .returned (.agg #[.int .u8 (128), .int .u8 (8), .int .u16 (0), .int .u16 (0), .int .u16 (1)]) ∧ Kept W w') (H31 : ∀ W, Calls Tryd.prog 31 #[.int .u8 a, .int .u8 b] W fun e w' => e = .returned (.agg #[.int .u8 (1), .int .u8 (11), .int .u16 (b), .int .u16 (a), .int .u16 (0)]) ∧ Kept W w') (H32 : ∀ W, Calls Tryd.prog 32 #[.int .u8 a] W fun e w' => e = .returned (.agg #[.int .u8 (129), .int .u8 (10), .int .u16 (0), .int .u16 (a), .int .u16 (1)]) ∧ Kept W w')
    (hS : (∀ b o, b < W.heap.size → w5.cell? ⟨b, o, none⟩ = W.cell? ⟨b, o, none⟩) ∧ Below W.heap.size W w5)
    (K0 : Act → World → Prop) (hK0 : ∀ a w', Code.wp Tryd.prog (restC codeM) (bodyPost Tryd.prog Tryd.f9 fun e w' => e = .returned (.bool true) ∧ Kept w w') a w' → K0 a w') :
    wpAnyH Tryd.prog .any opsM (Exit.then K0 (bodyPost Tryd.prog Tryd.f9 fun e w' => e = .returned (.bool true) ∧ Kept w w')) (fun w' => (∀ b o, b < W.heap.size → w'.cell? ⟨b, o, none⟩ = W.cell? ⟨b, o, none⟩) ∧ Below W.heap.size W w') 43 (((((((((((((((((((((((((((((((((((((((((((((((((((((((((((((((((((Array.replicate 109 false).setIfInBounds 0 true).setIfInBounds 1 true).setIfInBounds 2 true).setIfInBounds 3 true).setIfInBounds 5 true).setIfInBounds 6 true).setIfInBounds 7 true).setIfInBounds 8 true).setIfInBounds 9 true).setIfInBounds 4 true).setIfInBounds 10 true).setIfInBounds 11 true).setIfInBounds 12 true).setIfInBounds 13 true).setIfInBounds 14 true).setIfInBounds 15 true).setIfInBounds 16 true).setIfInBounds 17 true).setIfInBounds 18 true).setIfInBounds 19 true).setIfInBounds 21 true).setIfInBounds 22 true).setIfInBounds 23 true).setIfInBounds 24 true).setIfInBounds 25 true).setIfInBounds 26 true).setIfInBounds 27 true).setIfInBounds 20 true).setIfInBounds 28 true).setIfInBounds 29 true).setIfInBounds 30 true).setIfInBounds 31 true).setIfInBounds 32 true).setIfInBounds 34 true).setIfInBounds 35 true).setIfInBounds 36 true).setIfInBounds 37 true).setIfInBounds 33 true).setIfInBounds 38 true).setIfInBounds 39 true).setIfInBounds 40 true).setIfInBounds 41 true).setIfInBounds 42 true).setIfInBounds 43 true).setIfInBounds 44 true).setIfInBounds 45 true).setIfInBounds 46 true).setIfInBounds 47 true).setIfInBounds 48 true).setIfInBounds 50 true).setIfInBounds 51 true).setIfInBounds 52 true).setIfInBounds 53 true).setIfInBounds 54 true).setIfInBounds 55 true).setIfInBounds 56 true).setIfInBounds 57 true).setIfInBounds 58 true).setIfInBounds 59 true).setIfInBounds 60 true).setIfInBounds 61 true).setIfInBounds 62 true).setIfInBounds 49 true).setIfInBounds 63 true).setIfInBounds 64 true).setIfInBounds 65 true) ⟨#[u0, .pointer (some ⟨D, 0, none⟩), u2, u3, u4, u5, u6, u7, u8, u9, u10, u11, u12, u13, u14, u15, u16, u17, u18, u19, u20, u21, u22, u23, u24, u25, u26, u27, u28, u29, u30, u31, u32, u33, u34, u35, u36, u37, u38, u39, u40, u41, u42, u43, u44, u45, u46, u47, u48, u49, u50, u51, u52, u53, u54, u55, u56, u57, u58, u59, u60, u61, u62, u63, u64, u65, u66, u67, u68, u69, u70, u71, u72, u73, u74, .bool true, u76, u77, u78, u79, u80, u81, u82, u83, u84, u85, u86, u87, u88, u89, u90, u91, u92, u93, u94, u95, u96, u97, u98, u99, u100, u101, u102, u103, u104, u105, u106, u107, u108, u109, u110, u111, u112, u113, u114, u115, u116, u117], []⟩ w5 := by
  conv at hK0 => enter [a, w', 1, 2]; whnf
  have m0 : 0 ≤ r % 32 := by omega
  have m1 : r % 32 < 32 := by omega
  have m2 : 0 ≤ 128 + r % 32 := by omega
  have m3 : 128 + r % 32 < 256 := by omega
  have m4 : 0 ≤ 256 * a := by omega
  have m5 : 256 * a < 65536 := by omega
  have m6 : 0 ≤ 256 * a + b := by omega
  have m7 : 256 * a + b < 65536 := by omega
  have hw1 : IntKind.u8.wrap (128 + r % 32) = 128 + r % 32 := by rw [IntKind.wrap_u8]; omega
  have hw2 : IntKind.u16.wrap a = a := by rw [IntKind.wrap_u16]; omega
  have hw3 : IntKind.u16.wrap b = b := by rw [IntKind.wrap_u16]; omega
  have hw4 : IntKind.u16.wrap (256 * a) = 256 * a := by rw [IntKind.wrap_u16]; omega
  have hw5 : IntKind.u16.wrap (256 * a + b) = 256 * a + b := by rw [IntKind.wrap_u16]; omega
  have d0 := cell_heap hD (o := 0) rfl
  have d1 := cell_heap hD (o := 1) rfl
  have d2 := cell_heap hD (o := 2) rfl
  have d3 := cell_heap hD (o := 3) rfl
  have d4 := cell_heap hD (o := 4) rfl
  have d5 := cell_heap hD (o := 5) rfl
  have d6 := cell_heap hD (o := 6) rfl
  have d7 := cell_heap hD (o := 7) rfl
  have hdl := heap_lt hD
  clear hD
  have ho : opsM[66]? = some (opAt opsM 66) := by kernel_rfl
  conv at ho => rhs; arg 1; whnf
  refine wpAnyH_take (i := 66) (v := ?_) ho (by kernel_rfl) (by kernel_rfl) (by kernel_rfl) (fun _ _ _ h => h) (Or.inl ⟨by kernel_rfl, ?_⟩) hS ?_
  clear ho
  rotate_left
  · intro w' hS'
    have hq := hS'.1
    have hq2 := hS'.2
    clear hS'
    first | (go_simp; done) | (go_simp; with_reducible rfl)
  try clear ho
  try simp only [Act.put, List.getElem_toArray, List.getElem_cons_zero, List.getElem_cons_succ, List.setIfInBounds_toArray, List.set_cons_zero, List.set_cons_succ]
  have ho : opsM[67]? = some (opAt opsM 67) := by kernel_rfl
  conv at ho => rhs; arg 1; whnf
  refine wpAnyH_take (i := 67) (v := ?_) ho (by kernel_rfl) (by kernel_rfl) (by kernel_rfl) (fun _ _ _ h => h) (Or.inl ⟨by kernel_rfl, ?_⟩) hS ?_
  clear ho
  rotate_left
  · intro w' hS'
    have hq := hS'.1
    have hq2 := hS'.2
    clear hS'
    first | (go_simp; done) | (go_simp; with_reducible rfl)
  try clear ho
  try simp only [Act.put, List.getElem_toArray, List.getElem_cons_zero, List.getElem_cons_succ, List.setIfInBounds_toArray, List.set_cons_zero, List.set_cons_succ]
  have ho : opsM[69]? = some (opAt opsM 69) := by kernel_rfl
  conv at ho => rhs; arg 1; whnf
  refine wpAnyH_take (i := 69) (v := ?_) ho (by kernel_rfl) (by kernel_rfl) (by kernel_rfl) (fun _ _ _ h => h) (Or.inl ⟨by kernel_rfl, ?_⟩) hS ?_
  clear ho
  rotate_left
  · intro w' hS'
    have hq := hS'.1
    have hq2 := hS'.2
    clear hS'
    first | (go_simp; done) | (go_simp; with_reducible rfl)
  try clear ho
  try simp only [Act.put, List.getElem_toArray, List.getElem_cons_zero, List.getElem_cons_succ, List.setIfInBounds_toArray, List.set_cons_zero, List.set_cons_succ]
  have ho : opsM[70]? = some (opAt opsM 70) := by kernel_rfl
  conv at ho => rhs; arg 1; whnf
  refine wpAnyH_take (i := 70) (v := ?_) ho (by kernel_rfl) (by kernel_rfl) (by kernel_rfl) (fun _ _ _ h => h) (Or.inl ⟨by kernel_rfl, ?_⟩) hS ?_
  clear ho
  rotate_left
  · intro w' hS'
    have hq := hS'.1
    have hq2 := hS'.2
    clear hS'
    first | (go_simp; done) | (go_simp; with_reducible rfl)
  try clear ho
  try simp only [Act.put, List.getElem_toArray, List.getElem_cons_zero, List.getElem_cons_succ, List.setIfInBounds_toArray, List.set_cons_zero, List.set_cons_succ]
  have ho : opsM[71]? = some (opAt opsM 71) := by kernel_rfl
  conv at ho => rhs; arg 1; whnf
  refine wpAnyH_take (i := 71) (v := ?_) ho (by kernel_rfl) (by kernel_rfl) (by kernel_rfl) (fun _ _ _ h => h) (Or.inl ⟨by kernel_rfl, ?_⟩) hS ?_
  clear ho
  rotate_left
  · intro w' hS'
    have hq := hS'.1
    have hq2 := hS'.2
    clear hS'
    first | (go_simp; done) | (go_simp; with_reducible rfl)
  try clear ho
  try simp only [Act.put, List.getElem_toArray, List.getElem_cons_zero, List.getElem_cons_succ, List.setIfInBounds_toArray, List.set_cons_zero, List.set_cons_succ]
  have ho : opsM[72]? = some (opAt opsM 72) := by kernel_rfl
  conv at ho => rhs; arg 1; whnf
  refine wpAnyH_take (i := 72) (v := ?_) ho (by kernel_rfl) (by kernel_rfl) (by kernel_rfl) (fun _ _ _ h => h) (Or.inl ⟨by kernel_rfl, ?_⟩) hS ?_
  clear ho
  rotate_left
  · intro w' hS'
    have hq := hS'.1
    have hq2 := hS'.2
    clear hS'
    first | (go_simp; done) | (go_simp; with_reducible rfl)
  try clear ho
  try simp only [Act.put, List.getElem_toArray, List.getElem_cons_zero, List.getElem_cons_succ, List.setIfInBounds_toArray, List.set_cons_zero, List.set_cons_succ]
  have ho : opsM[68]? = some (opAt opsM 68) := by kernel_rfl
  conv at ho => rhs; arg 1; whnf
  refine wpAnyH_ready (rs := [68]) (by kernel_rfl) (by simp) ?_
  refine AllReadyH.cons ho (fun K hK => ?_) AllReadyH.nil
  clear ho
  rw [if_pos (by kernel_rfl)]
  go_simp
  go_at_call 29
  refine (H29 _).mono ?_
  rintro e w5 ⟨rfl, hk⟩
  try dsimp only
  have k5 : Below W.heap.size W w5 := hS.2.trans (hk.mono hS.2.size)
  refine hK.out _ _ ?_ (fun hS => ?_)
  · exact ⟨(bcell k5).1, k5⟩
  clear hK K hk k5
  try simp only [Act.put, List.getElem_toArray, List.getElem_cons_zero, List.getElem_cons_succ, List.setIfInBounds_toArray, List.set_cons_zero, List.set_cons_succ]
  have ho : opsM[73]? = some (opAt opsM 73) := by kernel_rfl
  conv at ho => rhs; arg 1; whnf
  refine wpAnyH_take (i := 73) (v := .bool true) ho (by kernel_rfl) (by kernel_rfl) (by kernel_rfl) (fun _ _ _ h => h) (Or.inl ⟨by kernel_rfl, ?_⟩) hS ?_
  · clear ho
    intro w' hS'
    have hq := hS'.1
    have hq2 := hS'.2
    clear hS'
    go_simp
  clear ho
  try simp only [Act.put, List.getElem_toArray, List.getElem_cons_zero, List.getElem_cons_succ, List.setIfInBounds_toArray, List.set_cons_zero, List.set_cons_succ]
  have ho : opsM[74]? = some (opAt opsM 74) := by kernel_rfl
  conv at ho => rhs; arg 1; whnf
  refine wpAnyH_take (i := 74) (v := ?_) ho (by kernel_rfl) (by kernel_rfl) (by kernel_rfl) (fun _ _ _ h => h) (Or.inl ⟨by kernel_rfl, ?_⟩) hS ?_
  clear ho
  rotate_left
  · intro w' hS'
    have hq := hS'.1
    have hq2 := hS'.2
    clear hS'
    first | (go_simp; done) | (go_simp; with_reducible rfl)
  try clear ho
  try simp only [Act.put, List.getElem_toArray, List.getElem_cons_zero, List.getElem_cons_succ, List.setIfInBounds_toArray, List.set_cons_zero, List.set_cons_succ]
  have ho : opsM[75]? = some (opAt opsM 75) := by kernel_rfl
  conv at ho => rhs; arg 1; whnf
  refine wpAnyH_take (i := 75) (v := ?_) ho (by kernel_rfl) (by kernel_rfl) (by kernel_rfl) (fun _ _ _ h => h) (Or.inl ⟨by kernel_rfl, ?_⟩) hS ?_
  clear ho
  rotate_left
  · intro w' hS'
    have hq := hS'.1
    have hq2 := hS'.2
    clear hS'
    first | (go_simp; done) | (go_simp; with_reducible rfl)
  try clear ho
  try simp only [Act.put, List.getElem_toArray, List.getElem_cons_zero, List.getElem_cons_succ, List.setIfInBounds_toArray, List.set_cons_zero, List.set_cons_succ]
  have ho : opsM[77]? = some (opAt opsM 77) := by kernel_rfl
  conv at ho => rhs; arg 1; whnf
  refine wpAnyH_take (i := 77) (v := ?_) ho (by kernel_rfl) (by kernel_rfl) (by kernel_rfl) (fun _ _ _ h => h) (Or.inl ⟨by kernel_rfl, ?_⟩) hS ?_
  clear ho
  rotate_left
  · intro w' hS'
    have hq := hS'.1
    have hq2 := hS'.2
    clear hS'
    first | (go_simp; done) | (go_simp; with_reducible rfl)
  try clear ho
  try simp only [Act.put, List.getElem_toArray, List.getElem_cons_zero, List.getElem_cons_succ, List.setIfInBounds_toArray, List.set_cons_zero, List.set_cons_succ]
  have ho : opsM[76]? = some (opAt opsM 76) := by kernel_rfl
  conv at ho => rhs; arg 1; whnf
  refine wpAnyH_ready (rs := [76]) (by kernel_rfl) (by simp) ?_
  refine AllReadyH.cons ho (fun K hK => ?_) AllReadyH.nil
  clear ho
  rw [if_pos (by kernel_rfl)]
  go_simp
  go_at_call 30
  refine (H30 _).mono ?_
  rintro e w5 ⟨rfl, hk⟩
  try dsimp only
  have k5 : Below W.heap.size W w5 := hS.2.trans (hk.mono hS.2.size)
  refine hK.out _ _ ?_ (fun hS => ?_)
  · exact ⟨(bcell k5).1, k5⟩
  clear hK K hk k5
  try simp only [Act.put, List.getElem_toArray, List.getElem_cons_zero, List.getElem_cons_succ, List.setIfInBounds_toArray, List.set_cons_zero, List.set_cons_succ]
  have ho : opsM[78]? = some (opAt opsM 78) := by kernel_rfl
  conv at ho => rhs; arg 1; whnf
  refine wpAnyH_take (i := 78) (v := .bool true) ho (by kernel_rfl) (by kernel_rfl) (by kernel_rfl) (fun _ _ _ h => h) (Or.inl ⟨by kernel_rfl, ?_⟩) hS ?_
  · clear ho
    intro w' hS'
    have hq := hS'.1
    have hq2 := hS'.2
    clear hS'
    go_simp
  clear ho
  try simp only [Act.put, List.getElem_toArray, List.getElem_cons_zero, List.getElem_cons_succ, List.setIfInBounds_toArray, List.set_cons_zero, List.set_cons_succ]
  have ho : opsM[79]? = some (opAt opsM 79) := by kernel_rfl
  conv at ho => rhs; arg 1; whnf
  refine wpAnyH_take (i := 79) (v := ?_) ho (by kernel_rfl) (by kernel_rfl) (by kernel_rfl) (fun _ _ _ h => h) (Or.inl ⟨by kernel_rfl, ?_⟩) hS ?_
  clear ho
  rotate_left
  · intro w' hS'
    have hq := hS'.1
    have hq2 := hS'.2
    clear hS'
    first | (go_simp; done) | (go_simp; with_reducible rfl)
  try clear ho
  try simp only [Act.put, List.getElem_toArray, List.getElem_cons_zero, List.getElem_cons_succ, List.setIfInBounds_toArray, List.set_cons_zero, List.set_cons_succ]
  have ho : opsM[80]? = some (opAt opsM 80) := by kernel_rfl
  conv at ho => rhs; arg 1; whnf
  refine wpAnyH_take (i := 80) (v := ?_) ho (by kernel_rfl) (by kernel_rfl) (by kernel_rfl) (fun _ _ _ h => h) (Or.inl ⟨by kernel_rfl, ?_⟩) hS ?_
  clear ho
  rotate_left
  · intro w' hS'
    have hq := hS'.1
    have hq2 := hS'.2
    clear hS'
    first | (go_simp; done) | (go_simp; with_reducible rfl)
  try clear ho
  try simp only [Act.put, List.getElem_toArray, List.getElem_cons_zero, List.getElem_cons_succ, List.setIfInBounds_toArray, List.set_cons_zero, List.set_cons_succ]
  have ho : opsM[81]? = some (opAt opsM 81) := by kernel_rfl
  conv at ho => rhs; arg 1; whnf
  refine wpAnyH_take (i := 81) (v := ?_) ho (by kernel_rfl) (by kernel_rfl) (by kernel_rfl) (fun _ _ _ h => h) (Or.inl ⟨by kernel_rfl, ?_⟩) hS ?_
  clear ho
  rotate_left
  · intro w' hS'
    have hq := hS'.1
    have hq2 := hS'.2
    clear hS'
    first | (go_simp; done) | (go_simp; with_reducible rfl)
  try clear ho
  try simp only [Act.put, List.getElem_toArray, List.getElem_cons_zero, List.getElem_cons_succ, List.setIfInBounds_toArray, List.set_cons_zero, List.set_cons_succ]
  have ho : opsM[82]? = some (opAt opsM 82) := by kernel_rfl
  conv at ho => rhs; arg 1; whnf
  refine wpAnyH_take (i := 82) (v := ?_) ho (by kernel_rfl) (by kernel_rfl) (by kernel_rfl) (fun _ _ _ h => h) (Or.inl ⟨by kernel_rfl, ?_⟩) hS ?_
  clear ho
  rotate_left
  · intro w' hS'
    have hq := hS'.1
    have hq2 := hS'.2
    clear hS'
    first | (go_simp; done) | (go_simp; with_reducible rfl)
  try clear ho
  try simp only [Act.put, List.getElem_toArray, List.getElem_cons_zero, List.getElem_cons_succ, List.setIfInBounds_toArray, List.set_cons_zero, List.set_cons_succ]
  have ho : opsM[83]? = some (opAt opsM 83) := by kernel_rfl
  conv at ho => rhs; arg 1; whnf
  refine wpAnyH_take (i := 83) (v := ?_) ho (by kernel_rfl) (by kernel_rfl) (by kernel_rfl) (fun _ _ _ h => h) (Or.inl ⟨by kernel_rfl, ?_⟩) hS ?_
  clear ho
  rotate_left
  · intro w' hS'
    have hq := hS'.1
    have hq2 := hS'.2
    clear hS'
    first | (go_simp; done) | (go_simp; with_reducible rfl)
  try clear ho
  try simp only [Act.put, List.getElem_toArray, List.getElem_cons_zero, List.getElem_cons_succ, List.setIfInBounds_toArray, List.set_cons_zero, List.set_cons_succ]
  have ho : opsM[84]? = some (opAt opsM 84) := by kernel_rfl
  conv at ho => rhs; arg 1; whnf
  refine wpAnyH_take (i := 84) (v := ?_) ho (by kernel_rfl) (by kernel_rfl) (by kernel_rfl) (fun _ _ _ h => h) (Or.inl ⟨by kernel_rfl, ?_⟩) hS ?_
  clear ho
  rotate_left
  · intro w' hS'
    have hq := hS'.1
    have hq2 := hS'.2
    clear hS'
    first | (go_simp; done) | (go_simp; with_reducible rfl)
  try clear ho
  try simp only [Act.put, List.getElem_toArray, List.getElem_cons_zero, List.getElem_cons_succ, List.setIfInBounds_toArray, List.set_cons_zero, List.set_cons_succ]
  have ho : opsM[86]? = some (opAt opsM 86) := by kernel_rfl
  conv at ho => rhs; arg 1; whnf
  refine wpAnyH_take (i := 86) (v := ?_) ho (by kernel_rfl) (by kernel_rfl) (by kernel_rfl) (fun _ _ _ h => h) (Or.inl ⟨by kernel_rfl, ?_⟩) hS ?_
  clear ho
  rotate_left
  · intro w' hS'
    have hq := hS'.1
    have hq2 := hS'.2
    clear hS'
    first | (go_simp; done) | (go_simp; with_reducible rfl)
  try clear ho
  try simp only [Act.put, List.getElem_toArray, List.getElem_cons_zero, List.getElem_cons_succ, List.setIfInBounds_toArray, List.set_cons_zero, List.set_cons_succ]
  have ho : opsM[87]? = some (opAt opsM 87) := by kernel_rfl
  conv at ho => rhs; arg 1; whnf
  refine wpAnyH_take (i := 87) (v := ?_) ho (by kernel_rfl) (by kernel_rfl) (by kernel_rfl) (fun _ _ _ h => h) (Or.inl ⟨by kernel_rfl, ?_⟩) hS ?_
  clear ho
  rotate_left
  · intro w' hS'
    have hq := hS'.1
    have hq2 := hS'.2
    clear hS'
    first | (go_simp; done) | (go_simp; with_reducible rfl)
  try clear ho
  try simp only [Act.put, List.getElem_toArray, List.getElem_cons_zero, List.getElem_cons_succ, List.setIfInBounds_toArray, List.set_cons_zero, List.set_cons_succ]
  have ho : opsM[88]? = some (opAt opsM 88) := by kernel_rfl
  conv at ho => rhs; arg 1; whnf
  refine wpAnyH_take (i := 88) (v := ?_) ho (by kernel_rfl) (by kernel_rfl) (by kernel_rfl) (fun _ _ _ h => h) (Or.inl ⟨by kernel_rfl, ?_⟩) hS ?_
  clear ho
  rotate_left
  · intro w' hS'
    have hq := hS'.1
    have hq2 := hS'.2
    clear hS'
    first | (go_simp; done) | (go_simp; with_reducible rfl)
  try clear ho
  try simp only [Act.put, List.getElem_toArray, List.getElem_cons_zero, List.getElem_cons_succ, List.setIfInBounds_toArray, List.set_cons_zero, List.set_cons_succ]
  have ho : opsM[89]? = some (opAt opsM 89) := by kernel_rfl
  conv at ho => rhs; arg 1; whnf
  refine wpAnyH_take (i := 89) (v := ?_) ho (by kernel_rfl) (by kernel_rfl) (by kernel_rfl) (fun _ _ _ h => h) (Or.inl ⟨by kernel_rfl, ?_⟩) hS ?_
  clear ho
  rotate_left
  · intro w' hS'
    have hq := hS'.1
    have hq2 := hS'.2
    clear hS'
    first | (go_simp; done) | (go_simp; with_reducible rfl)
  try clear ho
  try simp only [Act.put, List.getElem_toArray, List.getElem_cons_zero, List.getElem_cons_succ, List.setIfInBounds_toArray, List.set_cons_zero, List.set_cons_succ]
  have ho : opsM[90]? = some (opAt opsM 90) := by kernel_rfl
  conv at ho => rhs; arg 1; whnf
  refine wpAnyH_take (i := 90) (v := ?_) ho (by kernel_rfl) (by kernel_rfl) (by kernel_rfl) (fun _ _ _ h => h) (Or.inl ⟨by kernel_rfl, ?_⟩) hS ?_
  clear ho
  rotate_left
  · intro w' hS'
    have hq := hS'.1
    have hq2 := hS'.2
    clear hS'
    first | (go_simp; done) | (go_simp; with_reducible rfl)
  try clear ho
  try simp only [Act.put, List.getElem_toArray, List.getElem_cons_zero, List.getElem_cons_succ, List.setIfInBounds_toArray, List.set_cons_zero, List.set_cons_succ]
  have ho : opsM[91]? = some (opAt opsM 91) := by kernel_rfl
  conv at ho => rhs; arg 1; whnf
  refine wpAnyH_take (i := 91) (v := ?_) ho (by kernel_rfl) (by kernel_rfl) (by kernel_rfl) (fun _ _ _ h => h) (Or.inl ⟨by kernel_rfl, ?_⟩) hS ?_
  clear ho
  rotate_left
  · intro w' hS'
    have hq := hS'.1
    have hq2 := hS'.2
    clear hS'
    first | (go_simp; done) | (go_simp; with_reducible rfl)
  try clear ho
  try simp only [Act.put, List.getElem_toArray, List.getElem_cons_zero, List.getElem_cons_succ, List.setIfInBounds_toArray, List.set_cons_zero, List.set_cons_succ]
  have ho : opsM[92]? = some (opAt opsM 92) := by kernel_rfl
  conv at ho => rhs; arg 1; whnf
  refine wpAnyH_take (i := 92) (v := ?_) ho (by kernel_rfl) (by kernel_rfl) (by kernel_rfl) (fun _ _ _ h => h) (Or.inl ⟨by kernel_rfl, ?_⟩) hS ?_
  clear ho
  rotate_left
  · intro w' hS'
    have hq := hS'.1
    have hq2 := hS'.2
    clear hS'
    first | (go_simp; done) | (go_simp; with_reducible rfl)
  try clear ho
  try simp only [Act.put, List.getElem_toArray, List.getElem_cons_zero, List.getElem_cons_succ, List.setIfInBounds_toArray, List.set_cons_zero, List.set_cons_succ]
  have ho : opsM[85]? = some (opAt opsM 85) := by kernel_rfl
  conv at ho => rhs; arg 1; whnf
  refine wpAnyH_ready (rs := [85]) (by kernel_rfl) (by simp) ?_
  refine AllReadyH.cons ho (fun K hK => ?_) AllReadyH.nil
  clear ho
  rw [if_pos (by kernel_rfl)]
  go_simp
  go_at_call 31
  refine (H31 _).mono ?_
  rintro e w5 ⟨rfl, hk⟩
  try dsimp only
  have k5 : Below W.heap.size W w5 := hS.2.trans (hk.mono hS.2.size)
  refine hK.out _ _ ?_ (fun hS => ?_)
  · exact ⟨(bcell k5).1, k5⟩
  clear hK K hk k5
  try simp only [Act.put, List.getElem_toArray, List.getElem_cons_zero, List.getElem_cons_succ, List.setIfInBounds_toArray, List.set_cons_zero, List.set_cons_succ]
  have ho : opsM[93]? = some (opAt opsM 93) := by kernel_rfl
  conv at ho => rhs; arg 1; whnf
  refine wpAnyH_take (i := 93) (v := .bool true) ho (by kernel_rfl) (by kernel_rfl) (by kernel_rfl) (fun _ _ _ h => h) (Or.inl ⟨by kernel_rfl, ?_⟩) hS ?_
  · clear ho
    intro w' hS'
    have hq := hS'.1
    have hq2 := hS'.2
    clear hS'
    go_simp
  clear ho
  try simp only [Act.put, List.getElem_toArray, List.getElem_cons_zero, List.getElem_cons_succ, List.setIfInBounds_toArray, List.set_cons_zero, List.set_cons_succ]
  have ho : opsM[94]? = some (opAt opsM 94) := by kernel_rfl
  conv at ho => rhs; arg 1; whnf
  refine wpAnyH_take (i := 94) (v := ?_) ho (by kernel_rfl) (by kernel_rfl) (by kernel_rfl) (fun _ _ _ h => h) (Or.inl ⟨by kernel_rfl, ?_⟩) hS ?_
  clear ho
  rotate_left
  · intro w' hS'
    have hq := hS'.1
    have hq2 := hS'.2
    clear hS'
    first | (go_simp; done) | (go_simp; with_reducible rfl)
  try clear ho
  try simp only [Act.put, List.getElem_toArray, List.getElem_cons_zero, List.getElem_cons_succ, List.setIfInBounds_toArray, List.set_cons_zero, List.set_cons_succ]
  have ho : opsM[95]? = some (opAt opsM 95) := by kernel_rfl
  conv at ho => rhs; arg 1; whnf
  refine wpAnyH_take (i := 95) (v := ?_) ho (by kernel_rfl) (by kernel_rfl) (by kernel_rfl) (fun _ _ _ h => h) (Or.inl ⟨by kernel_rfl, ?_⟩) hS ?_
  clear ho
  rotate_left
  · intro w' hS'
    have hq := hS'.1
    have hq2 := hS'.2
    clear hS'
    first | (go_simp; done) | (go_simp; with_reducible rfl)
  try clear ho
  try simp only [Act.put, List.getElem_toArray, List.getElem_cons_zero, List.getElem_cons_succ, List.setIfInBounds_toArray, List.set_cons_zero, List.set_cons_succ]
  have ho : opsM[96]? = some (opAt opsM 96) := by kernel_rfl
  conv at ho => rhs; arg 1; whnf
  refine wpAnyH_take (i := 96) (v := ?_) ho (by kernel_rfl) (by kernel_rfl) (by kernel_rfl) (fun _ _ _ h => h) (Or.inl ⟨by kernel_rfl, ?_⟩) hS ?_
  clear ho
  rotate_left
  · intro w' hS'
    have hq := hS'.1
    have hq2 := hS'.2
    clear hS'
    first | (go_simp; done) | (go_simp; with_reducible rfl)
  try clear ho
  try simp only [Act.put, List.getElem_toArray, List.getElem_cons_zero, List.getElem_cons_succ, List.setIfInBounds_toArray, List.set_cons_zero, List.set_cons_succ]
  have ho : opsM[97]? = some (opAt opsM 97) := by kernel_rfl
  conv at ho => rhs; arg 1; whnf
  refine wpAnyH_take (i := 97) (v := ?_) ho (by kernel_rfl) (by kernel_rfl) (by kernel_rfl) (fun _ _ _ h => h) (Or.inl ⟨by kernel_rfl, ?_⟩) hS ?_
  clear ho
  rotate_left
  · intro w' hS'
    have hq := hS'.1
    have hq2 := hS'.2
    clear hS'
    first | (go_simp; done) | (go_simp; with_reducible rfl)
  try clear ho
  try simp only [Act.put, List.getElem_toArray, List.getElem_cons_zero, List.getElem_cons_succ, List.setIfInBounds_toArray, List.set_cons_zero, List.set_cons_succ]
  have ho : opsM[99]? = some (opAt opsM 99) := by kernel_rfl
  conv at ho => rhs; arg 1; whnf
  refine wpAnyH_take (i := 99) (v := ?_) ho (by kernel_rfl) (by kernel_rfl) (by kernel_rfl) (fun _ _ _ h => h) (Or.inl ⟨by kernel_rfl, ?_⟩) hS ?_
  clear ho
  rotate_left
  · intro w' hS'
    have hq := hS'.1
    have hq2 := hS'.2
    clear hS'
    first | (go_simp; done) | (go_simp; with_reducible rfl)
  try clear ho
  try simp only [Act.put, List.getElem_toArray, List.getElem_cons_zero, List.getElem_cons_succ, List.setIfInBounds_toArray, List.set_cons_zero, List.set_cons_succ]
  have ho : opsM[100]? = some (opAt opsM 100) := by kernel_rfl
  conv at ho => rhs; arg 1; whnf
  refine wpAnyH_take (i := 100) (v := ?_) ho (by kernel_rfl) (by kernel_rfl) (by kernel_rfl) (fun _ _ _ h => h) (Or.inl ⟨by kernel_rfl, ?_⟩) hS ?_
  clear ho
  rotate_left
  · intro w' hS'
    have hq := hS'.1
    have hq2 := hS'.2
    clear hS'
    first | (go_simp; done) | (go_simp; with_reducible rfl)
  try clear ho
  try simp only [Act.put, List.getElem_toArray, List.getElem_cons_zero, List.getElem_cons_succ, List.setIfInBounds_toArray, List.set_cons_zero, List.set_cons_succ]
  have ho : opsM[101]? = some (opAt opsM 101) := by kernel_rfl
  conv at ho => rhs; arg 1; whnf
  refine wpAnyH_take (i := 101) (v := ?_) ho (by kernel_rfl) (by kernel_rfl) (by kernel_rfl) (fun _ _ _ h => h) (Or.inl ⟨by kernel_rfl, ?_⟩) hS ?_
  clear ho
  rotate_left
  · intro w' hS'
    have hq := hS'.1
    have hq2 := hS'.2
    clear hS'
    first | (go_simp; done) | (go_simp; with_reducible rfl)
  try clear ho
  try simp only [Act.put, List.getElem_toArray, List.getElem_cons_zero, List.getElem_cons_succ, List.setIfInBounds_toArray, List.set_cons_zero, List.set_cons_succ]
  have ho : opsM[102]? = some (opAt opsM 102) := by kernel_rfl
  conv at ho => rhs; arg 1; whnf
  refine wpAnyH_take (i := 102) (v := ?_) ho (by kernel_rfl) (by kernel_rfl) (by kernel_rfl) (fun _ _ _ h => h) (Or.inl ⟨by kernel_rfl, ?_⟩) hS ?_
  clear ho
  rotate_left
  · intro w' hS'
    have hq := hS'.1
    have hq2 := hS'.2
    clear hS'
    first | (go_simp; done) | (go_simp; with_reducible rfl)
  try clear ho
  try simp only [Act.put, List.getElem_toArray, List.getElem_cons_zero, List.getElem_cons_succ, List.setIfInBounds_toArray, List.set_cons_zero, List.set_cons_succ]
  have ho : opsM[98]? = some (opAt opsM 98) := by kernel_rfl
  conv at ho => rhs; arg 1; whnf
  refine wpAnyH_ready (rs := [98]) (by kernel_rfl) (by simp) ?_
  refine AllReadyH.cons ho (fun K hK => ?_) AllReadyH.nil
  clear ho
  rw [if_pos (by kernel_rfl)]
  go_simp
  go_at_call 32
  refine (H32 _).mono ?_
  rintro e w5 ⟨rfl, hk⟩
  try dsimp only
  have k5 : Below W.heap.size W w5 := hS.2.trans (hk.mono hS.2.size)
  refine hK.out _ _ ?_ (fun hS => ?_)
  · exact ⟨(bcell k5).1, k5⟩
  clear hK K hk k5
  try simp only [Act.put, List.getElem_toArray, List.getElem_cons_zero, List.getElem_cons_succ, List.setIfInBounds_toArray, List.set_cons_zero, List.set_cons_succ]
  have ho : opsM[103]? = some (opAt opsM 103) := by kernel_rfl
  conv at ho => rhs; arg 1; whnf
  refine wpAnyH_take (i := 103) (v := .bool true) ho (by kernel_rfl) (by kernel_rfl) (by kernel_rfl) (fun _ _ _ h => h) (Or.inl ⟨by kernel_rfl, ?_⟩) hS ?_
  · clear ho
    intro w' hS'
    have hq := hS'.1
    have hq2 := hS'.2
    clear hS'
    go_simp
  clear ho
  try simp only [Act.put, List.getElem_toArray, List.getElem_cons_zero, List.getElem_cons_succ, List.setIfInBounds_toArray, List.set_cons_zero, List.set_cons_succ]
  have ho : opsM[104]? = some (opAt opsM 104) := by kernel_rfl
  conv at ho => rhs; arg 1; whnf
  refine wpAnyH_take (i := 104) (v := ?_) ho (by kernel_rfl) (by kernel_rfl) (by kernel_rfl) (fun _ _ _ h => h) (Or.inl ⟨by kernel_rfl, ?_⟩) hS ?_
  clear ho
  rotate_left
  · intro w' hS'
    have hq := hS'.1
    have hq2 := hS'.2
    clear hS'
    first | (go_simp; done) | (go_simp; with_reducible rfl)
  try clear ho
  try simp only [Act.put, List.getElem_toArray, List.getElem_cons_zero, List.getElem_cons_succ, List.setIfInBounds_toArray, List.set_cons_zero, List.set_cons_succ]
  have ho : opsM[105]? = some (opAt opsM 105) := by kernel_rfl
  conv at ho => rhs; arg 1; whnf
  refine wpAnyH_take (i := 105) (v := ?_) ho (by kernel_rfl) (by kernel_rfl) (by kernel_rfl) (fun _ _ _ h => h) (Or.inl ⟨by kernel_rfl, ?_⟩) hS ?_
  clear ho
  rotate_left
  · intro w' hS'
    have hq := hS'.1
    have hq2 := hS'.2
    clear hS'
    first | (go_simp; done) | (go_simp; with_reducible rfl)
  try clear ho
  try simp only [Act.put, List.getElem_toArray, List.getElem_cons_zero, List.getElem_cons_succ, List.setIfInBounds_toArray, List.set_cons_zero, List.set_cons_succ]
  have ho : opsM[106]? = some (opAt opsM 106) := by kernel_rfl
  conv at ho => rhs; arg 1; whnf
  refine wpAnyH_ready (rs := [106]) (by kernel_rfl) (by simp) ?_
  refine AllReadyH.cons ho (fun K hK => ?_) AllReadyH.nil
  clear ho
  rw [if_pos (by kernel_rfl)]
  go_simp
  go_at_call 11
  refine (lives_any _ (hTW.out.kept hS.2)).mono ?_
  rintro e w5 ⟨rfl, hk⟩
  try dsimp only
  have k5 : Below W.heap.size W w5 := hS.2.trans (hk.mono hS.2.size)
  refine hK.out _ _ ?_ (fun hS => ?_)
  · exact ⟨(bcell k5).1, k5⟩
  clear hK K hk k5
  try simp only [Act.put, List.getElem_toArray, List.getElem_cons_zero, List.getElem_cons_succ, List.setIfInBounds_toArray, List.set_cons_zero, List.set_cons_succ]
  have ho : opsM[107]? = some (opAt opsM 107) := by kernel_rfl
  conv at ho => rhs; arg 1; whnf
  refine wpAnyH_take (i := 107) (v := ?_) ho (by kernel_rfl) (by kernel_rfl) (by kernel_rfl) (fun _ _ _ h => h) (Or.inl ⟨by kernel_rfl, ?_⟩) hS ?_
  clear ho
  rotate_left
  · intro w' hS'
    have hq := hS'.1
    have hq2 := hS'.2
    clear hS'
    first | (go_simp; done) | (go_simp; with_reducible rfl)
  try clear ho
  try simp only [Act.put, List.getElem_toArray, List.getElem_cons_zero, List.getElem_cons_succ, List.setIfInBounds_toArray, List.set_cons_zero, List.set_cons_succ]
  have ho : opsM[108]? = some (opAt opsM 108) := by kernel_rfl
  conv at ho => rhs; arg 1; whnf
  refine wpAnyH_take (i := 108) (v := ?_) ho (by kernel_rfl) (by kernel_rfl) (by kernel_rfl) (fun _ _ _ h => h) (Or.inl ⟨by kernel_rfl, ?_⟩) hS ?_
  clear ho
  rotate_left
  · intro w' hS'
    have hq := hS'.1
    have hq2 := hS'.2
    clear hS'
    first | (go_simp; done) | (go_simp; with_reducible rfl)
  try clear ho
  try simp only [Act.put, List.getElem_toArray, List.getElem_cons_zero, List.getElem_cons_succ, List.setIfInBounds_toArray, List.set_cons_zero, List.set_cons_succ]
  refine wpAnyH_done (by kernel_rfl) ?_ _
  have hkE := hS.2
  clear hS
  refine hK0 _ _ ?_
  clear hK0
  go_wp2
  go_ret
  exact ⟨rfl, hkW.trans' hkE⟩
end Go.Proofs.YtfoeihbajichpaaDoor
