

/- The functions that make requests. The numbers lie in their kinds. -/
import Derived.Test.YtfoeihbajichpaaDoorChecked
import Derived.Deep.RegionHeld3
import Derived.Deep.DrawnRows
import Derived.Deep.DeepCutAuto
import Derived.Deep.LoopGhost
import Derived.Outline
import Derived.Handy
import Derived.OwnWalk
import Derived.Laws.EntriesVeiled
import Derived.Test.YtfoeihbajichpaaDoorSj
set_option linter.unusedVariables false
set_option linter.unusedSimpArgs false
set_option linter.unusedSectionVars false
namespace Go.Proofs.YtfoeihbajichpaaDoor
open Go.RowKit Go.Lib Go.Maps Go.WideShapes
attribute [local go_sem ↓] Go.wp_at_zero Go.wp_at_succ

theorem max20 : max (2 : Int) 0 = 2 := rfl
theorem max10 : max (1 : Int) 0 = 1 := rfl
set_option maxRecDepth 100000 in
theorem status_any (r x : Int) (r0 : 0 ≤ r) (r1 : r < 256) (w : World) : Calls Tryd.prog 25 #[.int .u8 r, .int .u16 x] w fun e w' => e = .returned (.agg #[.int .u8 (wayI true (r % 32)), .int .u8 0, .int .u16 (0), .int .u16 (x), .int .u16 2]) ∧ Kept w w' := by
  have HS := fun W => std_any 0 r (0) (x) _ _ _ W (by omega) (by omega) (by omega) (by omega) rfl (by simp)
  go_enter Tryd.func25, Tryd.ntmps25
  go_wp2_with (go_at_call 47; refine (HS _).mono ?_; rintro e w2 ⟨rfl, hk⟩; obtain ⟨hcq, hfq⟩ := bcell hk; have hzq := hk.size; simp only [World.size_alloc] at hcq hfq hzq; have hlt2 : w.heap.size < w2.heap.size := (by omega); have hkw : Kept w w2 := (Below.trans (by go_grown) (hk.mono (by simp only [World.size_alloc]; omega))))
  refine bodyPost_ret (v := .agg #[.int .u8 (wayI true (r % 32)), .int .u8 0, .int .u16 (0), .int .u16 (x), .int .u16 2]) (by simp [results, Tryd.results25, go_sem, hlt2, hcq, hfq, wayI, max20, max10]) rfl ⟨rfl, by go_grown⟩
set_option maxRecDepth 100000 in
theorem feature_set (r v x : Int) (r0 : 0 ≤ r) (r1 : r < 256) (w : World) : Calls Tryd.prog 26 #[.bool true, .int .u8 r, .int .u16 v, .int .u16 x] w fun e w' => e = .returned (.agg #[.int .u8 (wayI false (r % 32)), .int .u8 3, .int .u16 (v), .int .u16 (x), .int .u16 0]) ∧ Kept w w' := by
  have HS := fun W => std_any 3 r (v) (x) _ _ _ W (by omega) (by omega) (by omega) (by omega) rfl (by simp)
  go_enter Tryd.func26, Tryd.ntmps26
  go_wp2_with (go_at_call 47; refine (HS _).mono ?_; rintro e w2 ⟨rfl, hk⟩; obtain ⟨hcq, hfq⟩ := bcell hk; have hzq := hk.size; simp only [World.size_alloc] at hcq hfq hzq; have hlt2 : w.heap.size < w2.heap.size := (by omega); have hkw : Kept w w2 := (Below.trans (by go_grown) (hk.mono (by simp only [World.size_alloc]; omega))))
  refine bodyPost_ret (v := .agg #[.int .u8 (wayI false (r % 32)), .int .u8 3, .int .u16 (v), .int .u16 (x), .int .u16 0]) (by simp [results, Tryd.results26, go_sem, hlt2, hcq, hfq, wayI, max20, max10]) rfl ⟨rfl, by go_grown⟩
set_option maxRecDepth 100000 in
theorem feature_clear (r v x : Int) (r0 : 0 ≤ r) (r1 : r < 256) (w : World) : Calls Tryd.prog 26 #[.bool false, .int .u8 r, .int .u16 v, .int .u16 x] w fun e w' => e = .returned (.agg #[.int .u8 (wayI false (r % 32)), .int .u8 1, .int .u16 (v), .int .u16 (x), .int .u16 0]) ∧ Kept w w' := by
  have HS := fun W => std_any 1 r (v) (x) _ _ _ W (by omega) (by omega) (by omega) (by omega) rfl (by simp)
  go_enter Tryd.func26, Tryd.ntmps26
  go_wp2_with (go_at_call 47; refine (HS _).mono ?_; rintro e w2 ⟨rfl, hk⟩; obtain ⟨hcq, hfq⟩ := bcell hk; have hzq := hk.size; simp only [World.size_alloc] at hcq hfq hzq; have hlt2 : w.heap.size < w2.heap.size := (by omega); have hkw : Kept w w2 := (Below.trans (by go_grown) (hk.mono (by simp only [World.size_alloc]; omega))))
  refine bodyPost_ret (v := .agg #[.int .u8 (wayI false (r % 32)), .int .u8 1, .int .u16 (v), .int .u16 (x), .int .u16 0]) (by simp [results, Tryd.results26, go_sem, hlt2, hcq, hfq, wayI, max20, max10]) rfl ⟨rfl, by go_grown⟩
set_option maxRecDepth 100000 in
theorem address_any (a : Int) (a0 : 0 ≤ a) (a1 : a < 256) (w : World) : Calls Tryd.prog 27 #[.int .u8 a] w fun e w' => e = .returned (.agg #[.int .u8 (0), .int .u8 5, .int .u16 (a), .int .u16 (0), .int .u16 0]) ∧ Kept w w' := by
  have HS := fun W => std_any 5 0 (a) (0) _ _ _ W (by omega) (by omega) (by omega) (by omega) rfl (by simp)
  go_enter Tryd.func27, Tryd.ntmps27
  go_wp2_with (go_at_call 47; refine (HS _).mono ?_; rintro e w2 ⟨rfl, hk⟩; obtain ⟨hcq, hfq⟩ := bcell hk; have hzq := hk.size; simp only [World.size_alloc] at hcq hfq hzq; have hlt2 : w.heap.size < w2.heap.size := (by omega); have hkw : Kept w w2 := (Below.trans (by go_grown) (hk.mono (by simp only [World.size_alloc]; omega))))
  refine bodyPost_ret (v := .agg #[.int .u8 (0), .int .u8 5, .int .u16 (a), .int .u16 (0), .int .u16 0]) (by simp [results, Tryd.results27, go_sem, hlt2, hcq, hfq, wayI, max20, max10]) rfl ⟨rfl, by go_grown⟩
set_option maxRecDepth 100000 in
theorem configure_any (a : Int) (a0 : 0 ≤ a) (a1 : a < 256) (w : World) : Calls Tryd.prog 29 #[.int .u8 a] w fun e w' => e = .returned (.agg #[.int .u8 (0), .int .u8 9, .int .u16 (a), .int .u16 (0), .int .u16 0]) ∧ Kept w w' := by
  have HS := fun W => std_any 9 0 (a) (0) _ _ _ W (by omega) (by omega) (by omega) (by omega) rfl (by simp)
  go_enter Tryd.func29, Tryd.ntmps29
  go_wp2_with (go_at_call 47; refine (HS _).mono ?_; rintro e w2 ⟨rfl, hk⟩; obtain ⟨hcq, hfq⟩ := bcell hk; have hzq := hk.size; simp only [World.size_alloc] at hcq hfq hzq; have hlt2 : w.heap.size < w2.heap.size := (by omega); have hkw : Kept w w2 := (Below.trans (by go_grown) (hk.mono (by simp only [World.size_alloc]; omega))))
  refine bodyPost_ret (v := .agg #[.int .u8 (0), .int .u8 9, .int .u16 (a), .int .u16 (0), .int .u16 0]) (by simp [results, Tryd.results29, go_sem, hlt2, hcq, hfq, wayI, max20, max10]) rfl ⟨rfl, by go_grown⟩
set_option maxRecDepth 100000 in
theorem configuration_any  (w : World) : Calls Tryd.prog 30 #[] w fun e w' => e = .returned (.agg #[.int .u8 (128), .int .u8 8, .int .u16 (0), .int .u16 (0), .int .u16 1]) ∧ Kept w w' := by
  have HS := fun W => std_any 8 0 (0) (0) _ _ _ W (by omega) (by omega) (by omega) (by omega) rfl (by simp)
  go_enter Tryd.func30, Tryd.ntmps30
  go_wp2_with (go_at_call 47; refine (HS _).mono ?_; rintro e w2 ⟨rfl, hk⟩; obtain ⟨hcq, hfq⟩ := bcell hk; have hzq := hk.size; simp only [World.size_alloc] at hcq hfq hzq; have hlt2 : w.heap.size < w2.heap.size := (by omega); have hkw : Kept w w2 := (Below.trans (by go_grown) (hk.mono (by simp only [World.size_alloc]; omega))))
  refine bodyPost_ret (v := .agg #[.int .u8 (128), .int .u8 8, .int .u16 (0), .int .u16 (0), .int .u16 1]) (by simp [results, Tryd.results30, go_sem, hlt2, hcq, hfq, wayI, max20, max10]) rfl ⟨rfl, by go_grown⟩
set_option maxRecDepth 100000 in
theorem alter_any (i s : Int) (i0 : 0 ≤ i) (i1 : i < 256) (s0 : 0 ≤ s) (s1 : s < 256) (w : World) : Calls Tryd.prog 31 #[.int .u8 i, .int .u8 s] w fun e w' => e = .returned (.agg #[.int .u8 (1), .int .u8 11, .int .u16 (s), .int .u16 (i), .int .u16 0]) ∧ Kept w w' := by
  have HS := fun W => std_any 11 1 (s) (i) _ _ _ W (by omega) (by omega) (by omega) (by omega) rfl (by simp)
  go_enter Tryd.func31, Tryd.ntmps31
  go_wp2_with (go_at_call 47; refine (HS _).mono ?_; rintro e w2 ⟨rfl, hk⟩; obtain ⟨hcq, hfq⟩ := bcell hk; have hzq := hk.size; simp only [World.size_alloc] at hcq hfq hzq; have hlt2 : w.heap.size < w2.heap.size := (by omega); have hkw : Kept w w2 := (Below.trans (by go_grown) (hk.mono (by simp only [World.size_alloc]; omega))))
  refine bodyPost_ret (v := .agg #[.int .u8 (1), .int .u8 11, .int .u16 (s), .int .u16 (i), .int .u16 0]) (by simp [results, Tryd.results31, go_sem, hlt2, hcq, hfq, wayI, max20, max10]) rfl ⟨rfl, by go_grown⟩
set_option maxRecDepth 100000 in
theorem alternate_any (i : Int) (i0 : 0 ≤ i) (i1 : i < 256) (w : World) : Calls Tryd.prog 32 #[.int .u8 i] w fun e w' => e = .returned (.agg #[.int .u8 (129), .int .u8 10, .int .u16 (0), .int .u16 (i), .int .u16 1]) ∧ Kept w w' := by
  have HS := fun W => std_any 10 1 (0) (i) _ _ _ W (by omega) (by omega) (by omega) (by omega) rfl (by simp)
  go_enter Tryd.func32, Tryd.ntmps32
  go_wp2_with (go_at_call 47; refine (HS _).mono ?_; rintro e w2 ⟨rfl, hk⟩; obtain ⟨hcq, hfq⟩ := bcell hk; have hzq := hk.size; simp only [World.size_alloc] at hcq hfq hzq; have hlt2 : w.heap.size < w2.heap.size := (by omega); have hkw : Kept w w2 := (Below.trans (by go_grown) (hk.mono (by simp only [World.size_alloc]; omega))))
  refine bodyPost_ret (v := .agg #[.int .u8 (129), .int .u8 10, .int .u16 (0), .int .u16 (i), .int .u16 1]) (by simp [results, Tryd.results32, go_sem, hlt2, hcq, hfq, wayI, max20, max10]) rfl ⟨rfl, by go_grown⟩
theorem or16 {a b : Int} (a0 : 0 ≤ a) (a1 : a < 256) (b0 : 0 ≤ b) (b1 : b < 256) : bits BinOp.or IntKind.u16 (a * 256) b = a * 256 + b := by
  obtain ⟨n, rfl⟩ := Int.eq_ofNat_of_zero_le a0
  obtain ⟨m, rfl⟩ := Int.eq_ofNat_of_zero_le b0
  have h1 : (BitVec.ofInt 16 ((n : Int) * 256)).toNat = n * 256 := by
    rw [show (n : Int) * 256 = ((n * 256 : Nat) : Int) by omega, BitVec.ofInt_natCast, BitVec.toNat_ofNat]; exact Nat.mod_eq_of_lt (by omega)
  have h2 : (BitVec.ofInt 16 (m : Int)).toNat = m := by
    rw [BitVec.ofInt_natCast, BitVec.toNat_ofNat]; exact Nat.mod_eq_of_lt (by omega)
  show IntKind.u16.wrap ((BitVec.ofInt 16 ((n : Int) * 256) ||| BitVec.ofInt 16 (m : Int)).toNat : Int) = _
  have h3 := Nat.two_pow_add_eq_or_of_lt (i := 8) (b := m) (by omega) n
  rw [BitVec.toNat_or, h1, h2, Nat.mul_comm n 256, ← h3, IntKind.wrap_u16]
  omega
set_option maxRecDepth 100000 in
set_option maxHeartbeats 16000000 in
theorem descriptor_any (k i x n : Int) (k0 : 0 ≤ k) (k1 : k < 256) (i0 : 0 ≤ i) (i1 : i < 256) (n0 : 0 ≤ n) (n1 : n < 65536) (w : World) :
    Calls Tryd.prog 28 #[.int .u8 k, .int .u8 i, .int .u16 x, .int .u16 n] w fun e w' => e = .returned (.agg #[.int .u8 128, .int .u8 6, .int .u16 (k * 256 + i), .int .u16 x, .int .u16 n]) ∧ Kept w w' := by
  have HO := or16 k0 k1 i0 i1
  have HS := fun W => std_any 6 0 (k * 256 + i) x _ _ _ W (by omega) (by omega) (by omega) (by omega) rfl (by simp)
  go_enter Tryd.func28, Tryd.ntmps28
  go_wp2_with (go_at_call 47; refine (HS _).mono ?_; rintro e w2 ⟨rfl, hk⟩; obtain ⟨hcq, hfq⟩ := bcell hk; have hzq := hk.size; simp only [World.size_alloc] at hcq hfq hzq; have hlt2 : w.heap.size < w2.heap.size := (by omega); have hkw : Kept w w2 := (Below.trans (by go_grown) (hk.mono (by simp only [World.size_alloc]; omega))))
  refine bodyPost_ret (v := .agg #[.int .u8 128, .int .u8 6, .int .u16 (k * 256 + i), .int .u16 x, .int .u16 n]) (by simp [results, Tryd.results28, go_sem, hlt2, hcq, hfq, wayI]) rfl ⟨rfl, by go_grown⟩
end Go.Proofs.YtfoeihbajichpaaDoor
