
/- C.Of: a proper command. -/
import Derived.Test.YtfojemocffelhaaDoorChecked
import Derived.Deep.RegionHeld3
import Derived.Deep.DrawnRows
import Derived.Deep.DeepCutAuto
import Derived.Deep.LoopGhost
import Derived.Outline
import Derived.Handy
import Derived.OwnWalk
import Derived.Test.YtfojemocffelhaaDoorSv
set_option linter.unusedVariables false
set_option linter.unusedSimpArgs false
set_option linter.unusedSectionVars false
namespace Go.Proofs.YtfojemocffelhaaDoor
open Go.RowKit
attribute [local go_sem ↓] Go.wp_at_zero Go.wp_at_succ
set_option maxRecDepth 100000
set_option maxHeartbeats 1000000

theorem of_0 (a b c : Int) (w : World) (ha0 : 0 ≤ a) (hm : a % 7 = 0) (hc0 : 0 ≤ c) (hc : c < 65536) (hb0 : 0 ≤ b) (hb : b < 4294967296)  : Calls Tryd.prog 18 #[.agg #[.int .u8 a, .int .u32 b, .int .u16 c]] w fun e w' => e = .returned (.agg #[.int .u8 0, .int .u32 (0), .int .u16 (0), .int .i64 (0)]) ∧ Kept w w' := by
  have ht : a.tmod 7 = 0 := by rw [Int.tmod_eq_emod_of_nonneg ha0, hm]
  have hc1 : c.tmod 256 = c % 256 := Int.tmod_eq_emod_of_nonneg hc0
  have hc2 : IntKind.u16.wrap (c % 256) = c % 256 := by rw [IntKind.wrap_u16]; omega
  have hc3 : IntKind.i64.wrap (c % 256) = c % 256 := by rw [IntKind.wrap_i64]; omega
  go_enter Tryd.func18, Tryd.ntmps18
  go_wp2_with fail
  refine bodyPost_ret (v := .agg #[.int .u8 0, .int .u32 (0), .int .u16 (0), .int .i64 (0)]) (by simp [results, Tryd.results18, go_sem, *]) rfl ?_
  exact ⟨rfl, by go_grown⟩
theorem of_1 (a b c : Int) (w : World) (ha0 : 0 ≤ a) (hm : a % 7 = 1) (hc0 : 0 ≤ c) (hc : c < 65536) : Calls Tryd.prog 18 #[.agg #[.int .u8 a, .int .u32 b, .int .u16 c]] w fun e w' => e = .returned (.agg #[.int .u8 3, .int .u32 0, .int .u16 0, .int .i64 (c % 256)]) ∧ Kept w w' := by
  have ht : a.tmod 7 = 1 := by rw [Int.tmod_eq_emod_of_nonneg ha0, hm]
  have hc1 : c.tmod 256 = c % 256 := Int.tmod_eq_emod_of_nonneg hc0
  have hc2 : IntKind.u16.wrap (c % 256) = c % 256 := by rw [IntKind.wrap_u16]; omega
  have hc3 : IntKind.i64.wrap (c % 256) = c % 256 := by rw [IntKind.wrap_i64]; omega
  go_enter Tryd.func18, Tryd.ntmps18
  go_wp2_with fail
  refine bodyPost_ret (v := .agg #[.int .u8 3, .int .u32 0, .int .u16 0, .int .i64 (c % 256)]) (by simp [results, Tryd.results18, go_sem, *]) rfl ?_
  exact ⟨rfl, by go_grown⟩
theorem of_2 (a b c : Int) (w : World) (ha0 : 0 ≤ a) (hm : a % 7 = 2) (hc0 : 0 ≤ c) (hc : c < 65536) : Calls Tryd.prog 18 #[.agg #[.int .u8 a, .int .u32 b, .int .u16 c]] w fun e w' => e = .returned (.agg #[.int .u8 18, .int .u32 0, .int .u16 0, .int .i64 (c % 256)]) ∧ Kept w w' := by
  have ht : a.tmod 7 = 2 := by rw [Int.tmod_eq_emod_of_nonneg ha0, hm]
  have hc1 : c.tmod 256 = c % 256 := Int.tmod_eq_emod_of_nonneg hc0
  have hc2 : IntKind.u16.wrap (c % 256) = c % 256 := by rw [IntKind.wrap_u16]; omega
  have hc3 : IntKind.i64.wrap (c % 256) = c % 256 := by rw [IntKind.wrap_i64]; omega
  go_enter Tryd.func18, Tryd.ntmps18
  go_wp2_with fail
  refine bodyPost_ret (v := .agg #[.int .u8 18, .int .u32 0, .int .u16 0, .int .i64 (c % 256)]) (by simp [results, Tryd.results18, go_sem, *]) rfl ?_
  exact ⟨rfl, by go_grown⟩
theorem of_3 (a b c : Int) (w : World) (ha0 : 0 ≤ a) (hm : a % 7 = 3) (hc0 : 0 ≤ c) (hc : c < 65536) (hb0 : 0 ≤ b) (hb : b < 4294967296)  : Calls Tryd.prog 18 #[.agg #[.int .u8 a, .int .u32 b, .int .u16 c]] w fun e w' => e = .returned (.agg #[.int .u8 37, .int .u32 (0), .int .u16 (0), .int .i64 (0)]) ∧ Kept w w' := by
  have ht : a.tmod 7 = 3 := by rw [Int.tmod_eq_emod_of_nonneg ha0, hm]
  have hc1 : c.tmod 256 = c % 256 := Int.tmod_eq_emod_of_nonneg hc0
  have hc2 : IntKind.u16.wrap (c % 256) = c % 256 := by rw [IntKind.wrap_u16]; omega
  have hc3 : IntKind.i64.wrap (c % 256) = c % 256 := by rw [IntKind.wrap_i64]; omega
  go_enter Tryd.func18, Tryd.ntmps18
  go_wp2_with fail
  refine bodyPost_ret (v := .agg #[.int .u8 37, .int .u32 (0), .int .u16 (0), .int .i64 (0)]) (by simp [results, Tryd.results18, go_sem, *]) rfl ?_
  exact ⟨rfl, by go_grown⟩
theorem of_4 (a b c : Int) (w : World) (ha0 : 0 ≤ a) (hm : a % 7 = 4) (hc0 : 0 ≤ c) (hc : c < 65536) (hb0 : 0 ≤ b) (hb : b < 4294967296) (hs : b + c ≤ 4294967296) : Calls Tryd.prog 18 #[.agg #[.int .u8 a, .int .u32 b, .int .u16 c]] w fun e w' => e = .returned (.agg #[.int .u8 40, .int .u32 (b), .int .u16 (c), .int .i64 (0)]) ∧ Kept w w' := by
  have ht : a.tmod 7 = 4 := by rw [Int.tmod_eq_emod_of_nonneg ha0, hm]
  have hc1 : c.tmod 256 = c % 256 := Int.tmod_eq_emod_of_nonneg hc0
  have hc2 : IntKind.u16.wrap (c % 256) = c % 256 := by rw [IntKind.wrap_u16]; omega
  have hc3 : IntKind.i64.wrap (c % 256) = c % 256 := by rw [IntKind.wrap_i64]; omega
  go_enter Tryd.func18, Tryd.ntmps18
  go_wp2_with fail
  refine bodyPost_ret (v := .agg #[.int .u8 40, .int .u32 (b), .int .u16 (c), .int .i64 (0)]) (by simp [results, Tryd.results18, go_sem, *]) rfl ?_
  exact ⟨rfl, by go_grown⟩
theorem of_5 (a b c : Int) (w : World) (ha0 : 0 ≤ a) (hm : a % 7 = 5) (hc0 : 0 ≤ c) (hc : c < 65536) (hb0 : 0 ≤ b) (hb : b < 4294967296) (hs : b + c ≤ 4294967296) : Calls Tryd.prog 18 #[.agg #[.int .u8 a, .int .u32 b, .int .u16 c]] w fun e w' => e = .returned (.agg #[.int .u8 42, .int .u32 (b), .int .u16 (c), .int .i64 (0)]) ∧ Kept w w' := by
  have ht : a.tmod 7 = 5 := by rw [Int.tmod_eq_emod_of_nonneg ha0, hm]
  have hc1 : c.tmod 256 = c % 256 := Int.tmod_eq_emod_of_nonneg hc0
  have hc2 : IntKind.u16.wrap (c % 256) = c % 256 := by rw [IntKind.wrap_u16]; omega
  have hc3 : IntKind.i64.wrap (c % 256) = c % 256 := by rw [IntKind.wrap_i64]; omega
  go_enter Tryd.func18, Tryd.ntmps18
  go_wp2_with fail
  refine bodyPost_ret (v := .agg #[.int .u8 42, .int .u32 (b), .int .u16 (c), .int .i64 (0)]) (by simp [results, Tryd.results18, go_sem, *]) rfl ?_
  exact ⟨rfl, by go_grown⟩
theorem of_6 (a b c : Int) (w : World) (ha0 : 0 ≤ a) (hm : a % 7 = 6) (hc0 : 0 ≤ c) (hc : c < 65536) (hb0 : 0 ≤ b) (hb : b < 4294967296) (hs : b + c ≤ 4294967296) : Calls Tryd.prog 18 #[.agg #[.int .u8 a, .int .u32 b, .int .u16 c]] w fun e w' => e = .returned (.agg #[.int .u8 53, .int .u32 (b), .int .u16 (c), .int .i64 (0)]) ∧ Kept w w' := by
  have ht : a.tmod 7 = 6 := by rw [Int.tmod_eq_emod_of_nonneg ha0, hm]
  have hc1 : c.tmod 256 = c % 256 := Int.tmod_eq_emod_of_nonneg hc0
  have hc2 : IntKind.u16.wrap (c % 256) = c % 256 := by rw [IntKind.wrap_u16]; omega
  have hc3 : IntKind.i64.wrap (c % 256) = c % 256 := by rw [IntKind.wrap_i64]; omega
  go_enter Tryd.func18, Tryd.ntmps18
  go_wp2_with fail
  refine bodyPost_ret (v := .agg #[.int .u8 53, .int .u32 (b), .int .u16 (c), .int .i64 (0)]) (by simp [results, Tryd.results18, go_sem, *]) rfl ?_
  exact ⟨rfl, by go_grown⟩
theorem of_4z (a b c : Int) (w : World) (ha0 : 0 ≤ a) (hm : a % 7 = 4) (hc0 : 0 ≤ c) (hc : c < 65536) (hb0 : 0 ≤ b) (hb : b < 4294967296) (hs : 4294967296 < b + c) : Calls Tryd.prog 18 #[.agg #[.int .u8 a, .int .u32 b, .int .u16 c]] w fun e w' => e = .returned (.agg #[.int .u8 40, .int .u32 (0), .int .u16 (c), .int .i64 (0)]) ∧ Kept w w' := by
  have ht : a.tmod 7 = 4 := by rw [Int.tmod_eq_emod_of_nonneg ha0, hm]
  have hc1 : c.tmod 256 = c % 256 := Int.tmod_eq_emod_of_nonneg hc0
  have hc2 : IntKind.u16.wrap (c % 256) = c % 256 := by rw [IntKind.wrap_u16]; omega
  have hc3 : IntKind.i64.wrap (c % 256) = c % 256 := by rw [IntKind.wrap_i64]; omega
  go_enter Tryd.func18, Tryd.ntmps18
  go_wp2_with fail
  refine bodyPost_ret (v := .agg #[.int .u8 40, .int .u32 (0), .int .u16 (c), .int .i64 (0)]) (by simp [results, Tryd.results18, go_sem, *]) rfl ?_
  exact ⟨rfl, by go_grown⟩
theorem of_5z (a b c : Int) (w : World) (ha0 : 0 ≤ a) (hm : a % 7 = 5) (hc0 : 0 ≤ c) (hc : c < 65536) (hb0 : 0 ≤ b) (hb : b < 4294967296) (hs : 4294967296 < b + c) : Calls Tryd.prog 18 #[.agg #[.int .u8 a, .int .u32 b, .int .u16 c]] w fun e w' => e = .returned (.agg #[.int .u8 42, .int .u32 (0), .int .u16 (c), .int .i64 (0)]) ∧ Kept w w' := by
  have ht : a.tmod 7 = 5 := by rw [Int.tmod_eq_emod_of_nonneg ha0, hm]
  have hc1 : c.tmod 256 = c % 256 := Int.tmod_eq_emod_of_nonneg hc0
  have hc2 : IntKind.u16.wrap (c % 256) = c % 256 := by rw [IntKind.wrap_u16]; omega
  have hc3 : IntKind.i64.wrap (c % 256) = c % 256 := by rw [IntKind.wrap_i64]; omega
  go_enter Tryd.func18, Tryd.ntmps18
  go_wp2_with fail
  refine bodyPost_ret (v := .agg #[.int .u8 42, .int .u32 (0), .int .u16 (c), .int .i64 (0)]) (by simp [results, Tryd.results18, go_sem, *]) rfl ?_
  exact ⟨rfl, by go_grown⟩
theorem of_6z (a b c : Int) (w : World) (ha0 : 0 ≤ a) (hm : a % 7 = 6) (hc0 : 0 ≤ c) (hc : c < 65536) (hb0 : 0 ≤ b) (hb : b < 4294967296) (hs : 4294967296 < b + c) : Calls Tryd.prog 18 #[.agg #[.int .u8 a, .int .u32 b, .int .u16 c]] w fun e w' => e = .returned (.agg #[.int .u8 53, .int .u32 (0), .int .u16 (c), .int .i64 (0)]) ∧ Kept w w' := by
  have ht : a.tmod 7 = 6 := by rw [Int.tmod_eq_emod_of_nonneg ha0, hm]
  have hc1 : c.tmod 256 = c % 256 := Int.tmod_eq_emod_of_nonneg hc0
  have hc2 : IntKind.u16.wrap (c % 256) = c % 256 := by rw [IntKind.wrap_u16]; omega
  have hc3 : IntKind.i64.wrap (c % 256) = c % 256 := by rw [IntKind.wrap_i64]; omega
  go_enter Tryd.func18, Tryd.ntmps18
  go_wp2_with fail
  refine bodyPost_ret (v := .agg #[.int .u8 53, .int .u32 (0), .int .u16 (c), .int .i64 (0)]) (by simp [results, Tryd.results18, go_sem, *]) rfl ?_
  exact ⟨rfl, by go_grown⟩
/-- every value of C is some proper command -/
theorem of_any (a b c : Int) (ha0 : 0 ≤ a) (ha : a < 256) (hc0 : 0 ≤ c) (hc : c < 65536) (hb0 : 0 ≤ b) (hb : b < 4294967296) : ∃ op b' c' l : Int, properZ op b' c' l = true ∧ 0 ≤ b' ∧ b' < 4294967296 ∧ 0 ≤ c' ∧ c' < 65536 ∧
    ∀ w, Calls Tryd.prog 18 #[.agg #[.int .u8 a, .int .u32 b, .int .u16 c]] w fun e w' => e = .returned (.agg #[.int .u8 op, .int .u32 b', .int .u16 c', .int .i64 l]) ∧ Kept w w' := by
  have h7 : a % 7 = 0 ∨ a % 7 = 1 ∨ a % 7 = 2 ∨ a % 7 = 3 ∨ a % 7 = 4 ∨ a % 7 = 5 ∨ a % 7 = 6 := by omega
  have hl : ∀ op : Int, op = 3 ∨ op = 18 → properZ op 0 0 (c % 256) = true := fun op h => by
    rcases h with rfl | rfl <;> (simp [properZ]; omega)
  have hk : ∀ op b' : Int, op = 40 ∨ op = 42 ∨ op = 53 → b' + c ≤ 4294967296 → properZ op b' c 0 = true := fun op b' h hs => by
    rcases h with rfl | rfl | rfl <;> (simp [properZ]; omega)
  by_cases hs : b + c ≤ 4294967296
  · rcases h7 with h | h | h | h | h | h | h
    · exact ⟨0, 0, 0, 0, by decide, by omega, by omega, by omega, by omega, fun w => of_0 a b c w ha0 h hc0 hc hb0 hb⟩
    · exact ⟨3, 0, 0, _, hl 3 (by omega), by omega, by omega, by omega, by omega, fun w => of_1 a b c w ha0 h hc0 hc⟩
    · exact ⟨18, 0, 0, _, hl 18 (by omega), by omega, by omega, by omega, by omega, fun w => of_2 a b c w ha0 h hc0 hc⟩
    · exact ⟨37, 0, 0, 0, by decide, by omega, by omega, by omega, by omega, fun w => of_3 a b c w ha0 h hc0 hc hb0 hb⟩
    · exact ⟨40, b, c, 0, hk 40 b (by omega) hs, hb0, hb, hc0, hc, fun w => of_4 a b c w ha0 h hc0 hc hb0 hb hs⟩
    · exact ⟨42, b, c, 0, hk 42 b (by omega) hs, hb0, hb, hc0, hc, fun w => of_5 a b c w ha0 h hc0 hc hb0 hb hs⟩
    · exact ⟨53, b, c, 0, hk 53 b (by omega) hs, hb0, hb, hc0, hc, fun w => of_6 a b c w ha0 h hc0 hc hb0 hb hs⟩
  · have hs : 4294967296 < b + c := by omega
    rcases h7 with h | h | h | h | h | h | h
    · exact ⟨0, 0, 0, 0, by decide, by omega, by omega, by omega, by omega, fun w => of_0 a b c w ha0 h hc0 hc hb0 hb⟩
    · exact ⟨3, 0, 0, _, hl 3 (by omega), by omega, by omega, by omega, by omega, fun w => of_1 a b c w ha0 h hc0 hc⟩
    · exact ⟨18, 0, 0, _, hl 18 (by omega), by omega, by omega, by omega, by omega, fun w => of_2 a b c w ha0 h hc0 hc⟩
    · exact ⟨37, 0, 0, 0, by decide, by omega, by omega, by omega, by omega, fun w => of_3 a b c w ha0 h hc0 hc hb0 hb⟩
    · exact ⟨40, 0, c, 0, hk 40 0 (by omega) (by omega), by omega, by omega, hc0, hc, fun w => of_4z a b c w ha0 h hc0 hc hb0 hb hs⟩
    · exact ⟨42, 0, c, 0, hk 42 0 (by omega) (by omega), by omega, by omega, hc0, hc, fun w => of_5z a b c w ha0 h hc0 hc hb0 hb hs⟩
    · exact ⟨53, 0, c, 0, hk 53 0 (by omega) (by omega), by omega, by omega, hc0, hc, fun w => of_6z a b c w ha0 h hc0 hc hb0 hb hs⟩
end Go.Proofs.YtfojemocffelhaaDoor
