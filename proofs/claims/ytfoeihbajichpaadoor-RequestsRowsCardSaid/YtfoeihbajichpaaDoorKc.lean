
/- The rows of the table as the law makes them. The numbers lie in their kinds. -/
import Derived.Test.YtfoeihbajichpaaDoorChecked
import Derived.Deep.RegionHeld3
import Derived.Deep.DrawnRows
import Derived.Deep.DeepCutAuto
import Derived.Deep.LoopGhost
import Derived.Outline
import Derived.Handy
import Derived.OwnWalk
import Derived.Laws.EntriesVeiled
import Derived.Test.YtfoeihbajichpaaDoorKa
set_option linter.unusedVariables false
set_option linter.unusedSimpArgs false
set_option linter.unusedSectionVars false
namespace Go.Proofs.YtfoeihbajichpaaDoor
open Go.RowKit Go.Lib
attribute [local go_sem ↓] Go.wp_at_zero Go.wp_at_succ

/-- the address of an endpoint -/
def atW (b : Bool) (i : Int) : Int := if b then i % 16 + 128 else i % 16
/-- the row of a number, with its values -/
def rowR (k v i l : Int) (b : Bool) : Rq :=
  if k = 0 then ⟨128, 0, 0, 0, 2⟩ else
  if k = 1 then ⟨129, 0, 0, i % 16, 2⟩ else
  if k = 2 then ⟨130, 0, 0, atW b i, 2⟩ else
  if k = 3 then ⟨0, 1, 1, 0, 0⟩ else
  if k = 4 then ⟨2, 1, 0, atW b i, 0⟩ else
  if k = 5 then ⟨0, 3, 1, 0, 0⟩ else
  if k = 6 then ⟨2, 3, 0, atW b i, 0⟩ else
  if k = 7 then ⟨0, 5, v % 128, 0, 0⟩ else
  if k = 8 then ⟨128 + i % 2, 6, v, 257 * i, l⟩ else
  if k = 9 then ⟨0, 7, v, 257 * i, l⟩ else
  if k = 10 then ⟨128, 8, 0, 0, 1⟩ else
  if k = 11 then ⟨0, 9, v % 256, 0, 0⟩ else
  if k = 12 then ⟨129, 10, 0, i % 16, 1⟩ else
  if k = 13 then ⟨1, 11, v % 16, i % 16, 0⟩ else
  ⟨130, 12, 0, atW b i, 2⟩
set_option maxRecDepth 100000 in
set_option maxHeartbeats 2000000 in
theorem rowed_0_true (a v i l : Int) (w : World) (a0 : 0 ≤ a) (a1 : a < 256) (v0 : 0 ≤ v) (v1 : v < 65536) (i0 : 0 ≤ i) (i1 : i < 256) (l0 : 0 ≤ l) (l1 : l < 65536) (hk : a % 15 = 0) :
    Calls Tryd.prog 20 #[.agg #[.int .u8 a, .int .u16 v, .int .u8 i, .bool true, .int .u16 l]] w fun e w' => e = .returned (.agg #[.int .u8 (128), .int .u8 (0), .int .u16 (0), .int .u16 (0), .int .u16 (2)]) ∧ Kept w w' := by
  have j0 : 0 ≤ i % 16 := by omega
  have j1 : i % 16 < 16 := by omega
  have j2 : 257 * i < 65536 := by omega
  have j3 : 0 ≤ 257 * i := by omega
  have j4 : 0 ≤ i % 2 := by omega
  have j5 : i % 2 < 2 := by omega
  go_enter Tryd.func20, Tryd.ntmps20
  go_wp2
  refine bodyPost_ret (v := .agg #[.int .u8 (128), .int .u8 (0), .int .u16 (0), .int .u16 (0), .int .u16 (2)]) (by simp [results, Tryd.results20, go_sem]) rfl ⟨rfl, by go_grown⟩
set_option maxRecDepth 100000 in
set_option maxHeartbeats 2000000 in
theorem rowed_0_false (a v i l : Int) (w : World) (a0 : 0 ≤ a) (a1 : a < 256) (v0 : 0 ≤ v) (v1 : v < 65536) (i0 : 0 ≤ i) (i1 : i < 256) (l0 : 0 ≤ l) (l1 : l < 65536) (hk : a % 15 = 0) :
    Calls Tryd.prog 20 #[.agg #[.int .u8 a, .int .u16 v, .int .u8 i, .bool false, .int .u16 l]] w fun e w' => e = .returned (.agg #[.int .u8 (128), .int .u8 (0), .int .u16 (0), .int .u16 (0), .int .u16 (2)]) ∧ Kept w w' := by
  have j0 : 0 ≤ i % 16 := by omega
  have j1 : i % 16 < 16 := by omega
  have j2 : 257 * i < 65536 := by omega
  have j3 : 0 ≤ 257 * i := by omega
  have j4 : 0 ≤ i % 2 := by omega
  have j5 : i % 2 < 2 := by omega
  go_enter Tryd.func20, Tryd.ntmps20
  go_wp2
  refine bodyPost_ret (v := .agg #[.int .u8 (128), .int .u8 (0), .int .u16 (0), .int .u16 (0), .int .u16 (2)]) (by simp [results, Tryd.results20, go_sem]) rfl ⟨rfl, by go_grown⟩
set_option maxRecDepth 100000 in
set_option maxHeartbeats 2000000 in
theorem rowed_1_true (a v i l : Int) (w : World) (a0 : 0 ≤ a) (a1 : a < 256) (v0 : 0 ≤ v) (v1 : v < 65536) (i0 : 0 ≤ i) (i1 : i < 256) (l0 : 0 ≤ l) (l1 : l < 65536) (hk : a % 15 = 1) :
    Calls Tryd.prog 20 #[.agg #[.int .u8 a, .int .u16 v, .int .u8 i, .bool true, .int .u16 l]] w fun e w' => e = .returned (.agg #[.int .u8 (129), .int .u8 (0), .int .u16 (0), .int .u16 (i % 16), .int .u16 (2)]) ∧ Kept w w' := by
  have j0 : 0 ≤ i % 16 := by omega
  have j1 : i % 16 < 16 := by omega
  have j2 : 257 * i < 65536 := by omega
  have j3 : 0 ≤ 257 * i := by omega
  have j4 : 0 ≤ i % 2 := by omega
  have j5 : i % 2 < 2 := by omega
  go_enter Tryd.func20, Tryd.ntmps20
  go_wp2
  refine bodyPost_ret (v := .agg #[.int .u8 (129), .int .u8 (0), .int .u16 (0), .int .u16 (i % 16), .int .u16 (2)]) (by simp [results, Tryd.results20, go_sem]) rfl ⟨rfl, by go_grown⟩
set_option maxRecDepth 100000 in
set_option maxHeartbeats 2000000 in
theorem rowed_1_false (a v i l : Int) (w : World) (a0 : 0 ≤ a) (a1 : a < 256) (v0 : 0 ≤ v) (v1 : v < 65536) (i0 : 0 ≤ i) (i1 : i < 256) (l0 : 0 ≤ l) (l1 : l < 65536) (hk : a % 15 = 1) :
    Calls Tryd.prog 20 #[.agg #[.int .u8 a, .int .u16 v, .int .u8 i, .bool false, .int .u16 l]] w fun e w' => e = .returned (.agg #[.int .u8 (129), .int .u8 (0), .int .u16 (0), .int .u16 (i % 16), .int .u16 (2)]) ∧ Kept w w' := by
  have j0 : 0 ≤ i % 16 := by omega
  have j1 : i % 16 < 16 := by omega
  have j2 : 257 * i < 65536 := by omega
  have j3 : 0 ≤ 257 * i := by omega
  have j4 : 0 ≤ i % 2 := by omega
  have j5 : i % 2 < 2 := by omega
  go_enter Tryd.func20, Tryd.ntmps20
  go_wp2
  refine bodyPost_ret (v := .agg #[.int .u8 (129), .int .u8 (0), .int .u16 (0), .int .u16 (i % 16), .int .u16 (2)]) (by simp [results, Tryd.results20, go_sem]) rfl ⟨rfl, by go_grown⟩
set_option maxRecDepth 100000 in
set_option maxHeartbeats 2000000 in
theorem rowed_2_true (a v i l : Int) (w : World) (a0 : 0 ≤ a) (a1 : a < 256) (v0 : 0 ≤ v) (v1 : v < 65536) (i0 : 0 ≤ i) (i1 : i < 256) (l0 : 0 ≤ l) (l1 : l < 65536) (hk : a % 15 = 2) :
    Calls Tryd.prog 20 #[.agg #[.int .u8 a, .int .u16 v, .int .u8 i, .bool true, .int .u16 l]] w fun e w' => e = .returned (.agg #[.int .u8 (130), .int .u8 (0), .int .u16 (0), .int .u16 (i % 16 + 128), .int .u16 (2)]) ∧ Kept w w' := by
  have j0 : 0 ≤ i % 16 := by omega
  have j1 : i % 16 < 16 := by omega
  have j2 : 257 * i < 65536 := by omega
  have j3 : 0 ≤ 257 * i := by omega
  have j4 : 0 ≤ i % 2 := by omega
  have j5 : i % 2 < 2 := by omega
  go_enter Tryd.func20, Tryd.ntmps20
  go_wp2
  refine bodyPost_ret (v := .agg #[.int .u8 (130), .int .u8 (0), .int .u16 (0), .int .u16 (i % 16 + 128), .int .u16 (2)]) (by simp [results, Tryd.results20, go_sem]) rfl ⟨rfl, by go_grown⟩
set_option maxRecDepth 100000 in
set_option maxHeartbeats 2000000 in
theorem rowed_2_false (a v i l : Int) (w : World) (a0 : 0 ≤ a) (a1 : a < 256) (v0 : 0 ≤ v) (v1 : v < 65536) (i0 : 0 ≤ i) (i1 : i < 256) (l0 : 0 ≤ l) (l1 : l < 65536) (hk : a % 15 = 2) :
    Calls Tryd.prog 20 #[.agg #[.int .u8 a, .int .u16 v, .int .u8 i, .bool false, .int .u16 l]] w fun e w' => e = .returned (.agg #[.int .u8 (130), .int .u8 (0), .int .u16 (0), .int .u16 (i % 16), .int .u16 (2)]) ∧ Kept w w' := by
  have j0 : 0 ≤ i % 16 := by omega
  have j1 : i % 16 < 16 := by omega
  have j2 : 257 * i < 65536 := by omega
  have j3 : 0 ≤ 257 * i := by omega
  have j4 : 0 ≤ i % 2 := by omega
  have j5 : i % 2 < 2 := by omega
  go_enter Tryd.func20, Tryd.ntmps20
  go_wp2
  refine bodyPost_ret (v := .agg #[.int .u8 (130), .int .u8 (0), .int .u16 (0), .int .u16 (i % 16), .int .u16 (2)]) (by simp [results, Tryd.results20, go_sem]) rfl ⟨rfl, by go_grown⟩
set_option maxRecDepth 100000 in
set_option maxHeartbeats 2000000 in
theorem rowed_3_true (a v i l : Int) (w : World) (a0 : 0 ≤ a) (a1 : a < 256) (v0 : 0 ≤ v) (v1 : v < 65536) (i0 : 0 ≤ i) (i1 : i < 256) (l0 : 0 ≤ l) (l1 : l < 65536) (hk : a % 15 = 3) :
    Calls Tryd.prog 20 #[.agg #[.int .u8 a, .int .u16 v, .int .u8 i, .bool true, .int .u16 l]] w fun e w' => e = .returned (.agg #[.int .u8 (0), .int .u8 (1), .int .u16 (1), .int .u16 (0), .int .u16 (0)]) ∧ Kept w w' := by
  have j0 : 0 ≤ i % 16 := by omega
  have j1 : i % 16 < 16 := by omega
  have j2 : 257 * i < 65536 := by omega
  have j3 : 0 ≤ 257 * i := by omega
  have j4 : 0 ≤ i % 2 := by omega
  have j5 : i % 2 < 2 := by omega
  go_enter Tryd.func20, Tryd.ntmps20
  go_wp2
  refine bodyPost_ret (v := .agg #[.int .u8 (0), .int .u8 (1), .int .u16 (1), .int .u16 (0), .int .u16 (0)]) (by simp [results, Tryd.results20, go_sem]) rfl ⟨rfl, by go_grown⟩
set_option maxRecDepth 100000 in
set_option maxHeartbeats 2000000 in
theorem rowed_3_false (a v i l : Int) (w : World) (a0 : 0 ≤ a) (a1 : a < 256) (v0 : 0 ≤ v) (v1 : v < 65536) (i0 : 0 ≤ i) (i1 : i < 256) (l0 : 0 ≤ l) (l1 : l < 65536) (hk : a % 15 = 3) :
    Calls Tryd.prog 20 #[.agg #[.int .u8 a, .int .u16 v, .int .u8 i, .bool false, .int .u16 l]] w fun e w' => e = .returned (.agg #[.int .u8 (0), .int .u8 (1), .int .u16 (1), .int .u16 (0), .int .u16 (0)]) ∧ Kept w w' := by
  have j0 : 0 ≤ i % 16 := by omega
  have j1 : i % 16 < 16 := by omega
  have j2 : 257 * i < 65536 := by omega
  have j3 : 0 ≤ 257 * i := by omega
  have j4 : 0 ≤ i % 2 := by omega
  have j5 : i % 2 < 2 := by omega
  go_enter Tryd.func20, Tryd.ntmps20
  go_wp2
  refine bodyPost_ret (v := .agg #[.int .u8 (0), .int .u8 (1), .int .u16 (1), .int .u16 (0), .int .u16 (0)]) (by simp [results, Tryd.results20, go_sem]) rfl ⟨rfl, by go_grown⟩
set_option maxRecDepth 100000 in
set_option maxHeartbeats 2000000 in
theorem rowed_4_true (a v i l : Int) (w : World) (a0 : 0 ≤ a) (a1 : a < 256) (v0 : 0 ≤ v) (v1 : v < 65536) (i0 : 0 ≤ i) (i1 : i < 256) (l0 : 0 ≤ l) (l1 : l < 65536) (hk : a % 15 = 4) :
    Calls Tryd.prog 20 #[.agg #[.int .u8 a, .int .u16 v, .int .u8 i, .bool true, .int .u16 l]] w fun e w' => e = .returned (.agg #[.int .u8 (2), .int .u8 (1), .int .u16 (0), .int .u16 (i % 16 + 128), .int .u16 (0)]) ∧ Kept w w' := by
  have j0 : 0 ≤ i % 16 := by omega
  have j1 : i % 16 < 16 := by omega
  have j2 : 257 * i < 65536 := by omega
  have j3 : 0 ≤ 257 * i := by omega
  have j4 : 0 ≤ i % 2 := by omega
  have j5 : i % 2 < 2 := by omega
  go_enter Tryd.func20, Tryd.ntmps20
  go_wp2
  refine bodyPost_ret (v := .agg #[.int .u8 (2), .int .u8 (1), .int .u16 (0), .int .u16 (i % 16 + 128), .int .u16 (0)]) (by simp [results, Tryd.results20, go_sem]) rfl ⟨rfl, by go_grown⟩
set_option maxRecDepth 100000 in
set_option maxHeartbeats 2000000 in
theorem rowed_4_false (a v i l : Int) (w : World) (a0 : 0 ≤ a) (a1 : a < 256) (v0 : 0 ≤ v) (v1 : v < 65536) (i0 : 0 ≤ i) (i1 : i < 256) (l0 : 0 ≤ l) (l1 : l < 65536) (hk : a % 15 = 4) :
    Calls Tryd.prog 20 #[.agg #[.int .u8 a, .int .u16 v, .int .u8 i, .bool false, .int .u16 l]] w fun e w' => e = .returned (.agg #[.int .u8 (2), .int .u8 (1), .int .u16 (0), .int .u16 (i % 16), .int .u16 (0)]) ∧ Kept w w' := by
  have j0 : 0 ≤ i % 16 := by omega
  have j1 : i % 16 < 16 := by omega
  have j2 : 257 * i < 65536 := by omega
  have j3 : 0 ≤ 257 * i := by omega
  have j4 : 0 ≤ i % 2 := by omega
  have j5 : i % 2 < 2 := by omega
  go_enter Tryd.func20, Tryd.ntmps20
  go_wp2
  refine bodyPost_ret (v := .agg #[.int .u8 (2), .int .u8 (1), .int .u16 (0), .int .u16 (i % 16), .int .u16 (0)]) (by simp [results, Tryd.results20, go_sem]) rfl ⟨rfl, by go_grown⟩
set_option maxRecDepth 100000 in
set_option maxHeartbeats 2000000 in
theorem rowed_5_true (a v i l : Int) (w : World) (a0 : 0 ≤ a) (a1 : a < 256) (v0 : 0 ≤ v) (v1 : v < 65536) (i0 : 0 ≤ i) (i1 : i < 256) (l0 : 0 ≤ l) (l1 : l < 65536) (hk : a % 15 = 5) :
    Calls Tryd.prog 20 #[.agg #[.int .u8 a, .int .u16 v, .int .u8 i, .bool true, .int .u16 l]] w fun e w' => e = .returned (.agg #[.int .u8 (0), .int .u8 (3), .int .u16 (1), .int .u16 (0), .int .u16 (0)]) ∧ Kept w w' := by
  have j0 : 0 ≤ i % 16 := by omega
  have j1 : i % 16 < 16 := by omega
  have j2 : 257 * i < 65536 := by omega
  have j3 : 0 ≤ 257 * i := by omega
  have j4 : 0 ≤ i % 2 := by omega
  have j5 : i % 2 < 2 := by omega
  go_enter Tryd.func20, Tryd.ntmps20
  go_wp2
  refine bodyPost_ret (v := .agg #[.int .u8 (0), .int .u8 (3), .int .u16 (1), .int .u16 (0), .int .u16 (0)]) (by simp [results, Tryd.results20, go_sem]) rfl ⟨rfl, by go_grown⟩
set_option maxRecDepth 100000 in
set_option maxHeartbeats 2000000 in
theorem rowed_5_false (a v i l : Int) (w : World) (a0 : 0 ≤ a) (a1 : a < 256) (v0 : 0 ≤ v) (v1 : v < 65536) (i0 : 0 ≤ i) (i1 : i < 256) (l0 : 0 ≤ l) (l1 : l < 65536) (hk : a % 15 = 5) :
    Calls Tryd.prog 20 #[.agg #[.int .u8 a, .int .u16 v, .int .u8 i, .bool false, .int .u16 l]] w fun e w' => e = .returned (.agg #[.int .u8 (0), .int .u8 (3), .int .u16 (1), .int .u16 (0), .int .u16 (0)]) ∧ Kept w w' := by
  have j0 : 0 ≤ i % 16 := by omega
  have j1 : i % 16 < 16 := by omega
  have j2 : 257 * i < 65536 := by omega
  have j3 : 0 ≤ 257 * i := by omega
  have j4 : 0 ≤ i % 2 := by omega
  have j5 : i % 2 < 2 := by omega
  go_enter Tryd.func20, Tryd.ntmps20
  go_wp2
  refine bodyPost_ret (v := .agg #[.int .u8 (0), .int .u8 (3), .int .u16 (1), .int .u16 (0), .int .u16 (0)]) (by simp [results, Tryd.results20, go_sem]) rfl ⟨rfl, by go_grown⟩
set_option maxRecDepth 100000 in
set_option maxHeartbeats 2000000 in
theorem rowed_6_true (a v i l : Int) (w : World) (a0 : 0 ≤ a) (a1 : a < 256) (v0 : 0 ≤ v) (v1 : v < 65536) (i0 : 0 ≤ i) (i1 : i < 256) (l0 : 0 ≤ l) (l1 : l < 65536) (hk : a % 15 = 6) :
    Calls Tryd.prog 20 #[.agg #[.int .u8 a, .int .u16 v, .int .u8 i, .bool true, .int .u16 l]] w fun e w' => e = .returned (.agg #[.int .u8 (2), .int .u8 (3), .int .u16 (0), .int .u16 (i % 16 + 128), .int .u16 (0)]) ∧ Kept w w' := by
  have j0 : 0 ≤ i % 16 := by omega
  have j1 : i % 16 < 16 := by omega
  have j2 : 257 * i < 65536 := by omega
  have j3 : 0 ≤ 257 * i := by omega
  have j4 : 0 ≤ i % 2 := by omega
  have j5 : i % 2 < 2 := by omega
  go_enter Tryd.func20, Tryd.ntmps20
  go_wp2
  refine bodyPost_ret (v := .agg #[.int .u8 (2), .int .u8 (3), .int .u16 (0), .int .u16 (i % 16 + 128), .int .u16 (0)]) (by simp [results, Tryd.results20, go_sem]) rfl ⟨rfl, by go_grown⟩
set_option maxRecDepth 100000 in
set_option maxHeartbeats 2000000 in
theorem rowed_6_false (a v i l : Int) (w : World) (a0 : 0 ≤ a) (a1 : a < 256) (v0 : 0 ≤ v) (v1 : v < 65536) (i0 : 0 ≤ i) (i1 : i < 256) (l0 : 0 ≤ l) (l1 : l < 65536) (hk : a % 15 = 6) :
    Calls Tryd.prog 20 #[.agg #[.int .u8 a, .int .u16 v, .int .u8 i, .bool false, .int .u16 l]] w fun e w' => e = .returned (.agg #[.int .u8 (2), .int .u8 (3), .int .u16 (0), .int .u16 (i % 16), .int .u16 (0)]) ∧ Kept w w' := by
  have j0 : 0 ≤ i % 16 := by omega
  have j1 : i % 16 < 16 := by omega
  have j2 : 257 * i < 65536 := by omega
  have j3 : 0 ≤ 257 * i := by omega
  have j4 : 0 ≤ i % 2 := by omega
  have j5 : i % 2 < 2 := by omega
  go_enter Tryd.func20, Tryd.ntmps20
  go_wp2
  refine bodyPost_ret (v := .agg #[.int .u8 (2), .int .u8 (3), .int .u16 (0), .int .u16 (i % 16), .int .u16 (0)]) (by simp [results, Tryd.results20, go_sem]) rfl ⟨rfl, by go_grown⟩
set_option maxRecDepth 100000 in
set_option maxHeartbeats 2000000 in
theorem rowed_7_true (a v i l : Int) (w : World) (a0 : 0 ≤ a) (a1 : a < 256) (v0 : 0 ≤ v) (v1 : v < 65536) (i0 : 0 ≤ i) (i1 : i < 256) (l0 : 0 ≤ l) (l1 : l < 65536) (hk : a % 15 = 7) :
    Calls Tryd.prog 20 #[.agg #[.int .u8 a, .int .u16 v, .int .u8 i, .bool true, .int .u16 l]] w fun e w' => e = .returned (.agg #[.int .u8 (0), .int .u8 (5), .int .u16 (v % 128), .int .u16 (0), .int .u16 (0)]) ∧ Kept w w' := by
  have j0 : 0 ≤ i % 16 := by omega
  have j1 : i % 16 < 16 := by omega
  have j2 : 257 * i < 65536 := by omega
  have j3 : 0 ≤ 257 * i := by omega
  have j4 : 0 ≤ i % 2 := by omega
  have j5 : i % 2 < 2 := by omega
  go_enter Tryd.func20, Tryd.ntmps20
  go_wp2
  refine bodyPost_ret (v := .agg #[.int .u8 (0), .int .u8 (5), .int .u16 (v % 128), .int .u16 (0), .int .u16 (0)]) (by simp [results, Tryd.results20, go_sem]) rfl ⟨rfl, by go_grown⟩
set_option maxRecDepth 100000 in
set_option maxHeartbeats 2000000 in
theorem rowed_7_false (a v i l : Int) (w : World) (a0 : 0 ≤ a) (a1 : a < 256) (v0 : 0 ≤ v) (v1 : v < 65536) (i0 : 0 ≤ i) (i1 : i < 256) (l0 : 0 ≤ l) (l1 : l < 65536) (hk : a % 15 = 7) :
    Calls Tryd.prog 20 #[.agg #[.int .u8 a, .int .u16 v, .int .u8 i, .bool false, .int .u16 l]] w fun e w' => e = .returned (.agg #[.int .u8 (0), .int .u8 (5), .int .u16 (v % 128), .int .u16 (0), .int .u16 (0)]) ∧ Kept w w' := by
  have j0 : 0 ≤ i % 16 := by omega
  have j1 : i % 16 < 16 := by omega
  have j2 : 257 * i < 65536 := by omega
  have j3 : 0 ≤ 257 * i := by omega
  have j4 : 0 ≤ i % 2 := by omega
  have j5 : i % 2 < 2 := by omega
  go_enter Tryd.func20, Tryd.ntmps20
  go_wp2
  refine bodyPost_ret (v := .agg #[.int .u8 (0), .int .u8 (5), .int .u16 (v % 128), .int .u16 (0), .int .u16 (0)]) (by simp [results, Tryd.results20, go_sem]) rfl ⟨rfl, by go_grown⟩
set_option maxRecDepth 100000 in
set_option maxHeartbeats 2000000 in
theorem rowed_8_true (a v i l : Int) (w : World) (a0 : 0 ≤ a) (a1 : a < 256) (v0 : 0 ≤ v) (v1 : v < 65536) (i0 : 0 ≤ i) (i1 : i < 256) (l0 : 0 ≤ l) (l1 : l < 65536) (hk : a % 15 = 8) :
    Calls Tryd.prog 20 #[.agg #[.int .u8 a, .int .u16 v, .int .u8 i, .bool true, .int .u16 l]] w fun e w' => e = .returned (.agg #[.int .u8 (128 + i % 2), .int .u8 (6), .int .u16 (v), .int .u16 (257 * i), .int .u16 (l)]) ∧ Kept w w' := by
  have j0 : 0 ≤ i % 16 := by omega
  have j1 : i % 16 < 16 := by omega
  have j2 : 257 * i < 65536 := by omega
  have j3 : 0 ≤ 257 * i := by omega
  have j4 : 0 ≤ i % 2 := by omega
  have j5 : i % 2 < 2 := by omega
  go_enter Tryd.func20, Tryd.ntmps20
  go_wp2
  refine bodyPost_ret (v := .agg #[.int .u8 (128 + i % 2), .int .u8 (6), .int .u16 (v), .int .u16 (257 * i), .int .u16 (l)]) (by simp [results, Tryd.results20, go_sem]) rfl ⟨rfl, by go_grown⟩
set_option maxRecDepth 100000 in
set_option maxHeartbeats 2000000 in
theorem rowed_8_false (a v i l : Int) (w : World) (a0 : 0 ≤ a) (a1 : a < 256) (v0 : 0 ≤ v) (v1 : v < 65536) (i0 : 0 ≤ i) (i1 : i < 256) (l0 : 0 ≤ l) (l1 : l < 65536) (hk : a % 15 = 8) :
    Calls Tryd.prog 20 #[.agg #[.int .u8 a, .int .u16 v, .int .u8 i, .bool false, .int .u16 l]] w fun e w' => e = .returned (.agg #[.int .u8 (128 + i % 2), .int .u8 (6), .int .u16 (v), .int .u16 (257 * i), .int .u16 (l)]) ∧ Kept w w' := by
  have j0 : 0 ≤ i % 16 := by omega
  have j1 : i % 16 < 16 := by omega
  have j2 : 257 * i < 65536 := by omega
  have j3 : 0 ≤ 257 * i := by omega
  have j4 : 0 ≤ i % 2 := by omega
  have j5 : i % 2 < 2 := by omega
  go_enter Tryd.func20, Tryd.ntmps20
  go_wp2
  refine bodyPost_ret (v := .agg #[.int .u8 (128 + i % 2), .int .u8 (6), .int .u16 (v), .int .u16 (257 * i), .int .u16 (l)]) (by simp [results, Tryd.results20, go_sem]) rfl ⟨rfl, by go_grown⟩
set_option maxRecDepth 100000 in
set_option maxHeartbeats 2000000 in
theorem rowed_9_true (a v i l : Int) (w : World) (a0 : 0 ≤ a) (a1 : a < 256) (v0 : 0 ≤ v) (v1 : v < 65536) (i0 : 0 ≤ i) (i1 : i < 256) (l0 : 0 ≤ l) (l1 : l < 65536) (hk : a % 15 = 9) :
    Calls Tryd.prog 20 #[.agg #[.int .u8 a, .int .u16 v, .int .u8 i, .bool true, .int .u16 l]] w fun e w' => e = .returned (.agg #[.int .u8 (0), .int .u8 (7), .int .u16 (v), .int .u16 (257 * i), .int .u16 (l)]) ∧ Kept w w' := by
  have j0 : 0 ≤ i % 16 := by omega
  have j1 : i % 16 < 16 := by omega
  have j2 : 257 * i < 65536 := by omega
  have j3 : 0 ≤ 257 * i := by omega
  have j4 : 0 ≤ i % 2 := by omega
  have j5 : i % 2 < 2 := by omega
  go_enter Tryd.func20, Tryd.ntmps20
  go_wp2
  refine bodyPost_ret (v := .agg #[.int .u8 (0), .int .u8 (7), .int .u16 (v), .int .u16 (257 * i), .int .u16 (l)]) (by simp [results, Tryd.results20, go_sem]) rfl ⟨rfl, by go_grown⟩
set_option maxRecDepth 100000 in
set_option maxHeartbeats 2000000 in
theorem rowed_9_false (a v i l : Int) (w : World) (a0 : 0 ≤ a) (a1 : a < 256) (v0 : 0 ≤ v) (v1 : v < 65536) (i0 : 0 ≤ i) (i1 : i < 256) (l0 : 0 ≤ l) (l1 : l < 65536) (hk : a % 15 = 9) :
    Calls Tryd.prog 20 #[.agg #[.int .u8 a, .int .u16 v, .int .u8 i, .bool false, .int .u16 l]] w fun e w' => e = .returned (.agg #[.int .u8 (0), .int .u8 (7), .int .u16 (v), .int .u16 (257 * i), .int .u16 (l)]) ∧ Kept w w' := by
  have j0 : 0 ≤ i % 16 := by omega
  have j1 : i % 16 < 16 := by omega
  have j2 : 257 * i < 65536 := by omega
  have j3 : 0 ≤ 257 * i := by omega
  have j4 : 0 ≤ i % 2 := by omega
  have j5 : i % 2 < 2 := by omega
  go_enter Tryd.func20, Tryd.ntmps20
  go_wp2
  refine bodyPost_ret (v := .agg #[.int .u8 (0), .int .u8 (7), .int .u16 (v), .int .u16 (257 * i), .int .u16 (l)]) (by simp [results, Tryd.results20, go_sem]) rfl ⟨rfl, by go_grown⟩
set_option maxRecDepth 100000 in
set_option maxHeartbeats 2000000 in
theorem rowed_10_true (a v i l : Int) (w : World) (a0 : 0 ≤ a) (a1 : a < 256) (v0 : 0 ≤ v) (v1 : v < 65536) (i0 : 0 ≤ i) (i1 : i < 256) (l0 : 0 ≤ l) (l1 : l < 65536) (hk : a % 15 = 10) :
    Calls Tryd.prog 20 #[.agg #[.int .u8 a, .int .u16 v, .int .u8 i, .bool true, .int .u16 l]] w fun e w' => e = .returned (.agg #[.int .u8 (128), .int .u8 (8), .int .u16 (0), .int .u16 (0), .int .u16 (1)]) ∧ Kept w w' := by
  have j0 : 0 ≤ i % 16 := by omega
  have j1 : i % 16 < 16 := by omega
  have j2 : 257 * i < 65536 := by omega
  have j3 : 0 ≤ 257 * i := by omega
  have j4 : 0 ≤ i % 2 := by omega
  have j5 : i % 2 < 2 := by omega
  go_enter Tryd.func20, Tryd.ntmps20
  go_wp2
  refine bodyPost_ret (v := .agg #[.int .u8 (128), .int .u8 (8), .int .u16 (0), .int .u16 (0), .int .u16 (1)]) (by simp [results, Tryd.results20, go_sem]) rfl ⟨rfl, by go_grown⟩
set_option maxRecDepth 100000 in
set_option maxHeartbeats 2000000 in
theorem rowed_10_false (a v i l : Int) (w : World) (a0 : 0 ≤ a) (a1 : a < 256) (v0 : 0 ≤ v) (v1 : v < 65536) (i0 : 0 ≤ i) (i1 : i < 256) (l0 : 0 ≤ l) (l1 : l < 65536) (hk : a % 15 = 10) :
    Calls Tryd.prog 20 #[.agg #[.int .u8 a, .int .u16 v, .int .u8 i, .bool false, .int .u16 l]] w fun e w' => e = .returned (.agg #[.int .u8 (128), .int .u8 (8), .int .u16 (0), .int .u16 (0), .int .u16 (1)]) ∧ Kept w w' := by
  have j0 : 0 ≤ i % 16 := by omega
  have j1 : i % 16 < 16 := by omega
  have j2 : 257 * i < 65536 := by omega
  have j3 : 0 ≤ 257 * i := by omega
  have j4 : 0 ≤ i % 2 := by omega
  have j5 : i % 2 < 2 := by omega
  go_enter Tryd.func20, Tryd.ntmps20
  go_wp2
  refine bodyPost_ret (v := .agg #[.int .u8 (128), .int .u8 (8), .int .u16 (0), .int .u16 (0), .int .u16 (1)]) (by simp [results, Tryd.results20, go_sem]) rfl ⟨rfl, by go_grown⟩
set_option maxRecDepth 100000 in
set_option maxHeartbeats 2000000 in
theorem rowed_11_true (a v i l : Int) (w : World) (a0 : 0 ≤ a) (a1 : a < 256) (v0 : 0 ≤ v) (v1 : v < 65536) (i0 : 0 ≤ i) (i1 : i < 256) (l0 : 0 ≤ l) (l1 : l < 65536) (hk : a % 15 = 11) :
    Calls Tryd.prog 20 #[.agg #[.int .u8 a, .int .u16 v, .int .u8 i, .bool true, .int .u16 l]] w fun e w' => e = .returned (.agg #[.int .u8 (0), .int .u8 (9), .int .u16 (v % 256), .int .u16 (0), .int .u16 (0)]) ∧ Kept w w' := by
  have j0 : 0 ≤ i % 16 := by omega
  have j1 : i % 16 < 16 := by omega
  have j2 : 257 * i < 65536 := by omega
  have j3 : 0 ≤ 257 * i := by omega
  have j4 : 0 ≤ i % 2 := by omega
  have j5 : i % 2 < 2 := by omega
  go_enter Tryd.func20, Tryd.ntmps20
  go_wp2
  refine bodyPost_ret (v := .agg #[.int .u8 (0), .int .u8 (9), .int .u16 (v % 256), .int .u16 (0), .int .u16 (0)]) (by simp [results, Tryd.results20, go_sem]) rfl ⟨rfl, by go_grown⟩
set_option maxRecDepth 100000 in
set_option maxHeartbeats 2000000 in
theorem rowed_11_false (a v i l : Int) (w : World) (a0 : 0 ≤ a) (a1 : a < 256) (v0 : 0 ≤ v) (v1 : v < 65536) (i0 : 0 ≤ i) (i1 : i < 256) (l0 : 0 ≤ l) (l1 : l < 65536) (hk : a % 15 = 11) :
    Calls Tryd.prog 20 #[.agg #[.int .u8 a, .int .u16 v, .int .u8 i, .bool false, .int .u16 l]] w fun e w' => e = .returned (.agg #[.int .u8 (0), .int .u8 (9), .int .u16 (v % 256), .int .u16 (0), .int .u16 (0)]) ∧ Kept w w' := by
  have j0 : 0 ≤ i % 16 := by omega
  have j1 : i % 16 < 16 := by omega
  have j2 : 257 * i < 65536 := by omega
  have j3 : 0 ≤ 257 * i := by omega
  have j4 : 0 ≤ i % 2 := by omega
  have j5 : i % 2 < 2 := by omega
  go_enter Tryd.func20, Tryd.ntmps20
  go_wp2
  refine bodyPost_ret (v := .agg #[.int .u8 (0), .int .u8 (9), .int .u16 (v % 256), .int .u16 (0), .int .u16 (0)]) (by simp [results, Tryd.results20, go_sem]) rfl ⟨rfl, by go_grown⟩
set_option maxRecDepth 100000 in
set_option maxHeartbeats 2000000 in
theorem rowed_12_true (a v i l : Int) (w : World) (a0 : 0 ≤ a) (a1 : a < 256) (v0 : 0 ≤ v) (v1 : v < 65536) (i0 : 0 ≤ i) (i1 : i < 256) (l0 : 0 ≤ l) (l1 : l < 65536) (hk : a % 15 = 12) :
    Calls Tryd.prog 20 #[.agg #[.int .u8 a, .int .u16 v, .int .u8 i, .bool true, .int .u16 l]] w fun e w' => e = .returned (.agg #[.int .u8 (129), .int .u8 (10), .int .u16 (0), .int .u16 (i % 16), .int .u16 (1)]) ∧ Kept w w' := by
  have j0 : 0 ≤ i % 16 := by omega
  have j1 : i % 16 < 16 := by omega
  have j2 : 257 * i < 65536 := by omega
  have j3 : 0 ≤ 257 * i := by omega
  have j4 : 0 ≤ i % 2 := by omega
  have j5 : i % 2 < 2 := by omega
  go_enter Tryd.func20, Tryd.ntmps20
  go_wp2
  refine bodyPost_ret (v := .agg #[.int .u8 (129), .int .u8 (10), .int .u16 (0), .int .u16 (i % 16), .int .u16 (1)]) (by simp [results, Tryd.results20, go_sem]) rfl ⟨rfl, by go_grown⟩
set_option maxRecDepth 100000 in
set_option maxHeartbeats 2000000 in
theorem rowed_12_false (a v i l : Int) (w : World) (a0 : 0 ≤ a) (a1 : a < 256) (v0 : 0 ≤ v) (v1 : v < 65536) (i0 : 0 ≤ i) (i1 : i < 256) (l0 : 0 ≤ l) (l1 : l < 65536) (hk : a % 15 = 12) :
    Calls Tryd.prog 20 #[.agg #[.int .u8 a, .int .u16 v, .int .u8 i, .bool false, .int .u16 l]] w fun e w' => e = .returned (.agg #[.int .u8 (129), .int .u8 (10), .int .u16 (0), .int .u16 (i % 16), .int .u16 (1)]) ∧ Kept w w' := by
  have j0 : 0 ≤ i % 16 := by omega
  have j1 : i % 16 < 16 := by omega
  have j2 : 257 * i < 65536 := by omega
  have j3 : 0 ≤ 257 * i := by omega
  have j4 : 0 ≤ i % 2 := by omega
  have j5 : i % 2 < 2 := by omega
  go_enter Tryd.func20, Tryd.ntmps20
  go_wp2
  refine bodyPost_ret (v := .agg #[.int .u8 (129), .int .u8 (10), .int .u16 (0), .int .u16 (i % 16), .int .u16 (1)]) (by simp [results, Tryd.results20, go_sem]) rfl ⟨rfl, by go_grown⟩
set_option maxRecDepth 100000 in
set_option maxHeartbeats 2000000 in
theorem rowed_13_true (a v i l : Int) (w : World) (a0 : 0 ≤ a) (a1 : a < 256) (v0 : 0 ≤ v) (v1 : v < 65536) (i0 : 0 ≤ i) (i1 : i < 256) (l0 : 0 ≤ l) (l1 : l < 65536) (hk : a % 15 = 13) :
    Calls Tryd.prog 20 #[.agg #[.int .u8 a, .int .u16 v, .int .u8 i, .bool true, .int .u16 l]] w fun e w' => e = .returned (.agg #[.int .u8 (1), .int .u8 (11), .int .u16 (v % 16), .int .u16 (i % 16), .int .u16 (0)]) ∧ Kept w w' := by
  have j0 : 0 ≤ i % 16 := by omega
  have j1 : i % 16 < 16 := by omega
  have j2 : 257 * i < 65536 := by omega
  have j3 : 0 ≤ 257 * i := by omega
  have j4 : 0 ≤ i % 2 := by omega
  have j5 : i % 2 < 2 := by omega
  go_enter Tryd.func20, Tryd.ntmps20
  go_wp2
  refine bodyPost_ret (v := .agg #[.int .u8 (1), .int .u8 (11), .int .u16 (v % 16), .int .u16 (i % 16), .int .u16 (0)]) (by simp [results, Tryd.results20, go_sem]) rfl ⟨rfl, by go_grown⟩
set_option maxRecDepth 100000 in
set_option maxHeartbeats 2000000 in
theorem rowed_13_false (a v i l : Int) (w : World) (a0 : 0 ≤ a) (a1 : a < 256) (v0 : 0 ≤ v) (v1 : v < 65536) (i0 : 0 ≤ i) (i1 : i < 256) (l0 : 0 ≤ l) (l1 : l < 65536) (hk : a % 15 = 13) :
    Calls Tryd.prog 20 #[.agg #[.int .u8 a, .int .u16 v, .int .u8 i, .bool false, .int .u16 l]] w fun e w' => e = .returned (.agg #[.int .u8 (1), .int .u8 (11), .int .u16 (v % 16), .int .u16 (i % 16), .int .u16 (0)]) ∧ Kept w w' := by
  have j0 : 0 ≤ i % 16 := by omega
  have j1 : i % 16 < 16 := by omega
  have j2 : 257 * i < 65536 := by omega
  have j3 : 0 ≤ 257 * i := by omega
  have j4 : 0 ≤ i % 2 := by omega
  have j5 : i % 2 < 2 := by omega
  go_enter Tryd.func20, Tryd.ntmps20
  go_wp2
  refine bodyPost_ret (v := .agg #[.int .u8 (1), .int .u8 (11), .int .u16 (v % 16), .int .u16 (i % 16), .int .u16 (0)]) (by simp [results, Tryd.results20, go_sem]) rfl ⟨rfl, by go_grown⟩
set_option maxRecDepth 100000 in
set_option maxHeartbeats 2000000 in
theorem rowed_14_true (a v i l : Int) (w : World) (a0 : 0 ≤ a) (a1 : a < 256) (v0 : 0 ≤ v) (v1 : v < 65536) (i0 : 0 ≤ i) (i1 : i < 256) (l0 : 0 ≤ l) (l1 : l < 65536) (hk : a % 15 = 14) :
    Calls Tryd.prog 20 #[.agg #[.int .u8 a, .int .u16 v, .int .u8 i, .bool true, .int .u16 l]] w fun e w' => e = .returned (.agg #[.int .u8 (130), .int .u8 (12), .int .u16 (0), .int .u16 (i % 16 + 128), .int .u16 (2)]) ∧ Kept w w' := by
  have j0 : 0 ≤ i % 16 := by omega
  have j1 : i % 16 < 16 := by omega
  have j2 : 257 * i < 65536 := by omega
  have j3 : 0 ≤ 257 * i := by omega
  have j4 : 0 ≤ i % 2 := by omega
  have j5 : i % 2 < 2 := by omega
  go_enter Tryd.func20, Tryd.ntmps20
  go_wp2
  refine bodyPost_ret (v := .agg #[.int .u8 (130), .int .u8 (12), .int .u16 (0), .int .u16 (i % 16 + 128), .int .u16 (2)]) (by simp [results, Tryd.results20, go_sem]) rfl ⟨rfl, by go_grown⟩
set_option maxRecDepth 100000 in
set_option maxHeartbeats 2000000 in
theorem rowed_14_false (a v i l : Int) (w : World) (a0 : 0 ≤ a) (a1 : a < 256) (v0 : 0 ≤ v) (v1 : v < 65536) (i0 : 0 ≤ i) (i1 : i < 256) (l0 : 0 ≤ l) (l1 : l < 65536) (hk : a % 15 = 14) :
    Calls Tryd.prog 20 #[.agg #[.int .u8 a, .int .u16 v, .int .u8 i, .bool false, .int .u16 l]] w fun e w' => e = .returned (.agg #[.int .u8 (130), .int .u8 (12), .int .u16 (0), .int .u16 (i % 16), .int .u16 (2)]) ∧ Kept w w' := by
  have j0 : 0 ≤ i % 16 := by omega
  have j1 : i % 16 < 16 := by omega
  have j2 : 257 * i < 65536 := by omega
  have j3 : 0 ≤ 257 * i := by omega
  have j4 : 0 ≤ i % 2 := by omega
  have j5 : i % 2 < 2 := by omega
  go_enter Tryd.func20, Tryd.ntmps20
  go_wp2
  refine bodyPost_ret (v := .agg #[.int .u8 (130), .int .u8 (12), .int .u16 (0), .int .u16 (i % 16), .int .u16 (2)]) (by simp [results, Tryd.results20, go_sem]) rfl ⟨rfl, by go_grown⟩
def rqV (r : Rq) : Value := .agg #[.int .u8 r.typ, .int .u8 r.code, .int .u16 r.val, .int .u16 r.idx, .int .u16 r.len]
theorem rowed_any (a v i l : Int) (b : Bool) (w : World) (a0 : 0 ≤ a) (a1 : a < 256) (v0 : 0 ≤ v) (v1 : v < 65536) (i0 : 0 ≤ i) (i1 : i < 256) (l0 : 0 ≤ l) (l1 : l < 65536) :
    Calls Tryd.prog 20 #[.agg #[.int .u8 a, .int .u16 v, .int .u8 i, .bool b, .int .u16 l]] w fun e w' => e = .returned (rqV (rowR (a % 15) v i l b)) ∧ Kept w w' := by
  have hcs : a % 15 = 0 ∨ a % 15 = 1 ∨ a % 15 = 2 ∨ a % 15 = 3 ∨ a % 15 = 4 ∨ a % 15 = 5 ∨ a % 15 = 6 ∨ a % 15 = 7 ∨ a % 15 = 8 ∨ a % 15 = 9 ∨ a % 15 = 10 ∨ a % 15 = 11 ∨ a % 15 = 12 ∨ a % 15 = 13 ∨ a % 15 = 14 := by omega
  rcases hcs with h | h | h | h | h | h | h | h | h | h | h | h | h | h | h <;> rw [h] <;> cases b
  · exact rowed_0_false a v i l w a0 a1 v0 v1 i0 i1 l0 l1 h
  · exact rowed_0_true a v i l w a0 a1 v0 v1 i0 i1 l0 l1 h
  · exact rowed_1_false a v i l w a0 a1 v0 v1 i0 i1 l0 l1 h
  · exact rowed_1_true a v i l w a0 a1 v0 v1 i0 i1 l0 l1 h
  · exact rowed_2_false a v i l w a0 a1 v0 v1 i0 i1 l0 l1 h
  · exact rowed_2_true a v i l w a0 a1 v0 v1 i0 i1 l0 l1 h
  · exact rowed_3_false a v i l w a0 a1 v0 v1 i0 i1 l0 l1 h
  · exact rowed_3_true a v i l w a0 a1 v0 v1 i0 i1 l0 l1 h
  · exact rowed_4_false a v i l w a0 a1 v0 v1 i0 i1 l0 l1 h
  · exact rowed_4_true a v i l w a0 a1 v0 v1 i0 i1 l0 l1 h
  · exact rowed_5_false a v i l w a0 a1 v0 v1 i0 i1 l0 l1 h
  · exact rowed_5_true a v i l w a0 a1 v0 v1 i0 i1 l0 l1 h
  · exact rowed_6_false a v i l w a0 a1 v0 v1 i0 i1 l0 l1 h
  · exact rowed_6_true a v i l w a0 a1 v0 v1 i0 i1 l0 l1 h
  · exact rowed_7_false a v i l w a0 a1 v0 v1 i0 i1 l0 l1 h
  · exact rowed_7_true a v i l w a0 a1 v0 v1 i0 i1 l0 l1 h
  · exact rowed_8_false a v i l w a0 a1 v0 v1 i0 i1 l0 l1 h
  · exact rowed_8_true a v i l w a0 a1 v0 v1 i0 i1 l0 l1 h
  · exact rowed_9_false a v i l w a0 a1 v0 v1 i0 i1 l0 l1 h
  · exact rowed_9_true a v i l w a0 a1 v0 v1 i0 i1 l0 l1 h
  · exact rowed_10_false a v i l w a0 a1 v0 v1 i0 i1 l0 l1 h
  · exact rowed_10_true a v i l w a0 a1 v0 v1 i0 i1 l0 l1 h
  · exact rowed_11_false a v i l w a0 a1 v0 v1 i0 i1 l0 l1 h
  · exact rowed_11_true a v i l w a0 a1 v0 v1 i0 i1 l0 l1 h
  · exact rowed_12_false a v i l w a0 a1 v0 v1 i0 i1 l0 l1 h
  · exact rowed_12_true a v i l w a0 a1 v0 v1 i0 i1 l0 l1 h
  · exact rowed_13_false a v i l w a0 a1 v0 v1 i0 i1 l0 l1 h
  · exact rowed_13_true a v i l w a0 a1 v0 v1 i0 i1 l0 l1 h
  · exact rowed_14_false a v i l w a0 a1 v0 v1 i0 i1 l0 l1 h
  · exact rowed_14_true a v i l w a0 a1 v0 v1 i0 i1 l0 l1 h
/-- what is known of a row with its values -/
def RowOk (t c v x l : Int) : Prop :=
  (t = 128 ∧ c = 0 ∧ v = 0 ∧ x = 0 ∧ l = 2) ∨
  (t = 129 ∧ c = 0 ∧ v = 0 ∧ x < 16 ∧ l = 2) ∨
  (t = 130 ∧ c = 0 ∧ v = 0 ∧ epB x = true ∧ l = 2) ∨
  (t = 0 ∧ (c = 1 ∨ c = 3) ∧ v = 1 ∧ x = 0 ∧ l = 0) ∨
  (t = 2 ∧ (c = 1 ∨ c = 3) ∧ v = 0 ∧ epB x = true ∧ l = 0) ∨
  (t = 0 ∧ c = 5 ∧ v < 128 ∧ x = 0 ∧ l = 0) ∨
  (t = 128 ∧ c = 6) ∨
  (t = 129 ∧ c = 6) ∨
  (t = 0 ∧ c = 7) ∨
  (t = 128 ∧ c = 8 ∧ v = 0 ∧ x = 0 ∧ l = 1) ∨
  (t = 0 ∧ c = 9 ∧ v < 256 ∧ x = 0 ∧ l = 0) ∨
  (t = 129 ∧ c = 10 ∧ v = 0 ∧ x < 16 ∧ l = 1) ∨
  (t = 1 ∧ c = 11 ∧ v < 16 ∧ x < 16 ∧ l = 0) ∨
  (t = 130 ∧ c = 12 ∧ v = 0 ∧ epB x = true ∧ l = 2)
theorem ep_at (b : Bool) (i : Int) (i0 : 0 ≤ i) : epB (atW b i) = true := by
  unfold epB atW
  cases b
  · have : i % 16 < 16 := by omega
    simp [this]
  · have h1 : ¬ (i % 16 + 128 < 16) := by omega
    have h2 : 128 ≤ i % 16 + 128 := by omega
    have h3 : i % 16 + 128 < 144 := by omega
    simp [h1, h2, h3]
theorem at_range (b : Bool) (i : Int) (i0 : 0 ≤ i) : 0 ≤ atW b i ∧ atW b i < 65536 := by unfold atW; cases b <;> simp <;> omega
theorem row_ok (k v i l : Int) (b : Bool) (k0 : 0 ≤ k) (k1 : k < 15) (v0 : 0 ≤ v) (v1 : v < 65536) (i0 : 0 ≤ i) (i1 : i < 256) (l0 : 0 ≤ l) (l1 : l < 65536) :
    RowOk (rowR k v i l b).typ (rowR k v i l b).code (rowR k v i l b).val (rowR k v i l b).idx (rowR k v i l b).len ∧ (rowR k v i l b).ok := by
  have he := ep_at b i i0
  have ha := at_range b i i0
  have hcs : k = 0 ∨ k = 1 ∨ k = 2 ∨ k = 3 ∨ k = 4 ∨ k = 5 ∨ k = 6 ∨ k = 7 ∨ k = 8 ∨ k = 9 ∨ k = 10 ∨ k = 11 ∨ k = 12 ∨ k = 13 ∨ k = 14 := by omega
  rcases hcs with rfl | rfl | rfl | rfl | rfl | rfl | rfl | rfl | rfl | rfl | rfl | rfl | rfl | rfl | rfl
  · rw [show rowR 0 v i l b = ⟨128, 0, 0, 0, 2⟩ from rfl]
    dsimp only
    unfold RowOk Rq.ok
    exact ⟨.inl (⟨rfl, rfl, rfl, rfl, rfl⟩), by dsimp only; omega⟩
  · rw [show rowR 1 v i l b = ⟨129, 0, 0, i % 16, 2⟩ from rfl]
    dsimp only
    unfold RowOk Rq.ok
    exact ⟨.inr (.inl (⟨rfl, rfl, rfl, by omega, rfl⟩)), by dsimp only; omega⟩
  · rw [show rowR 2 v i l b = ⟨130, 0, 0, atW b i, 2⟩ from rfl]
    dsimp only
    unfold RowOk Rq.ok
    exact ⟨.inr (.inr (.inl (⟨rfl, rfl, rfl, he, rfl⟩))), by dsimp only; omega⟩
  · rw [show rowR 3 v i l b = ⟨0, 1, 1, 0, 0⟩ from rfl]
    dsimp only
    unfold RowOk Rq.ok
    exact ⟨.inr (.inr (.inr (.inl (⟨rfl, .inl rfl, rfl, rfl, rfl⟩)))), by dsimp only; omega⟩
  · rw [show rowR 4 v i l b = ⟨2, 1, 0, atW b i, 0⟩ from rfl]
    dsimp only
    unfold RowOk Rq.ok
    exact ⟨.inr (.inr (.inr (.inr (.inl (⟨rfl, .inl rfl, rfl, he, rfl⟩))))), by dsimp only; omega⟩
  · rw [show rowR 5 v i l b = ⟨0, 3, 1, 0, 0⟩ from rfl]
    dsimp only
    unfold RowOk Rq.ok
    exact ⟨.inr (.inr (.inr (.inl (⟨rfl, .inr rfl, rfl, rfl, rfl⟩)))), by dsimp only; omega⟩
  · rw [show rowR 6 v i l b = ⟨2, 3, 0, atW b i, 0⟩ from rfl]
    dsimp only
    unfold RowOk Rq.ok
    exact ⟨.inr (.inr (.inr (.inr (.inl (⟨rfl, .inr rfl, rfl, he, rfl⟩))))), by dsimp only; omega⟩
  · rw [show rowR 7 v i l b = ⟨0, 5, v % 128, 0, 0⟩ from rfl]
    dsimp only
    unfold RowOk Rq.ok
    exact ⟨.inr (.inr (.inr (.inr (.inr (.inl (⟨rfl, rfl, by omega, rfl, rfl⟩)))))), by dsimp only; omega⟩
  · rw [show rowR 8 v i l b = ⟨128 + i % 2, 6, v, 257 * i, l⟩ from rfl]
    dsimp only
    unfold RowOk Rq.ok
    have h2 : i % 2 = 0 ∨ i % 2 = 1 := by omega
    rcases h2 with h2 | h2 <;> rw [h2]
    · exact ⟨.inr (.inr (.inr (.inr (.inr (.inr (.inl (⟨by decide, rfl⟩))))))), by dsimp only; omega⟩
    · exact ⟨.inr (.inr (.inr (.inr (.inr (.inr (.inr (.inl (⟨by decide, rfl⟩)))))))), by dsimp only; omega⟩
  · rw [show rowR 9 v i l b = ⟨0, 7, v, 257 * i, l⟩ from rfl]
    dsimp only
    unfold RowOk Rq.ok
    exact ⟨.inr (.inr (.inr (.inr (.inr (.inr (.inr (.inr (.inl (⟨rfl, rfl⟩))))))))), by dsimp only; omega⟩
  · rw [show rowR 10 v i l b = ⟨128, 8, 0, 0, 1⟩ from rfl]
    dsimp only
    unfold RowOk Rq.ok
    exact ⟨.inr (.inr (.inr (.inr (.inr (.inr (.inr (.inr (.inr (.inl (⟨rfl, rfl, rfl, rfl, rfl⟩)))))))))), by dsimp only; omega⟩
  · rw [show rowR 11 v i l b = ⟨0, 9, v % 256, 0, 0⟩ from rfl]
    dsimp only
    unfold RowOk Rq.ok
    exact ⟨.inr (.inr (.inr (.inr (.inr (.inr (.inr (.inr (.inr (.inr (.inl (⟨rfl, rfl, by omega, rfl, rfl⟩))))))))))), by dsimp only; omega⟩
  · rw [show rowR 12 v i l b = ⟨129, 10, 0, i % 16, 1⟩ from rfl]
    dsimp only
    unfold RowOk Rq.ok
    exact ⟨.inr (.inr (.inr (.inr (.inr (.inr (.inr (.inr (.inr (.inr (.inr (.inl (⟨rfl, rfl, rfl, by omega, rfl⟩)))))))))))), by dsimp only; omega⟩
  · rw [show rowR 13 v i l b = ⟨1, 11, v % 16, i % 16, 0⟩ from rfl]
    dsimp only
    unfold RowOk Rq.ok
    exact ⟨.inr (.inr (.inr (.inr (.inr (.inr (.inr (.inr (.inr (.inr (.inr (.inr (.inl (⟨rfl, rfl, by omega, by omega, rfl⟩))))))))))))), by dsimp only; omega⟩
  · rw [show rowR 14 v i l b = ⟨130, 12, 0, atW b i, 2⟩ from rfl]
    dsimp only
    unfold RowOk Rq.ok
    exact ⟨.inr (.inr (.inr (.inr (.inr (.inr (.inr (.inr (.inr (.inr (.inr (.inr (.inr (⟨rfl, rfl, rfl, he, rfl⟩))))))))))))), by dsimp only; omega⟩
end Go.Proofs.YtfoeihbajichpaaDoor
