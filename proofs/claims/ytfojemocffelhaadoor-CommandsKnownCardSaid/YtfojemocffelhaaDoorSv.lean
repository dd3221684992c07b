
/- The law's own function bytes. -/
import Derived.Test.YtfojemocffelhaaDoorChecked
import Derived.Deep.RegionHeld3
import Derived.Deep.DrawnRows
import Derived.Deep.DeepCutAuto
import Derived.Deep.LoopGhost
import Derived.Outline
import Derived.Handy
import Derived.OwnWalk
import Derived.Test.YtfojemocffelhaaDoorSt
set_option linter.unusedVariables false
set_option linter.unusedSimpArgs false
set_option linter.unusedSectionVars false
namespace Go.Proofs.YtfojemocffelhaaDoor
open Go.RowKit
attribute [local go_sem ↓] Go.wp_at_zero Go.wp_at_succ
set_option maxRecDepth 100000
set_option maxHeartbeats 1000000

theorem lb_0 (b c l : Int) (w : World) (hP : properZ 0 b c l = true) : Calls Tryd.prog 19 #[.agg #[.int .u8 0, .int .u32 b, .int .u16 c, .int .i64 l]] w fun e w' => ∃ g, e = .returned (.slice (some ⟨g, 0, none⟩) (widZ 0) (widZ 0)) ∧ w.heap.size ≤ g ∧ w'.heap[g]? = some (.cells (u8C (bytesZ 0 b c l)).toArray 5 (0, 0)) ∧ Kept w w' := by
  clear hP
  go_enter Tryd.func19, Tryd.ntmps19
  go_wp2_with fail
  go_ret
  exact ⟨_, rfl, by simp, heap_at _ (by simp), by go_grown⟩
theorem lb_37 (b c l : Int) (w : World) (hP : properZ 37 b c l = true) : Calls Tryd.prog 19 #[.agg #[.int .u8 37, .int .u32 b, .int .u16 c, .int .i64 l]] w fun e w' => ∃ g, e = .returned (.slice (some ⟨g, 0, none⟩) (widZ 37) (widZ 37)) ∧ w.heap.size ≤ g ∧ w'.heap[g]? = some (.cells (u8C (bytesZ 37 b c l)).toArray 5 (0, 0)) ∧ Kept w w' := by
  clear hP
  go_enter Tryd.func19, Tryd.ntmps19
  go_wp2_with fail
  go_ret
  exact ⟨_, rfl, by simp, heap_at _ (by simp), by go_grown⟩
theorem lb_3 (b c l : Int) (w : World) (hl0 : 0 ≤ l) (hl : l < 256) : Calls Tryd.prog 19 #[.agg #[.int .u8 3, .int .u32 b, .int .u16 c, .int .i64 l]] w fun e w' => ∃ g, e = .returned (.slice (some ⟨g, 0, none⟩) (widZ 3) (widZ 3)) ∧ w.heap.size ≤ g ∧ w'.heap[g]? = some (.cells (u8C (bytesZ 3 b c l)).toArray 5 (0, 0)) ∧ Kept w w' := by
  have hw : IntKind.u8.wrap l = l := by rw [IntKind.wrap_u8]; omega
  have hc : u8C (bytesZ 3 b c l) = [.int .u8 3, .int .u8 0, .int .u8 0, .int .u8 0, .int .u8 l, .int .u8 0] := by
    simp [bytesZ, u8C, uz_int hl0 hl]
    rfl
  rw [hc]
  clear hc
  go_enter Tryd.func19, Tryd.ntmps19
  go_wp2_with fail
  go_ret
  exact ⟨_, rfl, by simp, heap_at _ (by simp), by go_grown⟩
theorem lb_18 (b c l : Int) (w : World) (hl0 : 0 ≤ l) (hl : l < 256) : Calls Tryd.prog 19 #[.agg #[.int .u8 18, .int .u32 b, .int .u16 c, .int .i64 l]] w fun e w' => ∃ g, e = .returned (.slice (some ⟨g, 0, none⟩) (widZ 18) (widZ 18)) ∧ w.heap.size ≤ g ∧ w'.heap[g]? = some (.cells (u8C (bytesZ 18 b c l)).toArray 5 (0, 0)) ∧ Kept w w' := by
  have hw : IntKind.u8.wrap l = l := by rw [IntKind.wrap_u8]; omega
  have hc : u8C (bytesZ 18 b c l) = [.int .u8 18, .int .u8 0, .int .u8 0, .int .u8 0, .int .u8 l, .int .u8 0] := by
    simp [bytesZ, u8C, uz_int hl0 hl]
    rfl
  rw [hc]
  clear hc
  go_enter Tryd.func19, Tryd.ntmps19
  go_wp2_with fail
  go_ret
  exact ⟨_, rfl, by simp, heap_at _ (by simp), by go_grown⟩
theorem lb_40 (b c l : Int) (bn cn : Nat) (w : World) (hb : b = bn) (hc : c = cn) (hbn : bn < 4294967296) (hcn : cn < 65536) : Calls Tryd.prog 19 #[.agg #[.int .u8 40, .int .u32 b, .int .u16 c, .int .i64 l]] w fun e w' => ∃ g, e = .returned (.slice (some ⟨g, 0, none⟩) (widZ 40) (widZ 40)) ∧ w.heap.size ≤ g ∧ w'.heap[g]? = some (.cells (u8C (bytesZ 40 b c l)).toArray 5 (0, 0)) ∧ Kept w w' := by
  subst hb hc
  have w3 := byte3 hbn
  have w2 := byte2 bn
  have w1 := byte1 bn
  have w0 := byte0 bn
  have v1 := byte1' hcn
  have v0 := byte0 cn
  have hcells : u8C (bytesZ 40 bn cn l) = [.int .u8 40, .int .u8 0, .int .u8 ((bn : Int) / 16777216), .int .u8 ((bn : Int) / 65536 % 256), .int .u8 ((bn : Int) / 256 % 256), .int .u8 ((bn : Int) % 256), .int .u8 0, .int .u8 ((cn : Int) / 256), .int .u8 ((cn : Int) % 256), .int .u8 0] := by
    rw [← w3, ← w2, ← w1, ← w0, ← v1, ← v0]
    simp [bytesZ, u8C]
    rfl
  rw [hcells]
  clear w3 w2 w1 w0 v1 v0 hcells
  have x3 : IntKind.u8.wrap ((bn : Int) / 16777216) = (bn : Int) / 16777216 := by rw [IntKind.wrap_u8]; omega
  have x2 : IntKind.u8.wrap ((bn : Int) / 65536) = (bn : Int) / 65536 % 256 := by rw [IntKind.wrap_u8]
  have x1 : IntKind.u8.wrap ((bn : Int) / 256) = (bn : Int) / 256 % 256 := by rw [IntKind.wrap_u8]
  have x0 : IntKind.u8.wrap (bn : Int) = (bn : Int) % 256 := by rw [IntKind.wrap_u8]
  have y1 : IntKind.u8.wrap ((cn : Int) / 256) = (cn : Int) / 256 := by rw [IntKind.wrap_u8]; omega
  have y0 : IntKind.u8.wrap (cn : Int) = (cn : Int) % 256 := by rw [IntKind.wrap_u8]
  go_enter Tryd.func19, Tryd.ntmps19
  go_wp2_with fail
  go_ret
  exact ⟨_, rfl, by simp, heap_at _ (by simp), by go_grown⟩
theorem lb_42 (b c l : Int) (bn cn : Nat) (w : World) (hb : b = bn) (hc : c = cn) (hbn : bn < 4294967296) (hcn : cn < 65536) : Calls Tryd.prog 19 #[.agg #[.int .u8 42, .int .u32 b, .int .u16 c, .int .i64 l]] w fun e w' => ∃ g, e = .returned (.slice (some ⟨g, 0, none⟩) (widZ 42) (widZ 42)) ∧ w.heap.size ≤ g ∧ w'.heap[g]? = some (.cells (u8C (bytesZ 42 b c l)).toArray 5 (0, 0)) ∧ Kept w w' := by
  subst hb hc
  have w3 := byte3 hbn
  have w2 := byte2 bn
  have w1 := byte1 bn
  have w0 := byte0 bn
  have v1 := byte1' hcn
  have v0 := byte0 cn
  have hcells : u8C (bytesZ 42 bn cn l) = [.int .u8 42, .int .u8 0, .int .u8 ((bn : Int) / 16777216), .int .u8 ((bn : Int) / 65536 % 256), .int .u8 ((bn : Int) / 256 % 256), .int .u8 ((bn : Int) % 256), .int .u8 0, .int .u8 ((cn : Int) / 256), .int .u8 ((cn : Int) % 256), .int .u8 0] := by
    rw [← w3, ← w2, ← w1, ← w0, ← v1, ← v0]
    simp [bytesZ, u8C]
    rfl
  rw [hcells]
  clear w3 w2 w1 w0 v1 v0 hcells
  have x3 : IntKind.u8.wrap ((bn : Int) / 16777216) = (bn : Int) / 16777216 := by rw [IntKind.wrap_u8]; omega
  have x2 : IntKind.u8.wrap ((bn : Int) / 65536) = (bn : Int) / 65536 % 256 := by rw [IntKind.wrap_u8]
  have x1 : IntKind.u8.wrap ((bn : Int) / 256) = (bn : Int) / 256 % 256 := by rw [IntKind.wrap_u8]
  have x0 : IntKind.u8.wrap (bn : Int) = (bn : Int) % 256 := by rw [IntKind.wrap_u8]
  have y1 : IntKind.u8.wrap ((cn : Int) / 256) = (cn : Int) / 256 := by rw [IntKind.wrap_u8]; omega
  have y0 : IntKind.u8.wrap (cn : Int) = (cn : Int) % 256 := by rw [IntKind.wrap_u8]
  go_enter Tryd.func19, Tryd.ntmps19
  go_wp2_with fail
  go_ret
  exact ⟨_, rfl, by simp, heap_at _ (by simp), by go_grown⟩
theorem lb_53 (b c l : Int) (bn cn : Nat) (w : World) (hb : b = bn) (hc : c = cn) (hbn : bn < 4294967296) (hcn : cn < 65536) : Calls Tryd.prog 19 #[.agg #[.int .u8 53, .int .u32 b, .int .u16 c, .int .i64 l]] w fun e w' => ∃ g, e = .returned (.slice (some ⟨g, 0, none⟩) (widZ 53) (widZ 53)) ∧ w.heap.size ≤ g ∧ w'.heap[g]? = some (.cells (u8C (bytesZ 53 b c l)).toArray 5 (0, 0)) ∧ Kept w w' := by
  subst hb hc
  have w3 := byte3 hbn
  have w2 := byte2 bn
  have w1 := byte1 bn
  have w0 := byte0 bn
  have v1 := byte1' hcn
  have v0 := byte0 cn
  have hcells : u8C (bytesZ 53 bn cn l) = [.int .u8 53, .int .u8 0, .int .u8 ((bn : Int) / 16777216), .int .u8 ((bn : Int) / 65536 % 256), .int .u8 ((bn : Int) / 256 % 256), .int .u8 ((bn : Int) % 256), .int .u8 0, .int .u8 ((cn : Int) / 256), .int .u8 ((cn : Int) % 256), .int .u8 0] := by
    rw [← w3, ← w2, ← w1, ← w0, ← v1, ← v0]
    simp [bytesZ, u8C]
    rfl
  rw [hcells]
  clear w3 w2 w1 w0 v1 v0 hcells
  have x3 : IntKind.u8.wrap ((bn : Int) / 16777216) = (bn : Int) / 16777216 := by rw [IntKind.wrap_u8]; omega
  have x2 : IntKind.u8.wrap ((bn : Int) / 65536) = (bn : Int) / 65536 % 256 := by rw [IntKind.wrap_u8]
  have x1 : IntKind.u8.wrap ((bn : Int) / 256) = (bn : Int) / 256 % 256 := by rw [IntKind.wrap_u8]
  have x0 : IntKind.u8.wrap (bn : Int) = (bn : Int) % 256 := by rw [IntKind.wrap_u8]
  have y1 : IntKind.u8.wrap ((cn : Int) / 256) = (cn : Int) / 256 := by rw [IntKind.wrap_u8]; omega
  have y0 : IntKind.u8.wrap (cn : Int) = (cn : Int) % 256 := by rw [IntKind.wrap_u8]
  go_enter Tryd.func19, Tryd.ntmps19
  go_wp2_with fail
  go_ret
  exact ⟨_, rfl, by simp, heap_at _ (by simp), by go_grown⟩
theorem lawbytes (op b c l : Int) (w : World) (hb0 : 0 ≤ b) (hb : b < 4294967296) (hc0 : 0 ≤ c) (hc : c < 65536) (hP : properZ op b c l = true) : Calls Tryd.prog 19 #[.agg #[.int .u8 op, .int .u32 b, .int .u16 c, .int .i64 l]] w fun e w' => ∃ g, e = .returned (.slice (some ⟨g, 0, none⟩) (widZ op) (widZ op)) ∧ w.heap.size ≤ g ∧ w'.heap[g]? = some (.cells (u8C (bytesZ op b c l)).toArray 5 (0, 0)) ∧ Kept w w' := by
  rcases op_cases op with rfl | rfl | rfl | rfl | rfl | rfl | rfl | h
  · exact lb_0 b c l w hP
  · have hl : 0 ≤ l ∧ l ≤ 255 := by simp [properZ] at hP; omega
    exact lb_3 b c l w hl.1 (by omega)
  · have hl : 0 ≤ l ∧ l ≤ 255 := by simp [properZ] at hP; omega
    exact lb_18 b c l w hl.1 (by omega)
  · exact lb_37 b c l w hP
  · exact lb_40 b c l b.toNat c.toNat w (by omega) (by omega) (by omega) (by omega)
  · exact lb_42 b c l b.toNat c.toNat w (by omega) (by omega) (by omega) (by omega)
  · exact lb_53 b c l b.toNat c.toNat w (by omega) (by omega) (by omega) (by omega)
  · have h' := properZ_none op h
    simp [properZ, h'] at hP
end Go.Proofs.YtfojemocffelhaaDoor
