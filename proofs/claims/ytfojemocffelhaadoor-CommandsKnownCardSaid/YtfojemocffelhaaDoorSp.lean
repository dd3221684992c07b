

/- Decode: the first bytes. -/
import Derived.Test.YtfojemocffelhaaDoorChecked
import Derived.Deep.RegionHeld3
import Derived.Deep.DrawnRows
import Derived.Deep.DeepCutAuto
import Derived.Deep.LoopGhost
import Derived.Outline
import Derived.Handy
import Derived.OwnWalk
import Derived.Test.YtfojemocffelhaaDoorSo
set_option linter.unusedVariables false
set_option linter.unusedSimpArgs false
set_option linter.unusedSectionVars false
namespace Go.Proofs.YtfojemocffelhaaDoor
open Go.RowKit Go.Shelf
attribute [local go_sem ↓] Go.wp_at_zero Go.wp_at_succ

set_option maxRecDepth 100000 in
set_option maxHeartbeats 1000000 in
theorem dec_empty (A : Option Addr) (c : Nat) (w : World) :
    Calls Tryd.prog 20 #[.slice A 0 c] w fun e w' => e = .returned (.tuple #[.agg #[.int .u8 0, .int .u32 0, .int .u16 0, .int .i64 0], .int .i64 4]) ∧ Kept w w' := by
  go_enter Tryd.func20, Tryd.ntmps20
  go_wp2_with fail
  refine bodyPost_ret (v := .tuple #[.agg #[.int .u8 0, .int .u32 0, .int .u16 0, .int .i64 0], .int .i64 4]) (by simp [results, Tryd.results20, go_sem, *]) rfl ?_
  exact ⟨rfl, by go_grown⟩
set_option maxRecDepth 100000 in
set_option maxHeartbeats 1000000 in
theorem dec_no (op op' wd dr : Int) (nm : ByteArray) (le bl : Bool) (g0 off n cp : Nat) (w : World) (hT : Tabs w) (hn : 0 < n) (hb : g0 < w.heap.size) (z0 : w.cell? ⟨g0, off, none⟩ = some (.int .u8 op)) (hf : ∀ w, Tabs w → Calls Tryd.prog 27 #[.int .u8 op] w fun e w' => e = .returned (.tuple #[.agg #[.int .u8 op', .string nm, .int .i64 wd, .bool le, .bool bl, .int .u8 dr], .bool false]) ∧ Kept w w') :
    Calls Tryd.prog 20 #[.slice (some ⟨g0, off, none⟩) n cp] w fun e w' => e = .returned (.tuple #[.agg #[.int .u8 0, .int .u32 0, .int .u16 0, .int .i64 0], .int .i64 4]) ∧ Kept w w' := by
  have hn0 : (0 : Int) < (n : Int) := by omega
  have hn1 : ((n : Int) == 0) = false := by simp; omega
  have hne0 : g0 ≠ w.heap.size := by omega
  go_enter Tryd.func20, Tryd.ntmps20
  go_wp2_with (go_at_call 27; refine (hf _ (by first | exact hT.alloc _ | exact hT)).mono ?_; rintro e w1 ⟨rfl, hk1⟩; obtain ⟨hc1, hf1⟩ := bcell hk1; have hs1 := hk1.size; simp only [World.size_alloc] at hc1 hf1 hs1; have hkw1 : Kept w w1 := ((Below.refl _ w).alloc (Nat.le_refl _) _).trans (hk1.mono (by simp)); have hT1 := hT.kept hkw1; have hlt1 : w.heap.size < w1.heap.size := (by omega); have hne1 : w.heap.size ≠ w1.heap.size := (by omega); have hne2 : w.heap.size ≠ w1.heap.size + 1 := (by omega); have hne3 : g0 ≠ w1.heap.size := (by omega); have hne4 : g0 ≠ w1.heap.size + 1 := (by omega); have hg1 : g0 < w1.heap.size := (by omega))
  refine bodyPost_ret (v := .tuple #[.agg #[.int .u8 0, .int .u32 0, .int .u16 0, .int .i64 0], .int .i64 4]) (by simp [results, Tryd.results20, go_sem, *]) rfl ?_
  exact ⟨rfl, by go_grown⟩
set_option maxRecDepth 100000 in
set_option maxHeartbeats 1000000 in
theorem dec_width (op op' dr : Int) (wd : Nat) (nm : ByteArray) (le bl : Bool) (g0 off n cp : Nat) (w : World) (hT : Tabs w) (hn : 0 < n) (hwd : n < wd ∨ 16 < n) (hb : g0 < w.heap.size) (z0 : w.cell? ⟨g0, off, none⟩ = some (.int .u8 op)) (hf : ∀ w, Tabs w → Calls Tryd.prog 27 #[.int .u8 op] w fun e w' => e = .returned (.tuple #[.agg #[.int .u8 op', .string nm, .int .i64 (wd : Int), .bool le, .bool bl, .int .u8 dr], .bool true]) ∧ Kept w w') :
    Calls Tryd.prog 20 #[.slice (some ⟨g0, off, none⟩) n cp] w fun e w' => e = .returned (.tuple #[.agg #[.int .u8 0, .int .u32 0, .int .u16 0, .int .i64 0], .int .i64 5]) ∧ Kept w w' := by
  have hn0 : (0 : Int) < (n : Int) := by omega
  have hn1 : ((n : Int) == 0) = false := by simp; omega
  have hne0 : g0 ≠ w.heap.size := by omega
  by_cases h1 : n < wd
  · have h1' : decide ((n : Int) < (wd : Int)) = true := by simp; omega
    have h1'' : decide (n < wd) = true := by simp; omega
    clear hwd
    go_enter Tryd.func20, Tryd.ntmps20
    go_wp2_with (go_at_call 27; refine (hf _ (by first | exact hT.alloc _ | exact hT)).mono ?_; rintro e w1 ⟨rfl, hk1⟩; obtain ⟨hc1, hf1⟩ := bcell hk1; have hs1 := hk1.size; simp only [World.size_alloc] at hc1 hf1 hs1; have hkw1 : Kept w w1 := ((Below.refl _ w).alloc (Nat.le_refl _) _).trans (hk1.mono (by simp)); have hT1 := hT.kept hkw1; have hlt1 : w.heap.size < w1.heap.size := (by omega); have hne1 : w.heap.size ≠ w1.heap.size := (by omega); have hne2 : w.heap.size ≠ w1.heap.size + 1 := (by omega); have hne3 : g0 ≠ w1.heap.size := (by omega); have hne4 : g0 ≠ w1.heap.size + 1 := (by omega); have hg1 : g0 < w1.heap.size := (by omega))
    all_goals
      refine bodyPost_ret (v := .tuple #[.agg #[.int .u8 0, .int .u32 0, .int .u16 0, .int .i64 0], .int .i64 5]) (by simp [results, Tryd.results20, go_sem, *]) rfl ?_
      exact ⟨rfl, by go_grown⟩
  · have h1' : decide ((n : Int) < (wd : Int)) = false := by simp; omega
    have h1'' : decide (n < wd) = false := by simp; omega
    have h2 : (16 : Int) < (n : Int) := by omega
    clear hwd
    go_enter Tryd.func20, Tryd.ntmps20
    go_wp2_with (go_at_call 27; refine (hf _ (by first | exact hT.alloc _ | exact hT)).mono ?_; rintro e w1 ⟨rfl, hk1⟩; obtain ⟨hc1, hf1⟩ := bcell hk1; have hs1 := hk1.size; simp only [World.size_alloc] at hc1 hf1 hs1; have hkw1 : Kept w w1 := ((Below.refl _ w).alloc (Nat.le_refl _) _).trans (hk1.mono (by simp)); have hT1 := hT.kept hkw1; have hlt1 : w.heap.size < w1.heap.size := (by omega); have hne1 : w.heap.size ≠ w1.heap.size := (by omega); have hne2 : w.heap.size ≠ w1.heap.size + 1 := (by omega); have hne3 : g0 ≠ w1.heap.size := (by omega); have hne4 : g0 ≠ w1.heap.size + 1 := (by omega); have hg1 : g0 < w1.heap.size := (by omega))
    all_goals
      refine bodyPost_ret (v := .tuple #[.agg #[.int .u8 0, .int .u32 0, .int .u16 0, .int .i64 0], .int .i64 5]) (by simp [results, Tryd.results20, go_sem, *]) rfl ?_
      exact ⟨rfl, by go_grown⟩
end Go.Proofs.YtfojemocffelhaaDoor
