
/- The examples of the chapter hold. No condition. -/
import Derived.Test.YtgkhenplbljbbaaChecked
import Derived.Deep.RegionHeld3
import Derived.Deep.DrawnRows
import Derived.Deep.DeepCutAuto
import Derived.Deep.LoopGhost
import Derived.Outline
import Derived.Handy
import Derived.Test.YtgkhenplbljbbaaWc
import Derived.Test.YtgkhenplbljbbaaWh
set_option linter.unusedVariables false
set_option linter.unusedSimpArgs false
set_option linter.unusedSectionVars false
namespace Go.Proofs.Ytgkhenplbljbbaa
open Go.RowKit
attribute [local go_sem ↓] Go.wp_at_zero Go.wp_at_succ

def livesL : List Drv := [⟨⟨#[68, 73, 83, 75]⟩, [⟨6, 0, 0, 8, 6, 0⟩]⟩, ⟨⟨#[65, 78, 89]⟩, [⟨4, 0, 0, 8, 0, 0⟩]⟩, ⟨⟨#[77, 73, 78, 69]⟩, [⟨16, 4660, 0, 0, 0, 0⟩]⟩]
theorem lives0 : matchS (fun r => r.score 1 0 8 6 0) livesL = (0, 6) := by decide +kernel
theorem lives1 : matchS (fun r => r.score 1 0 8 1 0) livesL = (1, 4) := by decide +kernel
theorem lives2 : matchS (fun r => r.score 4660 0 8 6 0) livesL = (2, 16) := by decide +kernel
theorem lives3 : matchS (fun r => r.score 1 0 3 0 0) livesL = (-1, -1) := by decide +kernel
theorem livesC : checkS livesL = 0 := by decide +kernel

set_option maxRecDepth 100000 in
set_option maxHeartbeats 2000000 in
theorem lives_any (w : World) : Calls Try.prog 17 #[] w fun e w' => e = .returned (.bool true) ∧ Kept w w' := by
  go_enter Try.func17, Try.ntmps17
  go_wp2_with fail
  refine wp_name (B := w.heap.size) (w0 := w) (by go_grown) (fun W hcW hfW hz hkW => ?_)
  simp only [World.size_alloc] at hz
  have HlW : Hid (Sl drvT W (low W.heap.size) (some ⟨w.heap.size + 1 + 1 + 1, 0, none⟩) 3 livesL) := by
    have r0 : W.rangeAt w.heap.size 0 (Rule.cells ⟨6, 0, 0, 8, 6, 0⟩) := by
      repeat' first | exact range_nil | refine range_cons ?_ ?_
      all_goals go_simp
    have r1 : W.rangeAt (w.heap.size + 1) 0 (Rule.cells ⟨4, 0, 0, 8, 0, 0⟩) := by
      repeat' first | exact range_nil | refine range_cons ?_ ?_
      all_goals go_simp
    have r2 : W.rangeAt (w.heap.size + 1 + 1) 0 (Rule.cells ⟨16, 4660, 0, 0, 0, 0⟩) := by
      repeat' first | exact range_nil | refine range_cons ?_ ?_
      all_goals go_simp
    have d0 : W.rangeAt (w.heap.size + 1 + 1 + 1) 0 [.string ⟨#[68, 73, 83, 75]⟩, .slice (some ⟨w.heap.size, 0, none⟩) 1 1] := by
      repeat' first | exact range_nil | refine range_cons ?_ ?_
      all_goals go_simp
    have d1 : W.rangeAt (w.heap.size + 1 + 1 + 1) 2 [.string ⟨#[65, 78, 89]⟩, .slice (some ⟨w.heap.size + 1, 0, none⟩) 1 1] := by
      repeat' first | exact range_nil | refine range_cons ?_ ?_
      all_goals go_simp
    have d2 : W.rangeAt (w.heap.size + 1 + 1 + 1) 4 [.string ⟨#[77, 73, 78, 69]⟩, .slice (some ⟨w.heap.size + 1 + 1, 0, none⟩) 1 1] := by
      repeat' first | exact range_nil | refine range_cons ?_ ?_
      all_goals go_simp
    have hF : ∀ i, i < 7 → low W.heap.size (w.heap.size + i) := fun i hi => by show _ < _; omega
    refine Sl.cons (hF 3 (by omega)) ⟨_, 1, rfl, Nat.le_refl _, by decide, by decide, Sl.one (hF 0 (by omega)) ⟨rfl, by decide, by decide⟩ r0⟩ d0 ?_
    refine Sl.cons (hF 3 (by omega)) ⟨_, 1, rfl, Nat.le_refl _, by decide, by decide, Sl.one (hF 1 (by omega)) ⟨rfl, by decide, by decide⟩ r1⟩ d1 ?_
    exact Sl.one (hF 3 (by omega)) ⟨_, 1, rfl, Nat.le_refl _, by decide, by decide, Sl.one (hF 2 (by omega)) ⟨rfl, by decide, by decide⟩ r2⟩ d2
  go_loopg [5] 4 (fun g s5 wr => ∃ k : Nat, k + g = 4 ∧ s5 = .int .i64 k ∧ Below W.heap.size W wr)
  case atStart => exact ⟨0, by omega, rfl, Below.refl _ _⟩
  case round =>
    obtain ⟨k, hk, rfl, hbel⟩ := hrel
    obtain ⟨hcr, hfr⟩ := bcell hbel
    have hws := hbel.size
    have hq4 : w.heap.size + 1 + 1 + 1 + 1 < wr.heap.size := by omega
    have hq5 : w.heap.size + 1 + 1 + 1 + 1 + 1 < wr.heap.size := by omega
    have hq6 : w.heap.size + 1 + 1 + 1 + 1 + 1 + 1 < wr.heap.size := by omega
    have hkr : Kept w wr := hkW.trans (hbel.mono hkW.size)
    have Hl := hide (HlW.out.kept hbel)
    rcases (by omega : k = 0 ∨ k = 1 ∨ k = 2 ∨ k = 3 ∨ k = 4) with rfl | rfl | rfl | rfl | rfl
    · go_wp2_with fail
      go_region_held3 (fun w' => (∀ b o, b < wr.heap.size → w'.cell? ⟨b, o, none⟩ = wr.cell? ⟨b, o, none⟩) ∧ Below wr.heap.size wr w') (first | assumption | exact since_start | exact since_keep (by assumption) (Nat.le_refl _) hk) (first | (go_at_call 14; refine (match_any _ _ _ _ _ _ _ _ _ _ _ _ _ _ _ _ _ _ _ _ _ _ _ _ (by decide) (by exact Hl.out)).mono ?_; rw [lives0]; rintro e w1 ⟨rfl, hk⟩))
      have hs1 := (‹(∀ b o, b < wr.heap.size → _) ∧ Below wr.heap.size wr _›).2.size
      have hq7 : w.heap.size + 1 + 1 + 1 + 1 + 1 + 1 < w1.heap.size := by omega
      go_wp2
      go_roundg 3
      case measure => omega
      case rel => exact ⟨1, by omega, by go_num, since_kept hbel (by assumption) (Nat.le_refl _)⟩
    · go_wp2_with fail
      go_region_held3 (fun w' => (∀ b o, b < wr.heap.size → w'.cell? ⟨b, o, none⟩ = wr.cell? ⟨b, o, none⟩) ∧ Below wr.heap.size wr w') (first | assumption | exact since_start | exact since_keep (by assumption) (Nat.le_refl _) hk) (first | (go_at_call 14; refine (match_any _ _ _ _ _ _ _ _ _ _ _ _ _ _ _ _ _ _ _ _ _ _ _ _ (by decide) (by exact Hl.out)).mono ?_; rw [lives1]; rintro e w1 ⟨rfl, hk⟩))
      have hs1 := (‹(∀ b o, b < wr.heap.size → _) ∧ Below wr.heap.size wr _›).2.size
      have hq7 : w.heap.size + 1 + 1 + 1 + 1 + 1 + 1 < w1.heap.size := by omega
      go_wp2
      go_roundg 2
      case measure => omega
      case rel => exact ⟨2, by omega, by go_num, since_kept hbel (by assumption) (Nat.le_refl _)⟩
    · go_wp2_with fail
      go_region_held3 (fun w' => (∀ b o, b < wr.heap.size → w'.cell? ⟨b, o, none⟩ = wr.cell? ⟨b, o, none⟩) ∧ Below wr.heap.size wr w') (first | assumption | exact since_start | exact since_keep (by assumption) (Nat.le_refl _) hk) (first | (go_at_call 14; refine (match_any _ _ _ _ _ _ _ _ _ _ _ _ _ _ _ _ _ _ _ _ _ _ _ _ (by decide) (by exact Hl.out)).mono ?_; rw [lives2]; rintro e w1 ⟨rfl, hk⟩))
      have hs1 := (‹(∀ b o, b < wr.heap.size → _) ∧ Below wr.heap.size wr _›).2.size
      have hq7 : w.heap.size + 1 + 1 + 1 + 1 + 1 + 1 < w1.heap.size := by omega
      go_wp2
      go_roundg 1
      case measure => omega
      case rel => exact ⟨3, by omega, by go_num, since_kept hbel (by assumption) (Nat.le_refl _)⟩
    · go_wp2_with fail
      go_region_held3 (fun w' => (∀ b o, b < wr.heap.size → w'.cell? ⟨b, o, none⟩ = wr.cell? ⟨b, o, none⟩) ∧ Below wr.heap.size wr w') (first | assumption | exact since_start | exact since_keep (by assumption) (Nat.le_refl _) hk) (first | (go_at_call 14; refine (match_any _ _ _ _ _ _ _ _ _ _ _ _ _ _ _ _ _ _ _ _ _ _ _ _ (by decide) (by exact Hl.out)).mono ?_; rw [lives3]; rintro e w1 ⟨rfl, hk⟩))
      have hs1 := (‹(∀ b o, b < wr.heap.size → _) ∧ Below wr.heap.size wr _›).2.size
      have hq7 : w.heap.size + 1 + 1 + 1 + 1 + 1 + 1 < w1.heap.size := by omega
      go_wp2
      go_roundg 0
      case measure => omega
      case rel => exact ⟨4, by omega, by go_num, since_kept hbel (by assumption) (Nat.le_refl _)⟩
    · go_wp2_with (go_at_call 16; refine (check_any _ _ _ _ _ (by decide) Hl.out).mono ?_; rw [livesC]; rintro e w1 ⟨rfl, hk⟩)
      go_ret
      exact ⟨rfl, hkr.trans' hk⟩
end Go.Proofs.Ytgkhenplbljbbaa
