
/- slices.Clip; EncodeCapacity. -/
import Derived.Test.YtfojemocffelhaaDoorChecked
import Derived.Deep.RegionHeld3
import Derived.Deep.DrawnRows
import Derived.Deep.DeepCutAuto
import Derived.Deep.LoopGhost
import Derived.Outline
import Derived.Handy
import Derived.OwnWalk
import Derived.Test.YtfojemocffelhaaDoorSh
set_option linter.unusedVariables false
set_option linter.unusedSimpArgs false
set_option linter.unusedSectionVars false
namespace Go.Proofs.YtfojemocffelhaaDoor
open Go.RowKit
attribute [local go_sem ↓] Go.wp_at_zero Go.wp_at_succ

set_option maxRecDepth 100000 in
set_option maxHeartbeats 2000000 in
theorem clip_any (b off n c : Nat) (w : World) (hnc : n ≤ c) (hc : c ≤ maxLen) :
    Calls Tryd.prog 38 #[.slice (some ⟨b, off, none⟩) n c] w fun e w' => e = .returned (.slice (some ⟨b, off, none⟩) n n) ∧ Kept w w' := by
  have h0 : (0 : Int) ≤ (n : Int) := by omega
  have h1 : (n : Int) ≤ (c : Int) := by omega
  go_enter Tryd.func38, Tryd.ntmps38
  go_wp2_with fail
  go_ret
  exact ⟨rfl, Below.refl _ _⟩

theorem own8 {base : Nat} {w : World} {v : Value} {xs : List UInt8} (h : Own byT 5 base w v (4 + 4) xs) : ∃ g cap, v = .slice (some ⟨g, 0, none⟩) 8 cap ∧ base ≤ g ∧ 8 ≤ cap ∧ cap ≤ maxLen := by
  rcases h.form with ⟨_, h0⟩ | ⟨g, cap, rfl, h1, _, h3, h4⟩
  · omega
  · exact ⟨g, cap, rfl, h1, h3, h4⟩
set_option maxRecDepth 100000 in
set_option maxHeartbeats 2000000 in
theorem capacity_any (x y : Nat) (w : World) (hx : x < 4294967296) (hy : y < 4294967296) :
    Calls Tryd.prog 25 #[.agg #[.int .u32 x, .int .u32 y]] w fun e w' => ∃ g, e = .returned (.slice (some ⟨g, 0, none⟩) 8 8) ∧ w.heap.size ≤ g ∧ (∀ (j : Nat) v, (u8C (be4 x ++ be4 y))[j]? = some v → w'.cell? ⟨g, j, none⟩ = some v) ∧ Kept w w' := by
  go_enter Tryd.func25, Tryd.ntmps25
  go_wp2_with fail
  refine wp_name (B := w.heap.size) (w0 := w) (by go_grown) (fun W hcW hfW hz hkW => ?_)
  simp only [World.size_alloc] at hz
  go_region_held3 (fun w' => (∀ b o, b < W.heap.size → w'.cell? ⟨b, o, none⟩ = W.cell? ⟨b, o, none⟩) ∧ Below W.heap.size W w') (first | assumption | exact since_start | exact since_below (by assumption) hk | exact since_keep (by assumption) (Nat.le_refl _) hk) (first
    | (have h5 := hown5; go_at_call 30; refine (put4 v5 4 (be4 x) y W.heap.size _ hy (by omega) hown5 (by have := hk.size; exact this)).mono ?_; rintro e w6 ⟨v6, rfl, hown6, hk⟩; obtain ⟨g6, cap6, rfl, hg6, hc6, hx6⟩ := own8 hown6)
    | (go_at_call 30; refine (put4 (.slice none 0 0) 0 [] x W.heap.size _ hx (by omega) (by exact Own.nil _ _ _ _) (by exact Nat.le_refl _)).mono ?_; rintro e w5 ⟨v5, rfl, hown5, hk⟩)
    | (go_at_call 38; refine (clip_any g6 0 8 cap6 _ hc6 hx6).mono ?_; rintro e w7 ⟨rfl, hk⟩))
  have hcell : ∀ (j : Nat) v, (u8C (be4 x ++ be4 y))[j]? = some v → w7.cell? ⟨g6, j, none⟩ = some v := fun j v hv => by
    have h1 := own_cells hown6 j v hv
    exact (hk.cell (p := ⟨g6, j, none⟩) (World.block_lt_of_cell? w6 _ h1)).trans h1
  have hkE : Kept w w7 := Below.trans hkW ((‹(∀ b o, b < W.heap.size → _) ∧ Below W.heap.size W w7›).2.mono (by omega))
  have hg : w.heap.size ≤ g6 := by omega
  clear hown5 hown6
  go_wp2_with fail
  go_ret
  exact ⟨g6, rfl, hg, hcell, hkE⟩
end Go.Proofs.YtfojemocffelhaaDoor
