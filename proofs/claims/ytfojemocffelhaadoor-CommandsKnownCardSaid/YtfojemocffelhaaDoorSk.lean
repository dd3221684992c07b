
/- lives: the examples of the chapter. -/
import Derived.Test.YtfojemocffelhaaDoorChecked
import Derived.Deep.RegionHeld3
import Derived.Deep.DrawnRows
import Derived.Deep.DeepCutAuto
import Derived.Deep.LoopGhost
import Derived.Outline
import Derived.Handy
import Derived.OwnWalk
import Derived.Test.YtfojemocffelhaaDoorSf
import Derived.Test.YtfojemocffelhaaDoorSg
import Derived.Test.YtfojemocffelhaaDoorSi
import Derived.Test.YtfojemocffelhaaDoorSj
set_option linter.unusedVariables false
set_option linter.unusedSimpArgs false
set_option linter.unusedSectionVars false
namespace Go.Proofs.YtfojemocffelhaaDoor
open Go.RowKit
attribute [local go_sem ↓] Go.wp_at_zero Go.wp_at_succ

theorem conv_cells {w : World} {g cap : Nat} {bs : List UInt8} (h : ∀ (j : Nat) v, (u8C bs)[j]? = some v → w.cell? ⟨g, j, none⟩ = some v) :
    (convert 32 9 (.slice (some ⟨g, 0, none⟩) bs.length cap)).run Tryd.prog w = .ok (.string ⟨bs.toArray⟩) w :=
  run_convert_bytes_back (P := Tryd.prog) w 32 9 5 ⟨g, 0, none⟩ cap bs Tryd.underlying32 Tryd.underlying5 Tryd.underlying9 (fun j hj => by
    rw [Addr.add_lit, Nat.zero_add]
    exact h j _ (by simp [u8C, hj]))
theorem cells_of_heap {w : World} {g : Nat} {t : TypeId} {fr : Nat × Nat} {cs : List Value} (h : w.heap[g]? = some (.cells cs.toArray t fr)) (j : Nat) (v : Value) (hv : cs[j]? = some v) : w.cell? ⟨g, j, none⟩ = some v := by
  rw [cell_of_row _ _ _ _ _ _ h]
  simpa using hv
set_option maxRecDepth 100000 in
set_option maxHeartbeats 4000000 in
theorem lives_any (w : World) (hT : Tabs w) : Calls Tryd.prog 14 #[] w fun e w' => e = .returned (.bool true) ∧ Kept w w' := by
  have h11 : ∀ W, Tabs W → _ := fun W hT => encode_yes 40 258 2 0 W hT (by decide) (by decide) (by decide) (by decide) (by decide)
  have h9 : ∀ W, Tabs W → _ := fun W hT => moves_any 40 258 2 0 512 W hT (by decide) (by decide) (by decide) (by decide)
  have h10 : ∀ W, Tabs W → _ := fun W hT => text_any 40 258 2 0 W hT (by decide) (by decide) (by decide) (by decide)
  rw [show movesZ 40 258 2 0 512 = (1, 1024, 0) by decide] at h9
  have h16 : ∀ W, _ := fun W => sense_good 5 33 0 W (by decide)
  have h25 : ∀ W, _ := fun W => capacity_any 99 512 W (by decide) (by decide)
  rw [show textZ 40 258 2 0 = ⟨#[82, 69, 65, 68, 32, 50, 53, 56, 32, 50]⟩ by decide +kernel] at h10
  rw [show bytesZ 40 258 2 0 = [40, 0, 0, 0, 1, 2, 0, 0, 2, 0] by decide] at h11
  go_enter Tryd.func14, Tryd.ntmps14
  go_wp2_with (first
    | (go_at_call 11; refine (h11 _ (by exact hT.alloc _)).mono ?_; rintro e w1 ⟨g1, rfl, hg1, hr1, hk1⟩; obtain ⟨hc1, hf1⟩ := bcell hk1; have hs1 := hk1.size; simp only [World.size_alloc] at hc1 hf1 hs1 hg1; have hkw1 : Kept w w1 := ((Below.refl _ w).alloc (Nat.le_refl _) _).trans (hk1.mono (by simp)); have hT1 := hT.kept hkw1; have hlt1 : w.heap.size < w1.heap.size := (by omega); dsimp only)
    | (go_at_call 9; refine (h9 _ hT1).mono ?_; rintro e w2 ⟨rfl, hk2⟩; obtain ⟨hc2, hf2⟩ := bcell hk2; have hs2 := hk2.size; have hkw2 : Kept w w2 := hkw1.trans (hk2.mono (by omega)); have hlt2 : w.heap.size < w2.heap.size := (by omega); dsimp only)
    | (go_at_call 16; refine (h16 _).mono ?_; rintro e w3 ⟨g3, rfl, hg3, hr3, hk3⟩; obtain ⟨hc3, hf3⟩ := bcell hk3; have hs3 := hk3.size; have hkw3 : Kept w w3 := hkw2.trans (hk3.mono (by omega)); have hT3 := hT.kept hkw3; have hlt3 : w.heap.size < w3.heap.size := (by omega); have hcv := conv_cells (bs := [40, 0, 0, 0, 1, 2, 0, 0, 2, 0]) (cap := 10) (cells_of_heap (heap_kept hk3 (heap_kept hk2 hr1))); simp only [List.length_cons, List.length_nil, Nat.reduceAdd] at hcv)
    | (go_at_call 10; refine (h10 _ hT3).mono ?_; rintro e w4 ⟨rfl, hk4⟩; have hkw4 : Kept w w4 := hkw3.trans (hk4.mono (by omega)); have hr4 := heap_kept hk4 hr3; have x0 := cell_heap (o := 0) hr4 rfl; have x2 := cell_heap (o := 2) hr4 rfl; have x12 := cell_heap (o := 12) hr4 rfl; have hs4 := hk4.size; clear hcv)
    | (go_at_call 25; refine (h25 _).mono ?_; rintro e w5 ⟨g5, rfl, hg5, hr5, hk5⟩; have hkw5 : Kept w w5 := hkw4.trans (hk5.mono (by omega)); have hcv5 := conv_cells (bs := be4 99 ++ be4 512) (cap := 8) hr5; rw [show be4 99 ++ be4 512 = [0, 0, 0, 99, 0, 0, 2, 0] by decide] at hcv5; simp only [List.length_cons, List.length_nil, Nat.reduceAdd] at hcv5))
  go_ret
  exact ⟨rfl, hkw5⟩
end Go.Proofs.YtfojemocffelhaaDoor
