
/- CommandsSense, case by case: true, whatever the sense and the bytes. -/
import Derived.Test.YtfojemocffelhaaDoorChecked
import Derived.Deep.RegionHeld3
import Derived.Deep.DrawnRows
import Derived.Deep.DeepCutAuto
import Derived.Deep.LoopGhost
import Derived.Outline
import Derived.Handy
import Derived.OwnWalk
import Derived.Test.YtfojemocffelhaaDoorSk
namespace Go.Proofs.YtfojemocffelhaaDoor
open Go.RowKit
attribute [local go_sem ↓] Go.wp_at_zero Go.wp_at_succ

def senseL (k x y : Int) : List UInt8 := [112, 0, uz k, 0, 0, 0, 0, 10, 0, 0, 0, 0, uz x, uz y, 0, 0, 0, 0]
theorem senseL_cells {k x y : Int} (hk0 : 0 ≤ k) (hk : k < 256) (hx0 : 0 ≤ x) (hx : x < 256) (hy0 : 0 ≤ y) (hy : y < 256) :
    [Value.int .u8 112, .int .u8 0, .int .u8 k, .int .u8 0, .int .u8 0, .int .u8 0, .int .u8 0, .int .u8 10, .int .u8 0, .int .u8 0, .int .u8 0, .int .u8 0, .int .u8 x, .int .u8 y, .int .u8 0, .int .u8 0, .int .u8 0, .int .u8 0] = u8C (senseL k x y) := by
  simp [u8C, senseL, uz_int, *]
theorem len_gt (k x y : Int) (A : Option Addr) (n c : Nat) (w : World) (hT : Tabs w) (hn : 60 < n) :
    Calls Tryd.prog 4 #[.agg #[.int .u8 k, .int .u8 x, .int .u8 y], .slice A n c] w fun e w' => e = .returned (.bool true) ∧ Kept w w' := by
  have hn' : (60 : Int) < (n : Int) := by omega
  go_enter Tryd.func4, Tryd.ntmps4
  go_wp2_with (go_at_call 14; refine (lives_any _ (by exact hT.alloc _)).mono ?_; rintro e w1 ⟨rfl, hk1⟩; have hkw : Kept w w1 := ((Below.refl _ w).alloc (Nat.le_refl _) _).trans (hk1.mono (by simp)))
  go_ret
  exact ⟨rfl, hkw⟩
set_option maxRecDepth 100000 in
set_option maxHeartbeats 8000000 in
theorem short_ok (k x y : Int) (w : World) (A : Option Addr) (n c : Nat) (hn : n ≤ 60) (hT : Tabs w) (hk0 : 0 ≤ k) (hk : k ≤ 15) (hx0 : 0 ≤ x) (hx : x < 256) (hy0 : 0 ≤ y) (hy : y < 256) (h14 : n < 14) :
    Calls Tryd.prog 4 #[.agg #[.int .u8 k, .int .u8 x, .int .u8 y], .slice A n c] w fun e w' => e = .returned (.bool true) ∧ Kept w w' := by
  have hn' : (n : Int) ≤ 60 := by omega
  have hk16 : k % 16 = k := by omega
  have hcells := hide (senseL_cells hk0 (by omega : k < 256) hx0 hx hy0 hy)
  go_enter Tryd.func4, Tryd.ntmps4
  go_upto_region 9 with (first
    | (go_at_call 16; refine (sense_good k x y _ hk).mono ?_; rintro e w1 ⟨g1, rfl, hg1, hr1, hk1⟩; obtain ⟨hc1, hf1⟩ := bcell hk1; have hs1 := hk1.size; simp only [World.size_alloc] at hc1 hf1 hs1 hg1; have hkw1 : Kept w w1 := ((Below.refl _ w).alloc (Nat.le_refl _) _).trans (hk1.mono (by simp)); have hlt1 : w.heap.size < w1.heap.size := (by omega); have y0 := cell_heap (o := 0) hr1 rfl; have y2 := cell_heap (o := 2) hr1 rfl; have y12 := cell_heap (o := 12) hr1 rfl; have y13 := cell_heap (o := 13) hr1 rfl; dsimp only)
    | (go_at_call 17; refine (dsense_good g1 0 18 18 k x y _ (by omega) (by exact heap_lt hr1) y0 y2 y12 y13 hk0 (by omega)).mono ?_; rw [hk16]; rintro e w2 ⟨rfl, hk2⟩; obtain ⟨hc2, hf2⟩ := bcell hk2; have hs2 := hk2.size; have hkw2 : Kept w w2 := hkw1.trans (hk2.mono (by omega)); have hlt2 : w.heap.size < w2.heap.size := (by omega); have hr2 := heap_kept hk2 hr1; clear y0 y2 y12 y13; dsimp only))
  refine wp_nameH (B := w.heap.size) (w0 := w) (by go_grown) (fun W HH hcW hfW hz hkW => ?_)
  simp only [World.size_alloc] at hz
  have hrA := HH.out g1
  have hrB := HH.out (w2.heap.size + 1)
  rw [heap_past (heap_past hr2)] at hrA
  rw [heap_at _ (by rw [World.size_alloc])] at hrB
  have hcvA := conv_cells (cap := 18) (bs := senseL k x y) (cells_of_heap (w := W) (g := g1) (t := 5) (fr := (0, 0)) (by rw [← hcells.out]; exact hrA))
  have hcvB := conv_cells (cap := 18) (bs := senseL k x y) (cells_of_heap (w := W) (g := w2.heap.size + 1) (t := 5) (fr := (0, 0)) (by rw [← hcells.out]; exact hrB))
  simp only [senseL, List.length_cons, List.length_nil, Nat.reduceAdd] at hcvA hcvB
  generalize (⟨[112, 0, uz k, 0, 0, 0, 0, 10, 0, 0, 0, 0, uz x, uz y, 0, 0, 0, 0].toArray⟩ : ByteArray) = txt at hcvA hcvB
  have hne : w.heap.size ≠ w2.heap.size := by omega
  have hne2 : w.heap.size ≠ w2.heap.size + 1 := by omega
  clear hrA hrB HH hr2 hr1 hcells
  go_wp2_with (first
    | (go_at_call 17; refine (dsense_short A n c _ h14).mono ?_; rintro e w4 ⟨rfl, hk4⟩; have hkw4 : Kept w w4 := hkW.trans (hk4.mono (by omega)); dsimp only)
    | (go_at_call 14; refine (lives_any _ (by exact (hT.kept hkw4).alloc _)).mono ?_; rintro e w5 ⟨rfl, hk5⟩; have hkw5 : Kept w w5 := (hkw4.alloc hkw4.size _).trans (hk5.mono (by have := hkw4.size; simp; omega))))
  go_ret
  exact ⟨rfl, hkw5⟩
set_option maxRecDepth 100000 in
set_option maxHeartbeats 8000000 in
theorem bad_ok (k x y : Int) (w : World) (A : Option Addr) (n c : Nat) (hn : n ≤ 60) (hT : Tabs w) (hk0 : 0 ≤ k) (hk : k ≤ 15) (hx0 : 0 ≤ x) (hx : x < 256) (hy0 : 0 ≤ y) (hy : y < 256) (b off : Nat) (hA : A = some ⟨b, off, none⟩) (h14 : 14 ≤ n) (hb : b < w.heap.size) (z : Int) (z0 : w.cell? ⟨b, off, none⟩ = some (.int .u8 z)) (hz112 : z ≠ 112) :
    Calls Tryd.prog 4 #[.agg #[.int .u8 k, .int .u8 x, .int .u8 y], .slice A n c] w fun e w' => e = .returned (.bool true) ∧ Kept w w' := by
  have hn' : (n : Int) ≤ 60 := by omega
  have hk16 : k % 16 = k := by omega
  have hcells := hide (senseL_cells hk0 (by omega : k < 256) hx0 hx hy0 hy)
  go_enter Tryd.func4, Tryd.ntmps4
  go_upto_region 9 with (first
    | (go_at_call 16; refine (sense_good k x y _ hk).mono ?_; rintro e w1 ⟨g1, rfl, hg1, hr1, hk1⟩; obtain ⟨hc1, hf1⟩ := bcell hk1; have hs1 := hk1.size; simp only [World.size_alloc] at hc1 hf1 hs1 hg1; have hkw1 : Kept w w1 := ((Below.refl _ w).alloc (Nat.le_refl _) _).trans (hk1.mono (by simp)); have hlt1 : w.heap.size < w1.heap.size := (by omega); have y0 := cell_heap (o := 0) hr1 rfl; have y2 := cell_heap (o := 2) hr1 rfl; have y12 := cell_heap (o := 12) hr1 rfl; have y13 := cell_heap (o := 13) hr1 rfl; dsimp only)
    | (go_at_call 17; refine (dsense_good g1 0 18 18 k x y _ (by omega) (by exact heap_lt hr1) y0 y2 y12 y13 hk0 (by omega)).mono ?_; rw [hk16]; rintro e w2 ⟨rfl, hk2⟩; obtain ⟨hc2, hf2⟩ := bcell hk2; have hs2 := hk2.size; have hkw2 : Kept w w2 := hkw1.trans (hk2.mono (by omega)); have hlt2 : w.heap.size < w2.heap.size := (by omega); have hr2 := heap_kept hk2 hr1; clear y0 y2 y12 y13; dsimp only))
  refine wp_nameH (B := w.heap.size) (w0 := w) (by go_grown) (fun W HH hcW hfW hz hkW => ?_)
  simp only [World.size_alloc] at hz
  have hrA := HH.out g1
  have hrB := HH.out (w2.heap.size + 1)
  rw [heap_past (heap_past hr2)] at hrA
  rw [heap_at _ (by rw [World.size_alloc])] at hrB
  have hcvA := conv_cells (cap := 18) (bs := senseL k x y) (cells_of_heap (w := W) (g := g1) (t := 5) (fr := (0, 0)) (by rw [← hcells.out]; exact hrA))
  have hcvB := conv_cells (cap := 18) (bs := senseL k x y) (cells_of_heap (w := W) (g := w2.heap.size + 1) (t := 5) (fr := (0, 0)) (by rw [← hcells.out]; exact hrB))
  simp only [senseL, List.length_cons, List.length_nil, Nat.reduceAdd] at hcvA hcvB
  generalize (⟨[112, 0, uz k, 0, 0, 0, 0, 10, 0, 0, 0, 0, uz x, uz y, 0, 0, 0, 0].toArray⟩ : ByteArray) = txt at hcvA hcvB
  have hne : w.heap.size ≠ w2.heap.size := by omega
  have hne2 : w.heap.size ≠ w2.heap.size + 1 := by omega
  clear hrA hrB HH hr2 hr1 hcells
  have hn14 : (14 : Int) ≤ (n : Int) := by omega
  have hn00 : (0 : Int) < (n : Int) := by omega
  subst hA
  go_wp2_with (first
    | (go_at_call 17; refine (dsense_bad b off n c z _ h14 (by exact Nat.lt_of_lt_of_le hb (by first | exact hkW.size | exact hkw1.size)) (by first | exact (hkW.cell (p := ⟨b, off, none⟩) hb).trans z0 | exact (hkw1.cell (p := ⟨b, off, none⟩) hb).trans z0) hz112).mono ?_; rintro e w4 ⟨rfl, hk4⟩; have hkw4 : Kept w w4 := hkW.trans (hk4.mono (by omega)); have hlt4 : b < w4.heap.size := (Nat.lt_of_lt_of_le hb hkw4.size); have x0 := (hkw4.cell (p := ⟨b, off, none⟩) hb).trans z0; dsimp only)
    | (go_at_call 14; refine (lives_any _ (by exact (hT.kept hkw4).alloc _)).mono ?_; rintro e w5 ⟨rfl, hk5⟩; have hkw5 : Kept w w5 := (hkw4.alloc hkw4.size _).trans (hk5.mono (by have := hkw4.size; simp; omega))))
  go_ret
  exact ⟨rfl, hkw5⟩
set_option maxRecDepth 100000 in
set_option maxHeartbeats 8000000 in
theorem good_ok (k x y : Int) (w : World) (A : Option Addr) (n c : Nat) (hn : n ≤ 60) (hT : Tabs w) (hk0 : 0 ≤ k) (hk : k ≤ 15) (hx0 : 0 ≤ x) (hx : x < 256) (hy0 : 0 ≤ y) (hy : y < 256) (b off : Nat) (hA : A = some ⟨b, off, none⟩) (h14 : 14 ≤ n) (hb : b < w.heap.size) (z0 : w.cell? ⟨b, off, none⟩ = some (.int .u8 112)) (v2 v12 v13 : Int) (hv0 : 0 ≤ v2) (hv1 : v2 < 256) (z2 : w.cell? ⟨b, off + 2, none⟩ = some (.int .u8 v2)) (z12 : w.cell? ⟨b, off + 12, none⟩ = some (.int .u8 v12)) (z13 : w.cell? ⟨b, off + 13, none⟩ = some (.int .u8 v13)) :
    Calls Tryd.prog 4 #[.agg #[.int .u8 k, .int .u8 x, .int .u8 y], .slice A n c] w fun e w' => e = .returned (.bool true) ∧ Kept w w' := by
  have hn' : (n : Int) ≤ 60 := by omega
  have hk16 : k % 16 = k := by omega
  have hcells := hide (senseL_cells hk0 (by omega : k < 256) hx0 hx hy0 hy)
  go_enter Tryd.func4, Tryd.ntmps4
  go_upto_region 9 with (first
    | (go_at_call 16; refine (sense_good k x y _ hk).mono ?_; rintro e w1 ⟨g1, rfl, hg1, hr1, hk1⟩; obtain ⟨hc1, hf1⟩ := bcell hk1; have hs1 := hk1.size; simp only [World.size_alloc] at hc1 hf1 hs1 hg1; have hkw1 : Kept w w1 := ((Below.refl _ w).alloc (Nat.le_refl _) _).trans (hk1.mono (by simp)); have hlt1 : w.heap.size < w1.heap.size := (by omega); have y0 := cell_heap (o := 0) hr1 rfl; have y2 := cell_heap (o := 2) hr1 rfl; have y12 := cell_heap (o := 12) hr1 rfl; have y13 := cell_heap (o := 13) hr1 rfl; dsimp only)
    | (go_at_call 17; refine (dsense_good g1 0 18 18 k x y _ (by omega) (by exact heap_lt hr1) y0 y2 y12 y13 hk0 (by omega)).mono ?_; rw [hk16]; rintro e w2 ⟨rfl, hk2⟩; obtain ⟨hc2, hf2⟩ := bcell hk2; have hs2 := hk2.size; have hkw2 : Kept w w2 := hkw1.trans (hk2.mono (by omega)); have hlt2 : w.heap.size < w2.heap.size := (by omega); have hr2 := heap_kept hk2 hr1; clear y0 y2 y12 y13; dsimp only))
  refine wp_nameH (B := w.heap.size) (w0 := w) (by go_grown) (fun W HH hcW hfW hz hkW => ?_)
  simp only [World.size_alloc] at hz
  have hrA := HH.out g1
  have hrB := HH.out (w2.heap.size + 1)
  rw [heap_past (heap_past hr2)] at hrA
  rw [heap_at _ (by rw [World.size_alloc])] at hrB
  have hcvA := conv_cells (cap := 18) (bs := senseL k x y) (cells_of_heap (w := W) (g := g1) (t := 5) (fr := (0, 0)) (by rw [← hcells.out]; exact hrA))
  have hcvB := conv_cells (cap := 18) (bs := senseL k x y) (cells_of_heap (w := W) (g := w2.heap.size + 1) (t := 5) (fr := (0, 0)) (by rw [← hcells.out]; exact hrB))
  simp only [senseL, List.length_cons, List.length_nil, Nat.reduceAdd] at hcvA hcvB
  generalize (⟨[112, 0, uz k, 0, 0, 0, 0, 10, 0, 0, 0, 0, uz x, uz y, 0, 0, 0, 0].toArray⟩ : ByteArray) = txt at hcvA hcvB
  have hne : w.heap.size ≠ w2.heap.size := by omega
  have hne2 : w.heap.size ≠ w2.heap.size + 1 := by omega
  clear hrA hrB HH hr2 hr1 hcells
  have hn14 : (14 : Int) ≤ (n : Int) := by omega
  have hn00 : (0 : Int) < (n : Int) := by omega
  have hn02 : (2 : Int) < (n : Int) := by omega
  have hn12 : (12 : Int) < (n : Int) := by omega
  have hn13 : (13 : Int) < (n : Int) := by omega
  have htm : v2.tmod 16 = v2 % 16 := Int.tmod_eq_emod_of_nonneg hv0
  have hwr : IntKind.u8.wrap (v2 % 16) = v2 % 16 := by rw [IntKind.wrap_u8]; omega
  subst hA
  go_wp2_with (first
    | (go_at_call 17; refine (dsense_good b off n c v2 v12 v13 _ h14 (by exact Nat.lt_of_lt_of_le hb (by first | exact hkW.size | exact hkw1.size)) (by first | exact (hkW.cell (p := ⟨b, off, none⟩) hb).trans z0 | exact (hkw1.cell (p := ⟨b, off, none⟩) hb).trans z0) (by first | exact (hkW.cell (p := ⟨b, off + 2, none⟩) hb).trans z2 | exact (hkw1.cell (p := ⟨b, off + 2, none⟩) hb).trans z2) (by first | exact (hkW.cell (p := ⟨b, off + 12, none⟩) hb).trans z12 | exact (hkw1.cell (p := ⟨b, off + 12, none⟩) hb).trans z12) (by first | exact (hkW.cell (p := ⟨b, off + 13, none⟩) hb).trans z13 | exact (hkw1.cell (p := ⟨b, off + 13, none⟩) hb).trans z13) hv0 hv1).mono ?_; rintro e w4 ⟨rfl, hk4⟩; have hkw4 : Kept w w4 := hkW.trans (hk4.mono (by omega)); have hlt4 : b < w4.heap.size := (Nat.lt_of_lt_of_le hb hkw4.size); have x0 := (hkw4.cell (p := ⟨b, off, none⟩) hb).trans z0; have x2 := (hkw4.cell (p := ⟨b, off + 2, none⟩) hb).trans z2; have x12 := (hkw4.cell (p := ⟨b, off + 12, none⟩) hb).trans z12; have x13 := (hkw4.cell (p := ⟨b, off + 13, none⟩) hb).trans z13; dsimp only))
  clear x0
  have hsz4 := hkw4.size
  refine wp_name (B := w.heap.size) (w0 := w) (by go_grown) (fun W5 hcW5 hfW5 hz5 hkW5 => ?_)
  simp only [World.size_alloc] at hz5
  have hT5 := hT.kept hkW5
  have hne5 : b ≠ w4.heap.size := by omega
  go_region_held3 (fun w' => (∀ b o, b < W5.heap.size → w'.cell? ⟨b, o, none⟩ = W5.cell? ⟨b, o, none⟩) ∧ Below W5.heap.size W5 w') (first | assumption | exact since_start | exact since_keep (by assumption) (Nat.le_refl _) hk) (first
    | (go_at_call 14; refine (lives_any _ (by first | exact hT5.drew | exact hT5.kept (‹(∀ b o, b < W5.heap.size → _) ∧ Below W5.heap.size W5 _›).2)).mono ?_; rintro e w6 ⟨rfl, hk⟩))
  have hkE : Kept w w6 := Below.trans hkW5 ((‹(∀ b o, b < W5.heap.size → _) ∧ Below W5.heap.size W5 w6›).2.mono (by omega))
  go_wp2_with fail
  go_ret
  exact ⟨rfl, hkE⟩
set_option maxRecDepth 100000 in
set_option maxHeartbeats 8000000 in
theorem short_no (k x y : Int) (w : World) (A : Option Addr) (n c : Nat) (hn : n ≤ 60) (hT : Tabs w) (hk : 15 < k) (h14 : n < 14) :
    Calls Tryd.prog 4 #[.agg #[.int .u8 k, .int .u8 x, .int .u8 y], .slice A n c] w fun e w' => e = .returned (.bool true) ∧ Kept w w' := by
  have hn' : (n : Int) ≤ 60 := by omega
  go_enter Tryd.func4, Tryd.ntmps4
  go_wp2_with (first
    | (go_at_call 16; refine (sense_bad k x y _ hk).mono ?_; rintro e w1 ⟨rfl, hk1⟩; obtain ⟨hc1, hf1⟩ := bcell hk1; have hs1 := hk1.size; simp only [World.size_alloc] at hc1 hf1 hs1; have hkw1 : Kept w w1 := ((Below.refl _ w).alloc (Nat.le_refl _) _).trans (hk1.mono (by simp)); have hlt1 : w.heap.size < w1.heap.size := (by omega); dsimp only)
    | (go_at_call 17; refine (dsense_short A n c _ h14).mono ?_; rintro e w4 ⟨rfl, hk4⟩; have hkw4 : Kept w w4 := hkw1.trans (hk4.mono (by omega)); dsimp only)
    | (go_at_call 14; refine (lives_any _ (by exact (hT.kept hkw4).alloc _)).mono ?_; rintro e w5 ⟨rfl, hk5⟩; have hkw5 : Kept w w5 := (hkw4.alloc hkw4.size _).trans (hk5.mono (by have := hkw4.size; simp; omega))))
  go_ret
  exact ⟨rfl, hkw5⟩
set_option maxRecDepth 100000 in
set_option maxHeartbeats 8000000 in
theorem bad_no (k x y : Int) (w : World) (A : Option Addr) (n c : Nat) (hn : n ≤ 60) (hT : Tabs w) (hk : 15 < k) (b off : Nat) (hA : A = some ⟨b, off, none⟩) (h14 : 14 ≤ n) (hb : b < w.heap.size) (z : Int) (z0 : w.cell? ⟨b, off, none⟩ = some (.int .u8 z)) (hz112 : z ≠ 112) :
    Calls Tryd.prog 4 #[.agg #[.int .u8 k, .int .u8 x, .int .u8 y], .slice A n c] w fun e w' => e = .returned (.bool true) ∧ Kept w w' := by
  have hn' : (n : Int) ≤ 60 := by omega
  have hn14 : (14 : Int) ≤ (n : Int) := by omega
  have hn00 : (0 : Int) < (n : Int) := by omega
  subst hA
  go_enter Tryd.func4, Tryd.ntmps4
  go_wp2_with (first
    | (go_at_call 16; refine (sense_bad k x y _ hk).mono ?_; rintro e w1 ⟨rfl, hk1⟩; obtain ⟨hc1, hf1⟩ := bcell hk1; have hs1 := hk1.size; simp only [World.size_alloc] at hc1 hf1 hs1; have hkw1 : Kept w w1 := ((Below.refl _ w).alloc (Nat.le_refl _) _).trans (hk1.mono (by simp)); have hlt1 : w.heap.size < w1.heap.size := (by omega); dsimp only)
    | (go_at_call 17; refine (dsense_bad b off n c z _ h14 (by exact Nat.lt_of_lt_of_le hb (by first | exact hkW.size | exact hkw1.size)) (by first | exact (hkW.cell (p := ⟨b, off, none⟩) hb).trans z0 | exact (hkw1.cell (p := ⟨b, off, none⟩) hb).trans z0) hz112).mono ?_; rintro e w4 ⟨rfl, hk4⟩; have hkw4 : Kept w w4 := hkw1.trans (hk4.mono (by omega)); have hlt4 : b < w4.heap.size := (Nat.lt_of_lt_of_le hb hkw4.size); have x0 := (hkw4.cell (p := ⟨b, off, none⟩) hb).trans z0; dsimp only)
    | (go_at_call 14; refine (lives_any _ (by exact (hT.kept hkw4).alloc _)).mono ?_; rintro e w5 ⟨rfl, hk5⟩; have hkw5 : Kept w w5 := (hkw4.alloc hkw4.size _).trans (hk5.mono (by have := hkw4.size; simp; omega))))
  go_ret
  exact ⟨rfl, hkw5⟩
set_option maxRecDepth 100000 in
set_option maxHeartbeats 8000000 in
theorem good_no (k x y : Int) (w : World) (A : Option Addr) (n c : Nat) (hn : n ≤ 60) (hT : Tabs w) (hk : 15 < k) (b off : Nat) (hA : A = some ⟨b, off, none⟩) (h14 : 14 ≤ n) (hb : b < w.heap.size) (z0 : w.cell? ⟨b, off, none⟩ = some (.int .u8 112)) (v2 v12 v13 : Int) (hv0 : 0 ≤ v2) (hv1 : v2 < 256) (z2 : w.cell? ⟨b, off + 2, none⟩ = some (.int .u8 v2)) (z12 : w.cell? ⟨b, off + 12, none⟩ = some (.int .u8 v12)) (z13 : w.cell? ⟨b, off + 13, none⟩ = some (.int .u8 v13)) :
    Calls Tryd.prog 4 #[.agg #[.int .u8 k, .int .u8 x, .int .u8 y], .slice A n c] w fun e w' => e = .returned (.bool true) ∧ Kept w w' := by
  have hn' : (n : Int) ≤ 60 := by omega
  have hn14 : (14 : Int) ≤ (n : Int) := by omega
  have hn00 : (0 : Int) < (n : Int) := by omega
  have hn02 : (2 : Int) < (n : Int) := by omega
  have hn12 : (12 : Int) < (n : Int) := by omega
  have hn13 : (13 : Int) < (n : Int) := by omega
  have htm : v2.tmod 16 = v2 % 16 := Int.tmod_eq_emod_of_nonneg hv0
  have hwr : IntKind.u8.wrap (v2 % 16) = v2 % 16 := by rw [IntKind.wrap_u8]; omega
  subst hA
  go_enter Tryd.func4, Tryd.ntmps4
  go_wp2_with (first
    | (go_at_call 16; refine (sense_bad k x y _ hk).mono ?_; rintro e w1 ⟨rfl, hk1⟩; obtain ⟨hc1, hf1⟩ := bcell hk1; have hs1 := hk1.size; simp only [World.size_alloc] at hc1 hf1 hs1; have hkw1 : Kept w w1 := ((Below.refl _ w).alloc (Nat.le_refl _) _).trans (hk1.mono (by simp)); have hlt1 : w.heap.size < w1.heap.size := (by omega); dsimp only)
    | (go_at_call 17; refine (dsense_good b off n c v2 v12 v13 _ h14 (by exact Nat.lt_of_lt_of_le hb (by first | exact hkW.size | exact hkw1.size)) (by first | exact (hkW.cell (p := ⟨b, off, none⟩) hb).trans z0 | exact (hkw1.cell (p := ⟨b, off, none⟩) hb).trans z0) (by first | exact (hkW.cell (p := ⟨b, off + 2, none⟩) hb).trans z2 | exact (hkw1.cell (p := ⟨b, off + 2, none⟩) hb).trans z2) (by first | exact (hkW.cell (p := ⟨b, off + 12, none⟩) hb).trans z12 | exact (hkw1.cell (p := ⟨b, off + 12, none⟩) hb).trans z12) (by first | exact (hkW.cell (p := ⟨b, off + 13, none⟩) hb).trans z13 | exact (hkw1.cell (p := ⟨b, off + 13, none⟩) hb).trans z13) hv0 hv1).mono ?_; rintro e w4 ⟨rfl, hk4⟩; have hkw4 : Kept w w4 := hkw1.trans (hk4.mono (by omega)); have hlt4 : b < w4.heap.size := (Nat.lt_of_lt_of_le hb hkw4.size); have x0 := (hkw4.cell (p := ⟨b, off, none⟩) hb).trans z0; have x2 := (hkw4.cell (p := ⟨b, off + 2, none⟩) hb).trans z2; have x12 := (hkw4.cell (p := ⟨b, off + 12, none⟩) hb).trans z12; have x13 := (hkw4.cell (p := ⟨b, off + 13, none⟩) hb).trans z13; dsimp only))
  clear x0
  have hsz4 := hkw4.size
  refine wp_name (B := w.heap.size) (w0 := w) (by go_grown) (fun W5 hcW5 hfW5 hz5 hkW5 => ?_)
  simp only [World.size_alloc] at hz5
  have hT5 := hT.kept hkW5
  have hne5 : b ≠ w4.heap.size := by omega
  go_region_held3 (fun w' => (∀ b o, b < W5.heap.size → w'.cell? ⟨b, o, none⟩ = W5.cell? ⟨b, o, none⟩) ∧ Below W5.heap.size W5 w') (first | assumption | exact since_start | exact since_keep (by assumption) (Nat.le_refl _) hk) (first
    | (go_at_call 14; refine (lives_any _ (by first | exact hT5.drew | exact hT5.kept (‹(∀ b o, b < W5.heap.size → _) ∧ Below W5.heap.size W5 _›).2)).mono ?_; rintro e w6 ⟨rfl, hk⟩))
  have hkE : Kept w w6 := Below.trans hkW5 ((‹(∀ b o, b < W5.heap.size → _) ∧ Below W5.heap.size W5 w6›).2.mono (by omega))
  go_wp2_with fail
  go_ret
  exact ⟨rfl, hkE⟩
end Go.Proofs.YtfojemocffelhaaDoor
