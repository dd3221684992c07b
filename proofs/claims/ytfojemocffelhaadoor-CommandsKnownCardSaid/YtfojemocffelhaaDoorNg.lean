/- The laws together; CommandsKnown: the walk. -/
import Derived.Test.YtfojemocffelhaaDoorChecked
import Derived.Deep.RegionHeld3
import Derived.Deep.DrawnRows
import Derived.Deep.DeepCutAuto
import Derived.Deep.LoopGhost
import Derived.Outline
import Derived.Handy
import Derived.OwnWalk
import Derived.Test.YtfojemocffelhaaDoorNe
import Derived.Test.YtfojemocffelhaaDoorSk
import Derived.Test.YtfojemocffelhaaDoorLe
import Derived.Test.YtfojemocffelhaaDoorLf
import Derived.Test.YtfojemocffelhaaDoorLg
import Derived.Test.YtfojemocffelhaaDoorLh
import Derived.Test.YtfojemocffelhaaDoorLk
import Derived.Test.YtfojemocffelhaaDoorLl
import Derived.Test.YtfojemocffelhaaDoorLm
import Derived.Test.YtfojemocffelhaaDoorLn
import Derived.Test.YtfojemocffelhaaDoorLo
import Derived.Test.YtfojemocffelhaaDoorLp
import Derived.Test.YtfojemocffelhaaDoorLq
import Derived.Test.YtfojemocffelhaaDoorLs
import Derived.Test.YtfojemocffelhaaDoorLt
import Derived.IntWalk
set_option linter.unusedVariables false
set_option linter.unusedSimpArgs false
set_option linter.unusedSectionVars false
/- CommandsInquiry together. -/
namespace Go.Proofs.YtfojemocffelhaaDoor
open Go.RowKit Go.Shelf
attribute [local go_sem ↓] Go.wp_at_zero Go.wp_at_succ

set_option maxRecDepth 100000 in
set_option maxHeartbeats 2000000 in
theorem big_1 (v p r : ByteArray) (rem : Bool) (y z : Nat) (A : Option Addr) (n c : Nat) (w : World) (hT : Tabs w) (h1 : (30 : Int) < (v.size : Int)) :
    Calls Tryd.prog 7 #[.agg #[.string v, .string p, .string r, .bool rem], .slice A n c, .agg #[.int .u32 y, .int .u32 z]] w fun e w' => e = .returned (.bool true) ∧ Kept w w' := by
  go_enter Tryd.func7, Tryd.ntmps7
  go_wp2_with (go_at_call 14; refine (lives_any _ (by exact (hT.alloc _).alloc _)).mono ?_; rintro e w1 ⟨rfl, hk1⟩)
  go_ret
  exact ⟨rfl, (((Below.refl _ w).alloc (Nat.le_refl _) _).alloc (by simp) _).trans (hk1.mono (by simp; omega))⟩
set_option maxRecDepth 100000 in
set_option maxHeartbeats 2000000 in
theorem big_2 (v p r : ByteArray) (rem : Bool) (y z : Nat) (A : Option Addr) (n c : Nat) (w : World) (hT : Tabs w) (h1 : (v.size : Int) ≤ 30) (h2 : (30 : Int) < (p.size : Int)) :
    Calls Tryd.prog 7 #[.agg #[.string v, .string p, .string r, .bool rem], .slice A n c, .agg #[.int .u32 y, .int .u32 z]] w fun e w' => e = .returned (.bool true) ∧ Kept w w' := by
  go_enter Tryd.func7, Tryd.ntmps7
  go_wp2_with (go_at_call 14; refine (lives_any _ (by exact (hT.alloc _).alloc _)).mono ?_; rintro e w1 ⟨rfl, hk1⟩)
  go_ret
  exact ⟨rfl, (((Below.refl _ w).alloc (Nat.le_refl _) _).alloc (by simp) _).trans (hk1.mono (by simp; omega))⟩
set_option maxRecDepth 100000 in
set_option maxHeartbeats 2000000 in
theorem big_3 (v p r : ByteArray) (rem : Bool) (y z : Nat) (A : Option Addr) (n c : Nat) (w : World) (hT : Tabs w) (h1 : (v.size : Int) ≤ 30) (h2 : (p.size : Int) ≤ 30) (h3 : (30 : Int) < (r.size : Int)) :
    Calls Tryd.prog 7 #[.agg #[.string v, .string p, .string r, .bool rem], .slice A n c, .agg #[.int .u32 y, .int .u32 z]] w fun e w' => e = .returned (.bool true) ∧ Kept w w' := by
  go_enter Tryd.func7, Tryd.ntmps7
  go_wp2_with (go_at_call 14; refine (lives_any _ (by exact (hT.alloc _).alloc _)).mono ?_; rintro e w1 ⟨rfl, hk1⟩)
  go_ret
  exact ⟨rfl, (((Below.refl _ w).alloc (Nat.le_refl _) _).alloc (by simp) _).trans (hk1.mono (by simp; omega))⟩
set_option maxRecDepth 100000 in
set_option maxHeartbeats 2000000 in
theorem big_4 (v p r : ByteArray) (rem : Bool) (y z : Nat) (A : Option Addr) (n c : Nat) (w : World) (hT : Tabs w) (h1 : (v.size : Int) ≤ 30) (h2 : (p.size : Int) ≤ 30) (h3 : (r.size : Int) ≤ 30) (h4 : (60 : Int) < (n : Int)) :
    Calls Tryd.prog 7 #[.agg #[.string v, .string p, .string r, .bool rem], .slice A n c, .agg #[.int .u32 y, .int .u32 z]] w fun e w' => e = .returned (.bool true) ∧ Kept w w' := by
  go_enter Tryd.func7, Tryd.ntmps7
  go_wp2_with (go_at_call 14; refine (lives_any _ (by exact (hT.alloc _).alloc _)).mono ?_; rintro e w1 ⟨rfl, hk1⟩)
  go_ret
  exact ⟨rfl, (((Below.refl _ w).alloc (Nat.le_refl _) _).alloc (by simp) _).trans (hk1.mono (by simp; omega))⟩
theorem inq_law (v p r : ByteArray) (rem : Bool) (y z : Nat) (A : Option Addr) (n c : Nat) (bs : List UInt8) (w : World) (hT : Tabs w) (hnc : n ≤ c) (hy : y < 4294967296) (hz : z < 4294967296)
    (hl : Sl byT w (low w.heap.size) A n bs) :
    Calls Tryd.prog 7 #[.agg #[.string v, .string p, .string r, .bool rem], .slice A n c, .agg #[.int .u32 y, .int .u32 z]] w fun e w' => e = .returned (.bool true) ∧ Kept w w' := by
  by_cases hv : 30 < v.size
  · exact big_1 v p r rem y z A n c w hT (by omega)
  by_cases hp : 30 < p.size
  · exact big_2 v p r rem y z A n c w hT (by omega) (by omega)
  by_cases hr : 30 < r.size
  · exact big_3 v p r rem y z A n c w hT (by omega) (by omega) (by omega)
  by_cases hn : 60 < n
  · exact big_4 v p r rem y z A n c w hT (by omega) (by omega) (by omega) (by omega)
  have hRv : ∀ w, _ := fun w => right_any v w (by omega)
  have hRp : ∀ w, _ := fun w => right_any p w (by omega)
  have hRr : ∀ w, _ := fun w => right_any r w (by omega)
  by_cases hlong : longB v p r = true
  · have hE : errI v p r = 3 := by rw [errI, if_pos hlong]
    rw [long_iff] at hlong
    by_cases h1 : 8 < v.size
    · cases hB1 : rightL v.data.toList <;> rw [hB1] at hRv
      · exact inqA_1_1 _ _ v p r rem y z A n c bs w hT (by omega) (by omega) (by omega) (by omega) hnc hy hz hl hRv hRp hRr (by omega) hE
      · cases hB2 : rightL p.data.toList <;> rw [hB2] at hRp
        · exact inqA_1_2 _ v p r rem y z A n c bs w hT (by omega) (by omega) (by omega) (by omega) hnc hy hz hl hRv hRp hRr (by omega) hE
        · cases hB3 : rightL r.data.toList <;> rw [hB3] at hRr
          · exact inqA_1_3 v p r rem y z A n c bs w hT (by omega) (by omega) (by omega) (by omega) hnc hy hz hl hRv hRp hRr (by omega) hE
          · exact inqA_1_4 v p r rem y z A n c bs w hT (by omega) (by omega) (by omega) (by omega) hnc hy hz hl hRv hRp hRr (by omega) hE
    · by_cases h2 : 16 < p.size
      · cases hB1 : rightL v.data.toList <;> rw [hB1] at hRv
        · exact inqA_2_1 _ _ v p r rem y z A n c bs w hT (by omega) (by omega) (by omega) (by omega) hnc hy hz hl hRv hRp hRr (by omega) (by omega) hE
        · cases hB2 : rightL p.data.toList <;> rw [hB2] at hRp
          · exact inqA_2_2 _ v p r rem y z A n c bs w hT (by omega) (by omega) (by omega) (by omega) hnc hy hz hl hRv hRp hRr (by omega) (by omega) hE
          · cases hB3 : rightL r.data.toList <;> rw [hB3] at hRr
            · exact inqA_2_3 v p r rem y z A n c bs w hT (by omega) (by omega) (by omega) (by omega) hnc hy hz hl hRv hRp hRr (by omega) (by omega) hE
            · exact inqA_2_4 v p r rem y z A n c bs w hT (by omega) (by omega) (by omega) (by omega) hnc hy hz hl hRv hRp hRr (by omega) (by omega) hE
      · cases hB1 : rightL v.data.toList <;> rw [hB1] at hRv
        · exact inqA_3_1 _ _ v p r rem y z A n c bs w hT (by omega) (by omega) (by omega) (by omega) hnc hy hz hl hRv hRp hRr (by omega) (by omega) (by omega) hE
        · cases hB2 : rightL p.data.toList <;> rw [hB2] at hRp
          · exact inqA_3_2 _ v p r rem y z A n c bs w hT (by omega) (by omega) (by omega) (by omega) hnc hy hz hl hRv hRp hRr (by omega) (by omega) (by omega) hE
          · cases hB3 : rightL r.data.toList <;> rw [hB3] at hRr
            · exact inqA_3_3 v p r rem y z A n c bs w hT (by omega) (by omega) (by omega) (by omega) hnc hy hz hl hRv hRp hRr (by omega) (by omega) (by omega) hE
            · exact inqA_3_4 v p r rem y z A n c bs w hT (by omega) (by omega) (by omega) (by omega) hnc hy hz hl hRv hRp hRr (by omega) (by omega) (by omega) hE
  · have hl0 : longB v p r = false := by simpa using hlong
    rw [long_iff] at hlong
    cases hB1 : rightL v.data.toList <;> rw [hB1] at hRv
    · exact inqA_0_1 _ _ v p r rem y z A n c bs w hT (by omega) (by omega) (by omega) (by omega) hnc hy hz hl hRv hRp hRr (by omega) (by omega) (by omega) (by simp [errI, hl0, allB, hB1])
    · cases hB2 : rightL p.data.toList <;> rw [hB2] at hRp
      · exact inqA_0_2 _ v p r rem y z A n c bs w hT (by omega) (by omega) (by omega) (by omega) hnc hy hz hl hRv hRp hRr (by omega) (by omega) (by omega) (by simp [errI, hl0, allB, hB2])
      · cases hB3 : rightL r.data.toList <;> rw [hB3] at hRr
        · exact inqA_0_3 v p r rem y z A n c bs w hT (by omega) (by omega) (by omega) (by omega) hnc hy hz hl hRv hRp hRr (by omega) (by omega) (by omega) (by simp [errI, hl0, allB, hB3])
        · exact inqA_0_4 v p r rem y z A n c bs w hT (by omega) (by omega) (by omega) (by omega) hnc hy hz hl hRv hRp hRr (by omega) (by omega) (by omega) (by simp [errI, hl0, allB, hB1, hB2, hB3])
end Go.Proofs.YtfojemocffelhaaDoor
/- CommandsSense, case by case: true, whatever the sense and the bytes. -/
namespace Go.Proofs.YtfojemocffelhaaDoor
open Go.RowKit
attribute [local go_sem ↓] Go.wp_at_zero Go.wp_at_succ

def senseL (k x y : Int) : List UInt8 := [112, 0, uz k, 0, 0, 0, 0, 10, 0, 0, 0, 0, uz x, uz y, 0, 0, 0, 0]
theorem senseL_cells {k x y : Int} (hk0 : 0 ≤ k) (hk : k < 256) (hx0 : 0 ≤ x) (hx : x < 256) (hy0 : 0 ≤ y) (hy : y < 256) :
    [Value.int .u8 112, .int .u8 0, .int .u8 k, .int .u8 0, .int .u8 0, .int .u8 0, .int .u8 0, .int .u8 10, .int .u8 0, .int .u8 0, .int .u8 0, .int .u8 0, .int .u8 x, .int .u8 y, .int .u8 0, .int .u8 0, .int .u8 0, .int .u8 0] = u8C (senseL k x y) := by
  simp [u8C, senseL, uz_int, *]
theorem len_gt (k x y : Int) (A : Option Addr) (n c : Nat) (w : World) (hT : Tabs w) (hn : 60 < n) :
    Calls Tryd.prog 4 #[.agg #[.int .u8 k, .int .u8 x, .int .u8 y], .slice A n c] w fun e w' => e = .returned (.bool true) ∧ Kept w w' := by
  have hn' : (60 : Int) < (n : Int) := by omega
  go_enter Tryd.func4, Tryd.ntmps4
  go_wp2_with (go_at_call 14; refine (lives_any _ (by exact hT.alloc _)).mono ?_; rintro e w1 ⟨rfl, hk1⟩; have hkw : Kept w w1 := ((Below.refl _ w).alloc (Nat.le_refl _) _).trans (hk1.mono (by simp)))
  go_ret
  exact ⟨rfl, hkw⟩
set_option maxRecDepth 100000 in
set_option maxHeartbeats 8000000 in
theorem short_ok (k x y : Int) (w : World) (A : Option Addr) (n c : Nat) (hn : n ≤ 60) (hT : Tabs w) (hk0 : 0 ≤ k) (hk : k ≤ 15) (hx0 : 0 ≤ x) (hx : x < 256) (hy0 : 0 ≤ y) (hy : y < 256) (h14 : n < 14) :
    Calls Tryd.prog 4 #[.agg #[.int .u8 k, .int .u8 x, .int .u8 y], .slice A n c] w fun e w' => e = .returned (.bool true) ∧ Kept w w' := by
  have hn' : (n : Int) ≤ 60 := by omega
  have hk16 : k % 16 = k := by omega
  have hcells := hide (senseL_cells hk0 (by omega : k < 256) hx0 hx hy0 hy)
  go_enter Tryd.func4, Tryd.ntmps4
  go_upto_region 9 with (first
    | (go_at_call 16; refine (sense_good k x y _ hk).mono ?_; rintro e w1 ⟨g1, rfl, hg1, hr1, hk1⟩; obtain ⟨hc1, hf1⟩ := bcell hk1; have hs1 := hk1.size; simp only [World.size_alloc] at hc1 hf1 hs1 hg1; have hkw1 : Kept w w1 := ((Below.refl _ w).alloc (Nat.le_refl _) _).trans (hk1.mono (by simp)); have hlt1 : w.heap.size < w1.heap.size := (by omega); have y0 := cell_heap (o := 0) hr1 rfl; have y2 := cell_heap (o := 2) hr1 rfl; have y12 := cell_heap (o := 12) hr1 rfl; have y13 := cell_heap (o := 13) hr1 rfl; dsimp only)
    | (go_at_call 17; refine (dsense_good g1 0 18 18 k x y _ (by omega) (by exact heap_lt hr1) y0 y2 y12 y13 hk0 (by omega)).mono ?_; rw [hk16]; rintro e w2 ⟨rfl, hk2⟩; obtain ⟨hc2, hf2⟩ := bcell hk2; have hs2 := hk2.size; have hkw2 : Kept w w2 := hkw1.trans (hk2.mono (by omega)); have hlt2 : w.heap.size < w2.heap.size := (by omega); have hr2 := heap_kept hk2 hr1; clear y0 y2 y12 y13; dsimp only))
  refine wp_nameH (B := w.heap.size) (w0 := w) (by go_grown) (fun W HH hcW hfW hz hkW => ?_)
  simp only [World.size_alloc] at hz
  have hrA := HH.out g1
  have hrB := HH.out (w2.heap.size + 1)
  rw [heap_past (heap_past hr2)] at hrA
  rw [heap_at _ (by rw [World.size_alloc])] at hrB
  have hcvA := conv_cells (cap := 18) (bs := senseL k x y) (cells_of_heap (w := W) (g := g1) (t := 5) (fr := (0, 0)) (by rw [← hcells.out]; exact hrA))
  have hcvB := conv_cells (cap := 18) (bs := senseL k x y) (cells_of_heap (w := W) (g := w2.heap.size + 1) (t := 5) (fr := (0, 0)) (by rw [← hcells.out]; exact hrB))
  simp only [senseL, List.length_cons, List.length_nil, Nat.reduceAdd] at hcvA hcvB
  generalize (⟨[112, 0, uz k, 0, 0, 0, 0, 10, 0, 0, 0, 0, uz x, uz y, 0, 0, 0, 0].toArray⟩ : ByteArray) = txt at hcvA hcvB
  have hne : w.heap.size ≠ w2.heap.size := by omega
  have hne2 : w.heap.size ≠ w2.heap.size + 1 := by omega
  clear hrA hrB HH hr2 hr1 hcells
  go_wp2_with (first
    | (go_at_call 17; refine (dsense_short A n c _ h14).mono ?_; rintro e w4 ⟨rfl, hk4⟩; have hkw4 : Kept w w4 := hkW.trans (hk4.mono (by omega)); dsimp only)
    | (go_at_call 14; refine (lives_any _ (by exact (hT.kept hkw4).alloc _)).mono ?_; rintro e w5 ⟨rfl, hk5⟩; have hkw5 : Kept w w5 := (hkw4.alloc hkw4.size _).trans (hk5.mono (by have := hkw4.size; simp; omega))))
  go_ret
  exact ⟨rfl, hkw5⟩
set_option maxRecDepth 100000 in
set_option maxHeartbeats 8000000 in
theorem bad_ok (k x y : Int) (w : World) (A : Option Addr) (n c : Nat) (hn : n ≤ 60) (hT : Tabs w) (hk0 : 0 ≤ k) (hk : k ≤ 15) (hx0 : 0 ≤ x) (hx : x < 256) (hy0 : 0 ≤ y) (hy : y < 256) (b off : Nat) (hA : A = some ⟨b, off, none⟩) (h14 : 14 ≤ n) (hb : b < w.heap.size) (z : Int) (z0 : w.cell? ⟨b, off, none⟩ = some (.int .u8 z)) (hz112 : z ≠ 112) :
    Calls Tryd.prog 4 #[.agg #[.int .u8 k, .int .u8 x, .int .u8 y], .slice A n c] w fun e w' => e = .returned (.bool true) ∧ Kept w w' := by
  have hn' : (n : Int) ≤ 60 := by omega
  have hk16 : k % 16 = k := by omega
  have hcells := hide (senseL_cells hk0 (by omega : k < 256) hx0 hx hy0 hy)
  go_enter Tryd.func4, Tryd.ntmps4
  go_upto_region 9 with (first
    | (go_at_call 16; refine (sense_good k x y _ hk).mono ?_; rintro e w1 ⟨g1, rfl, hg1, hr1, hk1⟩; obtain ⟨hc1, hf1⟩ := bcell hk1; have hs1 := hk1.size; simp only [World.size_alloc] at hc1 hf1 hs1 hg1; have hkw1 : Kept w w1 := ((Below.refl _ w).alloc (Nat.le_refl _) _).trans (hk1.mono (by simp)); have hlt1 : w.heap.size < w1.heap.size := (by omega); have y0 := cell_heap (o := 0) hr1 rfl; have y2 := cell_heap (o := 2) hr1 rfl; have y12 := cell_heap (o := 12) hr1 rfl; have y13 := cell_heap (o := 13) hr1 rfl; dsimp only)
    | (go_at_call 17; refine (dsense_good g1 0 18 18 k x y _ (by omega) (by exact heap_lt hr1) y0 y2 y12 y13 hk0 (by omega)).mono ?_; rw [hk16]; rintro e w2 ⟨rfl, hk2⟩; obtain ⟨hc2, hf2⟩ := bcell hk2; have hs2 := hk2.size; have hkw2 : Kept w w2 := hkw1.trans (hk2.mono (by omega)); have hlt2 : w.heap.size < w2.heap.size := (by omega); have hr2 := heap_kept hk2 hr1; clear y0 y2 y12 y13; dsimp only))
  refine wp_nameH (B := w.heap.size) (w0 := w) (by go_grown) (fun W HH hcW hfW hz hkW => ?_)
  simp only [World.size_alloc] at hz
  have hrA := HH.out g1
  have hrB := HH.out (w2.heap.size + 1)
  rw [heap_past (heap_past hr2)] at hrA
  rw [heap_at _ (by rw [World.size_alloc])] at hrB
  have hcvA := conv_cells (cap := 18) (bs := senseL k x y) (cells_of_heap (w := W) (g := g1) (t := 5) (fr := (0, 0)) (by rw [← hcells.out]; exact hrA))
  have hcvB := conv_cells (cap := 18) (bs := senseL k x y) (cells_of_heap (w := W) (g := w2.heap.size + 1) (t := 5) (fr := (0, 0)) (by rw [← hcells.out]; exact hrB))
  simp only [senseL, List.length_cons, List.length_nil, Nat.reduceAdd] at hcvA hcvB
  generalize (⟨[112, 0, uz k, 0, 0, 0, 0, 10, 0, 0, 0, 0, uz x, uz y, 0, 0, 0, 0].toArray⟩ : ByteArray) = txt at hcvA hcvB
  have hne : w.heap.size ≠ w2.heap.size := by omega
  have hne2 : w.heap.size ≠ w2.heap.size + 1 := by omega
  clear hrA hrB HH hr2 hr1 hcells
  have hn14 : (14 : Int) ≤ (n : Int) := by omega
  have hn00 : (0 : Int) < (n : Int) := by omega
  subst hA
  go_wp2_with (first
    | (go_at_call 17; refine (dsense_bad b off n c z _ h14 (by exact Nat.lt_of_lt_of_le hb (by first | exact hkW.size | exact hkw1.size)) (by first | exact (hkW.cell (p := ⟨b, off, none⟩) hb).trans z0 | exact (hkw1.cell (p := ⟨b, off, none⟩) hb).trans z0) hz112).mono ?_; rintro e w4 ⟨rfl, hk4⟩; have hkw4 : Kept w w4 := hkW.trans (hk4.mono (by omega)); have hlt4 : b < w4.heap.size := (Nat.lt_of_lt_of_le hb hkw4.size); have x0 := (hkw4.cell (p := ⟨b, off, none⟩) hb).trans z0; dsimp only)
    | (go_at_call 14; refine (lives_any _ (by exact (hT.kept hkw4).alloc _)).mono ?_; rintro e w5 ⟨rfl, hk5⟩; have hkw5 : Kept w w5 := (hkw4.alloc hkw4.size _).trans (hk5.mono (by have := hkw4.size; simp; omega))))
  go_ret
  exact ⟨rfl, hkw5⟩
set_option maxRecDepth 100000 in
set_option maxHeartbeats 8000000 in
theorem good_ok (k x y : Int) (w : World) (A : Option Addr) (n c : Nat) (hn : n ≤ 60) (hT : Tabs w) (hk0 : 0 ≤ k) (hk : k ≤ 15) (hx0 : 0 ≤ x) (hx : x < 256) (hy0 : 0 ≤ y) (hy : y < 256) (b off : Nat) (hA : A = some ⟨b, off, none⟩) (h14 : 14 ≤ n) (hb : b < w.heap.size) (z0 : w.cell? ⟨b, off, none⟩ = some (.int .u8 112)) (v2 v12 v13 : Int) (hv0 : 0 ≤ v2) (hv1 : v2 < 256) (z2 : w.cell? ⟨b, off + 2, none⟩ = some (.int .u8 v2)) (z12 : w.cell? ⟨b, off + 12, none⟩ = some (.int .u8 v12)) (z13 : w.cell? ⟨b, off + 13, none⟩ = some (.int .u8 v13)) :
    Calls Tryd.prog 4 #[.agg #[.int .u8 k, .int .u8 x, .int .u8 y], .slice A n c] w fun e w' => e = .returned (.bool true) ∧ Kept w w' := by
  have hn' : (n : Int) ≤ 60 := by omega
  have hk16 : k % 16 = k := by omega
  have hcells := hide (senseL_cells hk0 (by omega : k < 256) hx0 hx hy0 hy)
  go_enter Tryd.func4, Tryd.ntmps4
  go_upto_region 9 with (first
    | (go_at_call 16; refine (sense_good k x y _ hk).mono ?_; rintro e w1 ⟨g1, rfl, hg1, hr1, hk1⟩; obtain ⟨hc1, hf1⟩ := bcell hk1; have hs1 := hk1.size; simp only [World.size_alloc] at hc1 hf1 hs1 hg1; have hkw1 : Kept w w1 := ((Below.refl _ w).alloc (Nat.le_refl _) _).trans (hk1.mono (by simp)); have hlt1 : w.heap.size < w1.heap.size := (by omega); have y0 := cell_heap (o := 0) hr1 rfl; have y2 := cell_heap (o := 2) hr1 rfl; have y12 := cell_heap (o := 12) hr1 rfl; have y13 := cell_heap (o := 13) hr1 rfl; dsimp only)
    | (go_at_call 17; refine (dsense_good g1 0 18 18 k x y _ (by omega) (by exact heap_lt hr1) y0 y2 y12 y13 hk0 (by omega)).mono ?_; rw [hk16]; rintro e w2 ⟨rfl, hk2⟩; obtain ⟨hc2, hf2⟩ := bcell hk2; have hs2 := hk2.size; have hkw2 : Kept w w2 := hkw1.trans (hk2.mono (by omega)); have hlt2 : w.heap.size < w2.heap.size := (by omega); have hr2 := heap_kept hk2 hr1; clear y0 y2 y12 y13; dsimp only))
  refine wp_nameH (B := w.heap.size) (w0 := w) (by go_grown) (fun W HH hcW hfW hz hkW => ?_)
  simp only [World.size_alloc] at hz
  have hrA := HH.out g1
  have hrB := HH.out (w2.heap.size + 1)
  rw [heap_past (heap_past hr2)] at hrA
  rw [heap_at _ (by rw [World.size_alloc])] at hrB
  have hcvA := conv_cells (cap := 18) (bs := senseL k x y) (cells_of_heap (w := W) (g := g1) (t := 5) (fr := (0, 0)) (by rw [← hcells.out]; exact hrA))
  have hcvB := conv_cells (cap := 18) (bs := senseL k x y) (cells_of_heap (w := W) (g := w2.heap.size + 1) (t := 5) (fr := (0, 0)) (by rw [← hcells.out]; exact hrB))
  simp only [senseL, List.length_cons, List.length_nil, Nat.reduceAdd] at hcvA hcvB
  generalize (⟨[112, 0, uz k, 0, 0, 0, 0, 10, 0, 0, 0, 0, uz x, uz y, 0, 0, 0, 0].toArray⟩ : ByteArray) = txt at hcvA hcvB
  have hne : w.heap.size ≠ w2.heap.size := by omega
  have hne2 : w.heap.size ≠ w2.heap.size + 1 := by omega
  clear hrA hrB HH hr2 hr1 hcells
  have hn14 : (14 : Int) ≤ (n : Int) := by omega
  have hn00 : (0 : Int) < (n : Int) := by omega
  have hn02 : (2 : Int) < (n : Int) := by omega
  have hn12 : (12 : Int) < (n : Int) := by omega
  have hn13 : (13 : Int) < (n : Int) := by omega
  have htm : v2.tmod 16 = v2 % 16 := Int.tmod_eq_emod_of_nonneg hv0
  have hwr : IntKind.u8.wrap (v2 % 16) = v2 % 16 := by rw [IntKind.wrap_u8]; omega
  subst hA
  go_wp2_with (first
    | (go_at_call 17; refine (dsense_good b off n c v2 v12 v13 _ h14 (by exact Nat.lt_of_lt_of_le hb (by first | exact hkW.size | exact hkw1.size)) (by first | exact (hkW.cell (p := ⟨b, off, none⟩) hb).trans z0 | exact (hkw1.cell (p := ⟨b, off, none⟩) hb).trans z0) (by first | exact (hkW.cell (p := ⟨b, off + 2, none⟩) hb).trans z2 | exact (hkw1.cell (p := ⟨b, off + 2, none⟩) hb).trans z2) (by first | exact (hkW.cell (p := ⟨b, off + 12, none⟩) hb).trans z12 | exact (hkw1.cell (p := ⟨b, off + 12, none⟩) hb).trans z12) (by first | exact (hkW.cell (p := ⟨b, off + 13, none⟩) hb).trans z13 | exact (hkw1.cell (p := ⟨b, off + 13, none⟩) hb).trans z13) hv0 hv1).mono ?_; rintro e w4 ⟨rfl, hk4⟩; have hkw4 : Kept w w4 := hkW.trans (hk4.mono (by omega)); have hlt4 : b < w4.heap.size := (Nat.lt_of_lt_of_le hb hkw4.size); have x0 := (hkw4.cell (p := ⟨b, off, none⟩) hb).trans z0; have x2 := (hkw4.cell (p := ⟨b, off + 2, none⟩) hb).trans z2; have x12 := (hkw4.cell (p := ⟨b, off + 12, none⟩) hb).trans z12; have x13 := (hkw4.cell (p := ⟨b, off + 13, none⟩) hb).trans z13; dsimp only))
  clear x0
  have hsz4 := hkw4.size
  refine wp_name (B := w.heap.size) (w0 := w) (by go_grown) (fun W5 hcW5 hfW5 hz5 hkW5 => ?_)
  simp only [World.size_alloc] at hz5
  have hT5 := hT.kept hkW5
  have hne5 : b ≠ w4.heap.size := by omega
  go_region_held3 (fun w' => (∀ b o, b < W5.heap.size → w'.cell? ⟨b, o, none⟩ = W5.cell? ⟨b, o, none⟩) ∧ Below W5.heap.size W5 w') (first | assumption | exact since_start | exact since_keep (by assumption) (Nat.le_refl _) hk) (first
    | (go_at_call 14; refine (lives_any _ (by first | exact hT5.drew | exact hT5.kept (‹(∀ b o, b < W5.heap.size → _) ∧ Below W5.heap.size W5 _›).2)).mono ?_; rintro e w6 ⟨rfl, hk⟩))
  have hkE : Kept w w6 := Below.trans hkW5 ((‹(∀ b o, b < W5.heap.size → _) ∧ Below W5.heap.size W5 w6›).2.mono (by omega))
  go_wp2_with fail
  go_ret
  exact ⟨rfl, hkE⟩
set_option maxRecDepth 100000 in
set_option maxHeartbeats 8000000 in
theorem short_no (k x y : Int) (w : World) (A : Option Addr) (n c : Nat) (hn : n ≤ 60) (hT : Tabs w) (hk : 15 < k) (h14 : n < 14) :
    Calls Tryd.prog 4 #[.agg #[.int .u8 k, .int .u8 x, .int .u8 y], .slice A n c] w fun e w' => e = .returned (.bool true) ∧ Kept w w' := by
  have hn' : (n : Int) ≤ 60 := by omega
  go_enter Tryd.func4, Tryd.ntmps4
  go_wp2_with (first
    | (go_at_call 16; refine (sense_bad k x y _ hk).mono ?_; rintro e w1 ⟨rfl, hk1⟩; obtain ⟨hc1, hf1⟩ := bcell hk1; have hs1 := hk1.size; simp only [World.size_alloc] at hc1 hf1 hs1; have hkw1 : Kept w w1 := ((Below.refl _ w).alloc (Nat.le_refl _) _).trans (hk1.mono (by simp)); have hlt1 : w.heap.size < w1.heap.size := (by omega); dsimp only)
    | (go_at_call 17; refine (dsense_short A n c _ h14).mono ?_; rintro e w4 ⟨rfl, hk4⟩; have hkw4 : Kept w w4 := hkw1.trans (hk4.mono (by omega)); dsimp only)
    | (go_at_call 14; refine (lives_any _ (by exact (hT.kept hkw4).alloc _)).mono ?_; rintro e w5 ⟨rfl, hk5⟩; have hkw5 : Kept w w5 := (hkw4.alloc hkw4.size _).trans (hk5.mono (by have := hkw4.size; simp; omega))))
  go_ret
  exact ⟨rfl, hkw5⟩
set_option maxRecDepth 100000 in
set_option maxHeartbeats 8000000 in
theorem bad_no (k x y : Int) (w : World) (A : Option Addr) (n c : Nat) (hn : n ≤ 60) (hT : Tabs w) (hk : 15 < k) (b off : Nat) (hA : A = some ⟨b, off, none⟩) (h14 : 14 ≤ n) (hb : b < w.heap.size) (z : Int) (z0 : w.cell? ⟨b, off, none⟩ = some (.int .u8 z)) (hz112 : z ≠ 112) :
    Calls Tryd.prog 4 #[.agg #[.int .u8 k, .int .u8 x, .int .u8 y], .slice A n c] w fun e w' => e = .returned (.bool true) ∧ Kept w w' := by
  have hn' : (n : Int) ≤ 60 := by omega
  have hn14 : (14 : Int) ≤ (n : Int) := by omega
  have hn00 : (0 : Int) < (n : Int) := by omega
  subst hA
  go_enter Tryd.func4, Tryd.ntmps4
  go_wp2_with (first
    | (go_at_call 16; refine (sense_bad k x y _ hk).mono ?_; rintro e w1 ⟨rfl, hk1⟩; obtain ⟨hc1, hf1⟩ := bcell hk1; have hs1 := hk1.size; simp only [World.size_alloc] at hc1 hf1 hs1; have hkw1 : Kept w w1 := ((Below.refl _ w).alloc (Nat.le_refl _) _).trans (hk1.mono (by simp)); have hlt1 : w.heap.size < w1.heap.size := (by omega); dsimp only)
    | (go_at_call 17; refine (dsense_bad b off n c z _ h14 (by exact Nat.lt_of_lt_of_le hb (by first | exact hkW.size | exact hkw1.size)) (by first | exact (hkW.cell (p := ⟨b, off, none⟩) hb).trans z0 | exact (hkw1.cell (p := ⟨b, off, none⟩) hb).trans z0) hz112).mono ?_; rintro e w4 ⟨rfl, hk4⟩; have hkw4 : Kept w w4 := hkw1.trans (hk4.mono (by omega)); have hlt4 : b < w4.heap.size := (Nat.lt_of_lt_of_le hb hkw4.size); have x0 := (hkw4.cell (p := ⟨b, off, none⟩) hb).trans z0; dsimp only)
    | (go_at_call 14; refine (lives_any _ (by exact (hT.kept hkw4).alloc _)).mono ?_; rintro e w5 ⟨rfl, hk5⟩; have hkw5 : Kept w w5 := (hkw4.alloc hkw4.size _).trans (hk5.mono (by have := hkw4.size; simp; omega))))
  go_ret
  exact ⟨rfl, hkw5⟩
set_option maxRecDepth 100000 in
set_option maxHeartbeats 8000000 in
theorem good_no (k x y : Int) (w : World) (A : Option Addr) (n c : Nat) (hn : n ≤ 60) (hT : Tabs w) (hk : 15 < k) (b off : Nat) (hA : A = some ⟨b, off, none⟩) (h14 : 14 ≤ n) (hb : b < w.heap.size) (z0 : w.cell? ⟨b, off, none⟩ = some (.int .u8 112)) (v2 v12 v13 : Int) (hv0 : 0 ≤ v2) (hv1 : v2 < 256) (z2 : w.cell? ⟨b, off + 2, none⟩ = some (.int .u8 v2)) (z12 : w.cell? ⟨b, off + 12, none⟩ = some (.int .u8 v12)) (z13 : w.cell? ⟨b, off + 13, none⟩ = some (.int .u8 v13)) :
    Calls Tryd.prog 4 #[.agg #[.int .u8 k, .int .u8 x, .int .u8 y], .slice A n c] w fun e w' => e = .returned (.bool true) ∧ Kept w w' := by
  have hn' : (n : Int) ≤ 60 := by omega
  have hn14 : (14 : Int) ≤ (n : Int) := by omega
  have hn00 : (0 : Int) < (n : Int) := by omega
  have hn02 : (2 : Int) < (n : Int) := by omega
  have hn12 : (12 : Int) < (n : Int) := by omega
  have hn13 : (13 : Int) < (n : Int) := by omega
  have htm : v2.tmod 16 = v2 % 16 := Int.tmod_eq_emod_of_nonneg hv0
  have hwr : IntKind.u8.wrap (v2 % 16) = v2 % 16 := by rw [IntKind.wrap_u8]; omega
  subst hA
  go_enter Tryd.func4, Tryd.ntmps4
  go_wp2_with (first
    | (go_at_call 16; refine (sense_bad k x y _ hk).mono ?_; rintro e w1 ⟨rfl, hk1⟩; obtain ⟨hc1, hf1⟩ := bcell hk1; have hs1 := hk1.size; simp only [World.size_alloc] at hc1 hf1 hs1; have hkw1 : Kept w w1 := ((Below.refl _ w).alloc (Nat.le_refl _) _).trans (hk1.mono (by simp)); have hlt1 : w.heap.size < w1.heap.size := (by omega); dsimp only)
    | (go_at_call 17; refine (dsense_good b off n c v2 v12 v13 _ h14 (by exact Nat.lt_of_lt_of_le hb (by first | exact hkW.size | exact hkw1.size)) (by first | exact (hkW.cell (p := ⟨b, off, none⟩) hb).trans z0 | exact (hkw1.cell (p := ⟨b, off, none⟩) hb).trans z0) (by first | exact (hkW.cell (p := ⟨b, off + 2, none⟩) hb).trans z2 | exact (hkw1.cell (p := ⟨b, off + 2, none⟩) hb).trans z2) (by first | exact (hkW.cell (p := ⟨b, off + 12, none⟩) hb).trans z12 | exact (hkw1.cell (p := ⟨b, off + 12, none⟩) hb).trans z12) (by first | exact (hkW.cell (p := ⟨b, off + 13, none⟩) hb).trans z13 | exact (hkw1.cell (p := ⟨b, off + 13, none⟩) hb).trans z13) hv0 hv1).mono ?_; rintro e w4 ⟨rfl, hk4⟩; have hkw4 : Kept w w4 := hkw1.trans (hk4.mono (by omega)); have hlt4 : b < w4.heap.size := (Nat.lt_of_lt_of_le hb hkw4.size); have x0 := (hkw4.cell (p := ⟨b, off, none⟩) hb).trans z0; have x2 := (hkw4.cell (p := ⟨b, off + 2, none⟩) hb).trans z2; have x12 := (hkw4.cell (p := ⟨b, off + 12, none⟩) hb).trans z12; have x13 := (hkw4.cell (p := ⟨b, off + 13, none⟩) hb).trans z13; dsimp only))
  clear x0
  have hsz4 := hkw4.size
  refine wp_name (B := w.heap.size) (w0 := w) (by go_grown) (fun W5 hcW5 hfW5 hz5 hkW5 => ?_)
  simp only [World.size_alloc] at hz5
  have hT5 := hT.kept hkW5
  have hne5 : b ≠ w4.heap.size := by omega
  go_region_held3 (fun w' => (∀ b o, b < W5.heap.size → w'.cell? ⟨b, o, none⟩ = W5.cell? ⟨b, o, none⟩) ∧ Below W5.heap.size W5 w') (first | assumption | exact since_start | exact since_keep (by assumption) (Nat.le_refl _) hk) (first
    | (go_at_call 14; refine (lives_any _ (by first | exact hT5.drew | exact hT5.kept (‹(∀ b o, b < W5.heap.size → _) ∧ Below W5.heap.size W5 _›).2)).mono ?_; rintro e w6 ⟨rfl, hk⟩))
  have hkE : Kept w w6 := Below.trans hkW5 ((‹(∀ b o, b < W5.heap.size → _) ∧ Below W5.heap.size W5 w6›).2.mono (by omega))
  go_wp2_with fail
  go_ret
  exact ⟨rfl, hkE⟩
end Go.Proofs.YtfojemocffelhaaDoor
/- CommandsSense together. -/
namespace Go.Proofs.YtfojemocffelhaaDoor
open Go.RowKit

theorem sense_law (k x y : Int) (A : Option Addr) (n c : Nat) (bs : List UInt8) (w : World) (hT : Tabs w) (hk0 : 0 ≤ k) (hx0 : 0 ≤ x) (hx : x < 256) (hy0 : 0 ≤ y) (hy : y < 256)
    (hl : Sl byT w (low w.heap.size) A n bs) :
    Calls Tryd.prog 4 #[.agg #[.int .u8 k, .int .u8 x, .int .u8 y], .slice A n c] w fun e w' => e = .returned (.bool true) ∧ Kept w w' := by
  by_cases h60 : 60 < n
  · exact len_gt k x y A n c w hT h60
  have hn : n ≤ 60 := by omega
  by_cases h14 : n < 14
  · by_cases hk : 15 < k
    · exact short_no k x y w A n c hn hT hk h14
    · exact short_ok k x y w A n c hn hT hk0 (by omega) hx0 hx hy0 hy h14
  have h14' : 14 ≤ n := by omega
  obtain ⟨b0, b, off, e0, hA, hb, _, z0⟩ := by_at hl (Below.refl _ _) (show 0 < n by omega)
  obtain ⟨b2, b', off', e2, hA2, _, _, z2⟩ := by_at hl (Below.refl _ _) (show 2 < n by omega)
  obtain ⟨b12, b'', off'', e12, hA12, _, _, z12⟩ := by_at hl (Below.refl _ _) (show 12 < n by omega)
  obtain ⟨b13, b3, off3, e13, hA13, _, _, z13⟩ := by_at hl (Below.refl _ _) (show 13 < n by omega)
  rw [hA] at hA2 hA12 hA13
  injection hA2 with hA2
  injection hA2 with q1 q2 _
  subst q1 q2
  injection hA12 with hA12
  injection hA12 with q1 q2 _
  subst q1 q2
  injection hA13 with hA13
  injection hA13 with q1 q2 _
  subst q1 q2
  rw [Nat.add_zero] at z0
  have hv : (b2.toNat : Int) < 256 := by have := b2.toNat_lt; omega
  by_cases hz : (b0.toNat : Int) = 112
  · rw [hz] at z0
    by_cases hk : 15 < k
    · exact good_no k x y w A n c hn hT hk b off hA h14' hb z0 _ _ _ (by omega) hv z2 z12 z13
    · exact good_ok k x y w A n c hn hT hk0 (by omega) hx0 hx hy0 hy b off hA h14' hb z0 _ _ _ (by omega) hv z2 z12 z13
  · by_cases hk : 15 < k
    · exact bad_no k x y w A n c hn hT hk b off hA h14' hb _ z0 hz
    · exact bad_ok k x y w A n c hn hT hk0 (by omega) hx0 hx hy0 hy b off hA h14' hb _ z0 hz
end Go.Proofs.YtfojemocffelhaaDoor
/- CommandsMoves together. -/
namespace Go.Proofs.YtfojemocffelhaaDoor
open Go.RowKit

def M9 (op b c l size d n er : Int) : Prop := ∀ w, Tabs w → Calls Tryd.prog 9 #[.agg #[.int .u8 op, .int .u32 b, .int .u16 c, .int .i64 l], .int .i64 size] w fun e w' => e = .returned (.tuple #[.int .u8 d, .int .i64 n, .int .i64 er]) ∧ Kept w w'
theorem m9_of {op b c l size d n er : Int} (hb0 : 0 ≤ b) (hb : b < 4294967296) (hc0 : 0 ≤ c) (hc : c < 65536) (h : movesZ op b c l size = (d, n, er)) : M9 op b c l size d n er := fun w hT => by
  have := moves_any op b c l size w hT hb0 hb hc0 hc
  rw [h] at this
  exact this
theorem mz_bad {op b c l size : Int} (h : size < 1 ∨ 4096 < size) : movesZ op b c l size = (0, 0, 1) := by
  unfold movesZ
  rw [if_pos (by omega)]
theorem mz_none {op b c l size : Int} (hP : properZ op b c l = true) (h1 : 1 ≤ size) (h2 : size ≤ 4096) (hm : manyZ op c l size = 0) : movesZ op b c l size = (0, 0, 0) := by
  unfold movesZ
  rw [if_neg (by rw [hP]; simp; omega), if_pos hm]
theorem mz_some {op b c l size m : Int} (hP : properZ op b c l = true) (h1 : 1 ≤ size) (h2 : size ≤ 4096) (hm : manyZ op c l size = m) (hm0 : m ≠ 0) : movesZ op b c l size = (dirZ op, m, 0) := by
  unfold movesZ
  rw [if_neg (by rw [hP]; simp; omega), if_neg (by rw [hm]; exact hm0), hm]
theorem tz_len {op b c l : Int} {p q : List UInt8} (hP : properZ op b c l = true) (ho : op = 3 ∨ op = 18) (hn : nameZ op = ⟨p.toArray⟩) (hq : q = p ++ [32]) : textZ op b c l = ⟨q.toArray⟩ ++ decB l.toNat := by
  unfold textZ
  rw [if_neg (by rw [hP]; decide), if_pos ho, hn, hq]
  exact str_inj (by simp)
theorem tz_blk {op b c l : Int} {p q : List UInt8} (hP : properZ op b c l = true) (ho : op = 40 ∨ op = 42 ∨ op = 53) (hn : nameZ op = ⟨p.toArray⟩) (hq : q = p ++ [32]) : textZ op b c l = ((⟨q.toArray⟩ ++ decB b.toNat) ++ ⟨#[32]⟩) ++ decB c.toNat := by
  unfold textZ
  rw [if_neg (by rw [hP]; decide), if_neg (by omega), if_pos ho, hn, hq]
  exact str_inj (by simp)
theorem moves_law (op b c l size : Int) (w : World) (hT : Tabs w) (hb0 : 0 ≤ b) (hb : b < 4294967296) (hc0 : 0 ≤ c) (hc : c < 65536) : Calls Tryd.prog 3 #[.agg #[.int .u8 op, .int .u32 b, .int .u16 c, .int .i64 l], .int .i64 size] w fun e w' => e = .returned (.bool true) ∧ Kept w w' := by
  have h10 : ∀ w, Tabs w → _ := fun w hT => text_any op b c l w hT hb0 hb hc0 hc
  have h12 : ∀ w, Tabs w → _ := fun w hT => proper_any op b c l w hT hb0 hb hc0 hc
  have h13 : ∀ w, _ := fun w => lawproper_any op b c l w hb0 hb hc0 hc
  cases hP : properZ op b c l with
  | false =>
    rw [hP] at h12 h13
    rw [show textZ op b c l = ⟨#[63]⟩ by unfold textZ; rw [if_pos hP]] at h10
    have h9 : M9 op b c l size 0 0 1 := m9_of hb0 hb hc0 hc (by unfold movesZ; rw [if_pos (Or.inl hP)])
    exact mv_bad op b c l size w hT h9 h10 (fun w hT => (encode_no op b c l w hT hb0 hb hc0 hc hP).mono fun e w' ⟨h1, h2⟩ => ⟨_, h1, rfl, h2⟩) h12 h13
  | true =>
    rw [hP] at h12 h13
    have h11 : ∀ w, Tabs w → Calls Tryd.prog 11 #[.agg #[.int .u8 op, .int .u32 b, .int .u16 c, .int .i64 l]] w fun e w' => ∃ vb, e = .returned (.tuple #[vb, .int .i64 0]) ∧ Kept w w' := fun w hT => (encode_yes op b c l w hT hb0 hb hc0 hc hP).mono fun e w' ⟨g, h1, _, _, h2⟩ => ⟨_, h1, h2⟩
    have hdb : ∀ w, _ := fun w => dec_int b w hb0 (by omega)
    have hdc : ∀ w, _ := fun w => dec_int c w hc0 (by omega)
    have hsb : (decB b.toNat).size ≤ 100 := decB_size (by omega)
    have hsc : (decB c.toNat).size ≤ 100 := decB_size (by omega)
    have hsl : 0 ≤ l → l ≤ 255 → (decB l.toNat).size ≤ 100 ∧ ∀ w, Calls Tryd.prog 15 #[.int .u64 l] w fun e w' => e = .returned (.string (decB l.toNat)) ∧ Kept w w' := fun h0 h1 => ⟨decB_size (by omega), fun w => dec_int l w h0 (by omega)⟩
    by_cases hs1 : size < 1
    · have h9 : M9 op b c l size 0 0 1 := m9_of hb0 hb hc0 hc (mz_bad (Or.inl hs1))
      rcases op_cases op with rfl | rfl | rfl | rfl | rfl | rfl | rfl | h
      · exact mv_ready_lo b c l size w hT hb0 hb hc0 hc hs1 h9 (by rw [show textZ 0 b c l = ⟨#[82, 69, 65, 68, 89]⟩ by unfold textZ; rw [hP]; rfl] at h10; exact h10) h11 h12 h13
      · have hl : 0 ≤ l ∧ l ≤ 255 := by simp [properZ] at hP; omega
        rw [tz_len (q := [65, 83, 75, 32]) hP (by omega) rfl rfl] at h10
        exact mv_ask_lo b c l size w hT hb0 hb hc0 hc _ hl.1 hl.2 (hsl hl.1 hl.2).1 (hsl hl.1 hl.2).2 hs1 h9 h10 h11 h12 h13
      · have hl : 0 ≤ l ∧ l ≤ 255 := by simp [properZ] at hP; omega
        rw [tz_len (q := [73, 68, 69, 78, 84, 73, 70, 89, 32]) hP (by omega) rfl rfl] at h10
        exact mv_ident_lo b c l size w hT hb0 hb hc0 hc _ hl.1 hl.2 (hsl hl.1 hl.2).1 (hsl hl.1 hl.2).2 hs1 h9 h10 h11 h12 h13
      · exact mv_size_lo b c l size w hT hb0 hb hc0 hc hs1 h9 (by rw [show textZ 37 b c l = ⟨#[83, 73, 90, 69]⟩ by unfold textZ; rw [hP]; rfl] at h10; exact h10) h11 h12 h13
      · rw [tz_blk (q := [82, 69, 65, 68, 32]) hP (by omega) rfl rfl] at h10
        exact mv_read_lo b c l size w hT hb0 hb hc0 hc _ _ hsb hsc hdb hdc hs1 h9 h10 h11 h12 h13
      · rw [tz_blk (q := [87, 82, 73, 84, 69, 32]) hP (by omega) rfl rfl] at h10
        exact mv_write_lo b c l size w hT hb0 hb hc0 hc _ _ hsb hsc hdb hdc hs1 h9 h10 h11 h12 h13
      · rw [tz_blk (q := [83, 89, 78, 67, 72, 82, 79, 78, 73, 90, 69, 32]) hP (by omega) rfl rfl] at h10
        exact mv_sync_lo b c l size w hT hb0 hb hc0 hc _ _ hsb hsc hdb hdc hs1 h9 h10 h11 h12 h13
      · have h' := properZ_none op h
        simp [properZ, h'] at hP
    by_cases hs2 : 4096 < size
    · have h9 : M9 op b c l size 0 0 1 := m9_of hb0 hb hc0 hc (mz_bad (Or.inr hs2))
      rcases op_cases op with rfl | rfl | rfl | rfl | rfl | rfl | rfl | h
      · exact mv_ready_hi b c l size w hT hb0 hb hc0 hc hs2 h9 (by rw [show textZ 0 b c l = ⟨#[82, 69, 65, 68, 89]⟩ by unfold textZ; rw [hP]; rfl] at h10; exact h10) h11 h12 h13
      · have hl : 0 ≤ l ∧ l ≤ 255 := by simp [properZ] at hP; omega
        rw [tz_len (q := [65, 83, 75, 32]) hP (by omega) rfl rfl] at h10
        exact mv_ask_hi b c l size w hT hb0 hb hc0 hc _ hl.1 hl.2 (hsl hl.1 hl.2).1 (hsl hl.1 hl.2).2 hs2 h9 h10 h11 h12 h13
      · have hl : 0 ≤ l ∧ l ≤ 255 := by simp [properZ] at hP; omega
        rw [tz_len (q := [73, 68, 69, 78, 84, 73, 70, 89, 32]) hP (by omega) rfl rfl] at h10
        exact mv_ident_hi b c l size w hT hb0 hb hc0 hc _ hl.1 hl.2 (hsl hl.1 hl.2).1 (hsl hl.1 hl.2).2 hs2 h9 h10 h11 h12 h13
      · exact mv_size_hi b c l size w hT hb0 hb hc0 hc hs2 h9 (by rw [show textZ 37 b c l = ⟨#[83, 73, 90, 69]⟩ by unfold textZ; rw [hP]; rfl] at h10; exact h10) h11 h12 h13
      · rw [tz_blk (q := [82, 69, 65, 68, 32]) hP (by omega) rfl rfl] at h10
        exact mv_read_hi b c l size w hT hb0 hb hc0 hc _ _ hsb hsc hdb hdc hs2 h9 h10 h11 h12 h13
      · rw [tz_blk (q := [87, 82, 73, 84, 69, 32]) hP (by omega) rfl rfl] at h10
        exact mv_write_hi b c l size w hT hb0 hb hc0 hc _ _ hsb hsc hdb hdc hs2 h9 h10 h11 h12 h13
      · rw [tz_blk (q := [83, 89, 78, 67, 72, 82, 79, 78, 73, 90, 69, 32]) hP (by omega) rfl rfl] at h10
        exact mv_sync_hi b c l size w hT hb0 hb hc0 hc _ _ hsb hsc hdb hdc hs2 h9 h10 h11 h12 h13
      · have h' := properZ_none op h
        simp [properZ, h'] at hP
    have hs1 : 1 ≤ size := by omega
    have hs2 : size ≤ 4096 := by omega
    have hcs0 : 0 ≤ size * c := Int.mul_nonneg (by omega) hc0
    have hcs1 : size * c ≤ 268431360 := Int.le_trans (Int.mul_le_mul (show size ≤ 4096 by omega) (show c ≤ 65535 by omega) (by omega) (by omega)) (by omega)
    have hcs2 : c ≠ 0 → 1 ≤ size * c := fun h => Int.le_trans (show (1 : Int) ≤ 1 * c by omega) (Int.mul_le_mul_of_nonneg_right (by omega) (by omega))
    rcases op_cases op with rfl | rfl | rfl | rfl | rfl | rfl | rfl | h
    · have hl : l = 0 := by simp [properZ] at hP; omega
      exact mv_ready b c l size w hT hb0 hb hc0 hc hs1 hs2 trivial (m9_of hb0 hb hc0 hc (mz_none hP hs1 hs2 (by simp [manyZ, hl]))) (by rw [show textZ 0 b c l = ⟨#[82, 69, 65, 68, 89]⟩ by unfold textZ; rw [hP]; rfl] at h10; exact h10) h11 h12 h13
    · have hl : 0 ≤ l ∧ l ≤ 255 := by simp [properZ] at hP; omega
      rw [tz_len (q := [65, 83, 75, 32]) hP (by omega) rfl rfl] at h10
      by_cases hz : l = 0
      · exact mv_ask_0 b c l size w hT hb0 hb hc0 hc _ hl.1 hl.2 (hsl hl.1 hl.2).1 (hsl hl.1 hl.2).2 hs1 hs2 hz (m9_of hb0 hb hc0 hc (mz_none hP hs1 hs2 (by simp [manyZ, hz]))) h10 h11 h12 h13
      · exact mv_ask b c l size w hT hb0 hb hc0 hc _ hl.1 hl.2 (hsl hl.1 hl.2).1 (hsl hl.1 hl.2).2 hs1 hs2 hz (m9_of hb0 hb hc0 hc (mz_some hP hs1 hs2 (by simp [manyZ]) hz)) h10 h11 h12 h13
    · have hl : 0 ≤ l ∧ l ≤ 255 := by simp [properZ] at hP; omega
      rw [tz_len (q := [73, 68, 69, 78, 84, 73, 70, 89, 32]) hP (by omega) rfl rfl] at h10
      by_cases hz : l = 0
      · exact mv_ident_0 b c l size w hT hb0 hb hc0 hc _ hl.1 hl.2 (hsl hl.1 hl.2).1 (hsl hl.1 hl.2).2 hs1 hs2 hz (m9_of hb0 hb hc0 hc (mz_none hP hs1 hs2 (by simp [manyZ, hz]))) h10 h11 h12 h13
      · exact mv_ident b c l size w hT hb0 hb hc0 hc _ hl.1 hl.2 (hsl hl.1 hl.2).1 (hsl hl.1 hl.2).2 hs1 hs2 hz (m9_of hb0 hb hc0 hc (mz_some hP hs1 hs2 (by simp [manyZ]) hz)) h10 h11 h12 h13
    · exact mv_size b c l size w hT hb0 hb hc0 hc hs1 hs2 trivial (m9_of hb0 hb hc0 hc (mz_some hP hs1 hs2 (by simp [manyZ]) (by decide))) (by rw [show textZ 37 b c l = ⟨#[83, 73, 90, 69]⟩ by unfold textZ; rw [hP]; rfl] at h10; exact h10) h11 h12 h13
    · rw [tz_blk (q := [82, 69, 65, 68, 32]) hP (by omega) rfl rfl] at h10
      by_cases hz : c = 0
      · exact mv_read_0 b c l size w hT hb0 hb hc0 hc _ _ hsb hsc hdb hdc hs1 hs2 hz (m9_of hb0 hb hc0 hc (mz_none hP hs1 hs2 (by simp [manyZ, hz]))) h10 h11 h12 h13
      · have := hcs2 hz
        exact mv_read b c l size w hT hb0 hb hc0 hc _ _ hsb hsc hdb hdc hs1 hs2 this hcs1 (m9_of hb0 hb hc0 hc (mz_some hP hs1 hs2 (by simp [manyZ, Int.mul_comm]) (by omega))) h10 h11 h12 h13
    · rw [tz_blk (q := [87, 82, 73, 84, 69, 32]) hP (by omega) rfl rfl] at h10
      by_cases hz : c = 0
      · exact mv_write_0 b c l size w hT hb0 hb hc0 hc _ _ hsb hsc hdb hdc hs1 hs2 hz (m9_of hb0 hb hc0 hc (mz_none hP hs1 hs2 (by simp [manyZ, hz]))) h10 h11 h12 h13
      · have := hcs2 hz
        exact mv_write b c l size w hT hb0 hb hc0 hc _ _ hsb hsc hdb hdc hs1 hs2 this hcs1 (m9_of hb0 hb hc0 hc (mz_some hP hs1 hs2 (by simp [manyZ, Int.mul_comm]) (by omega))) h10 h11 h12 h13
    · have hl : l = 0 := by simp [properZ] at hP; omega
      rw [tz_blk (q := [83, 89, 78, 67, 72, 82, 79, 78, 73, 90, 69, 32]) hP (by omega) rfl rfl] at h10
      exact mv_sync b c l size w hT hb0 hb hc0 hc _ _ hsb hsc hdb hdc hs1 hs2 (m9_of hb0 hb hc0 hc (mz_none hP hs1 hs2 (by simp [manyZ, hl]))) h10 h11 h12 h13
    · have h' := properZ_none op h
      simp [properZ, h'] at hP
end Go.Proofs.YtfojemocffelhaaDoor
/- CommandsDecode together. -/
namespace Go.Proofs.YtfojemocffelhaaDoor
open Go.RowKit

theorem byte_bd (x : UInt8) : 0 ≤ (x.toNat : Int) ∧ (x.toNat : Int) < 256 := by have := x.toNat_lt; omega
theorem two_at {l : List UInt8} {k : Nat} {x y : UInt8} (hx : l[k]? = some x) (hy : l[k + 1]? = some y) : (l.drop k).take 2 = [x, y] := by
  obtain ⟨h1, e1⟩ := List.getElem?_eq_some_iff.1 hx
  obtain ⟨h2, e2⟩ := List.getElem?_eq_some_iff.1 hy
  rw [List.drop_eq_getElem_cons h1, List.drop_eq_getElem_cons h2, e1, e2]
  rfl
theorem four_at {l : List UInt8} {k : Nat} {x y z t : UInt8} (hx : l[k]? = some x) (hy : l[k + 1]? = some y) (hz : l[k + 2]? = some z) (ht : l[k + 3]? = some t) : (l.drop k).take 4 = [x, y, z, t] := by
  obtain ⟨h1, e1⟩ := List.getElem?_eq_some_iff.1 hx
  obtain ⟨h2, e2⟩ := List.getElem?_eq_some_iff.1 hy
  obtain ⟨h3, e3⟩ := List.getElem?_eq_some_iff.1 hz
  obtain ⟨h4, e4⟩ := List.getElem?_eq_some_iff.1 ht
  rw [List.drop_eq_getElem_cons h1, List.drop_eq_getElem_cons h2, List.drop_eq_getElem_cons h3, List.drop_eq_getElem_cons h4, e1, e2, e3, e4]
  rfl
theorem decode_law (A : Option Addr) (n cp : Nat) (bs : List UInt8) (w : World) (hT : Tabs w) (hl : Sl byT w (low w.heap.size) A n bs) (hcp : n ≤ cp) :
    Calls Tryd.prog 6 #[.slice A n cp] w fun e w' => e = .returned (.bool true) ∧ Kept w w' := by
  by_cases h40 : 40 < n
  · exact jd_long A n cp w hT h40
  have hn40 : n ≤ 40 := by omega
  have hdec := decode_any A n cp bs w hT hl hcp
  have hlen := hl.1
  by_cases hn : n = 0
  · subst hn
    have : bs = [] := List.eq_nil_of_length_eq_zero hlen
    subst this
    exact jd_empty A cp w hT hdec
  have hn : 0 < n := by omega
  have hne : bs ≠ [] := fun h => by rw [h] at hlen; simp at hlen; omega
  obtain ⟨b, off, rfl, hB⟩ := Bs.of_sl hl hn
  obtain ⟨x0, hx0⟩ : ∃ x, bs[0]? = some x := ⟨_, List.getElem?_eq_getElem (by omega)⟩
  have z0 := hB.2 0 x0 hx0
  rw [← opD_of hx0, Nat.add_zero] at z0
  rcases op_cases (opD bs) with e | e | e | e | e | e | e | h
  · rw [e] at z0
    by_cases hw : n < 6 ∨ 16 < n
    · have he : errD bs = 5 := by
        unfold errD
        rw [if_neg hne, e, if_neg (by decide), if_pos (by rw [hlen]; exact hw)]
      unfold decV at hdec
      rw [he, if_neg (by decide)] at hdec
      exact jd_width_0 b off n cp w hT hn hn40 (by exact hw) hB.1 z0 hdec
    have hwd : 6 ≤ n := by omega
    have h16 : n ≤ 16 := by omega
    have h1 : widZ (opD bs) ≠ 0 := by rw [e]; decide
    have h2 : widZ (opD bs) ≤ bs.length := by rw [e, hlen]; exact hwd
    have he := err_good hne h1 h2 (by omega)
    have eb : blkD bs = 0 := by unfold blkD; rw [e]; rfl
    have ec : cntD bs = 0 := by unfold cntD; rw [e]; rfl
    have el : lenD bs = 0 := by unfold lenD; rw [e]; rfl
    have hP : properZ 0 0 0 0 = true := by decide
    have h13 : ∀ w, _ := fun w => lawproper_any 0 0 0 0 w (by decide) (by decide) (by decide) (by decide)
    rw [hP] at h13
    have h19 : ∀ w, _ := fun w => lawbytes 0 0 0 0 w (by decide) (by decide) (by decide) (by decide) hP
    have hL : (bytesZ 0 0 0 0).length = 6 := bytesZ_len hP
    unfold decV at hdec
    by_cases hd : bytesZ 0 0 0 0 = bs.take 6
    · cases hz : (bs.drop 6).all (· == 0) with
      | false =>
        have hg : ¬ goodD bs = true := fun h => by
          have := (good_parts.1 h).2.2
          rw [e] at this
          exact absurd (hz.symm.trans this) (by decide)
        rw [he, if_neg hg, if_neg (by decide)] at hdec
        exact jd_0_tail b off n cp bs w hT hlen hwd h16 hcp hB z0  h13 _ hL h19 hd hz hdec
      | true =>
        have hg : goodD bs = true := good_parts.2 ⟨by rw [e, eb, ec, el]; exact hP, by rw [e, eb, ec, el]; exact hd, by rw [e]; exact hz⟩
        rw [he, if_pos hg, if_pos rfl, e, eb, ec, el] at hdec
        exact jd_0_ok b off n cp bs w hT hlen hwd h16 hcp hB z0  h13 _ hL h19 hd hz hdec
    · have hg : ¬ goodD bs = true := fun h => by
        have := (good_parts.1 h).2.1
        rw [e, eb, ec, el] at this
        exact hd this
      rw [he, if_neg hg, if_neg (by decide)] at hdec
      exact jd_0_ne b off n cp bs w hT hlen hwd h16 hcp hB z0  h13 _ hL h19 hd hdec
  · rw [e] at z0
    by_cases hw : n < 6 ∨ 16 < n
    · have he : errD bs = 5 := by
        unfold errD
        rw [if_neg hne, e, if_neg (by decide), if_pos (by rw [hlen]; exact hw)]
      unfold decV at hdec
      rw [he, if_neg (by decide)] at hdec
      exact jd_width_3 b off n cp w hT hn hn40 (by exact hw) hB.1 z0 hdec
    have hwd : 6 ≤ n := by omega
    have h16 : n ≤ 16 := by omega
    have h1 : widZ (opD bs) ≠ 0 := by rw [e]; decide
    have h2 : widZ (opD bs) ≤ bs.length := by rw [e, hlen]; exact hwd
    have he := err_good hne h1 h2 (by omega)
    obtain ⟨x4, hx4⟩ : ∃ x, bs[4]? = some x := ⟨_, List.getElem?_eq_getElem (by omega)⟩
    have z4 := hB.2 4 x4 hx4
    have hx := x4.toNat_lt
    have eb : blkD bs = 0 := by unfold blkD; rw [e]; rfl
    have ec : cntD bs = 0 := by unfold cntD; rw [e]; rfl
    have el : lenD bs = (x4.toNat : Int) := by unfold lenD; rw [e, hx4]; rfl
    have hP : properZ 3 0 0 (x4.toNat : Int) = true := by
      simp [properZ]
      omega
    have h13 : ∀ w, _ := fun w => lawproper_any 3 0 0 (x4.toNat : Int) w (by decide) (by decide) (by decide) (by decide)
    rw [hP] at h13
    have h19 : ∀ w, _ := fun w => lawbytes 3 0 0 (x4.toNat : Int) w (by decide) (by decide) (by decide) (by decide) hP
    have hL : (bytesZ 3 0 0 (x4.toNat : Int)).length = 6 := bytesZ_len hP
    unfold decV at hdec
    by_cases hd : bytesZ 3 0 0 (x4.toNat : Int) = bs.take 6
    · cases hz : (bs.drop 6).all (· == 0) with
      | false =>
        have hg : ¬ goodD bs = true := fun h => by
          have := (good_parts.1 h).2.2
          rw [e] at this
          exact absurd (hz.symm.trans this) (by decide)
        rw [he, if_neg hg, if_neg (by decide)] at hdec
        exact jd_3_tail b off n cp bs w hT hlen hwd h16 hcp hB z0 (x4.toNat : Int) (by omega) (by omega) z4 h13 _ hL h19 hd hz hdec
      | true =>
        have hg : goodD bs = true := good_parts.2 ⟨by rw [e, eb, ec, el]; exact hP, by rw [e, eb, ec, el]; exact hd, by rw [e]; exact hz⟩
        rw [he, if_pos hg, if_pos rfl, e, eb, ec, el] at hdec
        exact jd_3_ok b off n cp bs w hT hlen hwd h16 hcp hB z0 (x4.toNat : Int) (by omega) (by omega) z4 h13 _ hL h19 hd hz hdec
    · have hg : ¬ goodD bs = true := fun h => by
        have := (good_parts.1 h).2.1
        rw [e, eb, ec, el] at this
        exact hd this
      rw [he, if_neg hg, if_neg (by decide)] at hdec
      exact jd_3_ne b off n cp bs w hT hlen hwd h16 hcp hB z0 (x4.toNat : Int) (by omega) (by omega) z4 h13 _ hL h19 hd hdec
  · rw [e] at z0
    by_cases hw : n < 6 ∨ 16 < n
    · have he : errD bs = 5 := by
        unfold errD
        rw [if_neg hne, e, if_neg (by decide), if_pos (by rw [hlen]; exact hw)]
      unfold decV at hdec
      rw [he, if_neg (by decide)] at hdec
      exact jd_width_18 b off n cp w hT hn hn40 (by exact hw) hB.1 z0 hdec
    have hwd : 6 ≤ n := by omega
    have h16 : n ≤ 16 := by omega
    have h1 : widZ (opD bs) ≠ 0 := by rw [e]; decide
    have h2 : widZ (opD bs) ≤ bs.length := by rw [e, hlen]; exact hwd
    have he := err_good hne h1 h2 (by omega)
    obtain ⟨x4, hx4⟩ : ∃ x, bs[4]? = some x := ⟨_, List.getElem?_eq_getElem (by omega)⟩
    have z4 := hB.2 4 x4 hx4
    have hx := x4.toNat_lt
    have eb : blkD bs = 0 := by unfold blkD; rw [e]; rfl
    have ec : cntD bs = 0 := by unfold cntD; rw [e]; rfl
    have el : lenD bs = (x4.toNat : Int) := by unfold lenD; rw [e, hx4]; rfl
    have hP : properZ 18 0 0 (x4.toNat : Int) = true := by
      simp [properZ]
      omega
    have h13 : ∀ w, _ := fun w => lawproper_any 18 0 0 (x4.toNat : Int) w (by decide) (by decide) (by decide) (by decide)
    rw [hP] at h13
    have h19 : ∀ w, _ := fun w => lawbytes 18 0 0 (x4.toNat : Int) w (by decide) (by decide) (by decide) (by decide) hP
    have hL : (bytesZ 18 0 0 (x4.toNat : Int)).length = 6 := bytesZ_len hP
    unfold decV at hdec
    by_cases hd : bytesZ 18 0 0 (x4.toNat : Int) = bs.take 6
    · cases hz : (bs.drop 6).all (· == 0) with
      | false =>
        have hg : ¬ goodD bs = true := fun h => by
          have := (good_parts.1 h).2.2
          rw [e] at this
          exact absurd (hz.symm.trans this) (by decide)
        rw [he, if_neg hg, if_neg (by decide)] at hdec
        exact jd_18_tail b off n cp bs w hT hlen hwd h16 hcp hB z0 (x4.toNat : Int) (by omega) (by omega) z4 h13 _ hL h19 hd hz hdec
      | true =>
        have hg : goodD bs = true := good_parts.2 ⟨by rw [e, eb, ec, el]; exact hP, by rw [e, eb, ec, el]; exact hd, by rw [e]; exact hz⟩
        rw [he, if_pos hg, if_pos rfl, e, eb, ec, el] at hdec
        exact jd_18_ok b off n cp bs w hT hlen hwd h16 hcp hB z0 (x4.toNat : Int) (by omega) (by omega) z4 h13 _ hL h19 hd hz hdec
    · have hg : ¬ goodD bs = true := fun h => by
        have := (good_parts.1 h).2.1
        rw [e, eb, ec, el] at this
        exact hd this
      rw [he, if_neg hg, if_neg (by decide)] at hdec
      exact jd_18_ne b off n cp bs w hT hlen hwd h16 hcp hB z0 (x4.toNat : Int) (by omega) (by omega) z4 h13 _ hL h19 hd hdec
  · rw [e] at z0
    by_cases hw : n < 10 ∨ 16 < n
    · have he : errD bs = 5 := by
        unfold errD
        rw [if_neg hne, e, if_neg (by decide), if_pos (by rw [hlen]; exact hw)]
      unfold decV at hdec
      rw [he, if_neg (by decide)] at hdec
      exact jd_width_37 b off n cp w hT hn hn40 (by exact hw) hB.1 z0 hdec
    have hwd : 10 ≤ n := by omega
    have h16 : n ≤ 16 := by omega
    have h1 : widZ (opD bs) ≠ 0 := by rw [e]; decide
    have h2 : widZ (opD bs) ≤ bs.length := by rw [e, hlen]; exact hwd
    have he := err_good hne h1 h2 (by omega)
    have eb : blkD bs = 0 := by unfold blkD; rw [e]; rfl
    have ec : cntD bs = 0 := by unfold cntD; rw [e]; rfl
    have el : lenD bs = 0 := by unfold lenD; rw [e]; rfl
    have hP : properZ 37 0 0 0 = true := by decide
    have h13 : ∀ w, _ := fun w => lawproper_any 37 0 0 0 w (by decide) (by decide) (by decide) (by decide)
    rw [hP] at h13
    have h19 : ∀ w, _ := fun w => lawbytes 37 0 0 0 w (by decide) (by decide) (by decide) (by decide) hP
    have hL : (bytesZ 37 0 0 0).length = 10 := bytesZ_len hP
    unfold decV at hdec
    by_cases hd : bytesZ 37 0 0 0 = bs.take 10
    · cases hz : (bs.drop 10).all (· == 0) with
      | false =>
        have hg : ¬ goodD bs = true := fun h => by
          have := (good_parts.1 h).2.2
          rw [e] at this
          exact absurd (hz.symm.trans this) (by decide)
        rw [he, if_neg hg, if_neg (by decide)] at hdec
        exact jd_37_tail b off n cp bs w hT hlen hwd h16 hcp hB z0  h13 _ hL h19 hd hz hdec
      | true =>
        have hg : goodD bs = true := good_parts.2 ⟨by rw [e, eb, ec, el]; exact hP, by rw [e, eb, ec, el]; exact hd, by rw [e]; exact hz⟩
        rw [he, if_pos hg, if_pos rfl, e, eb, ec, el] at hdec
        exact jd_37_ok b off n cp bs w hT hlen hwd h16 hcp hB z0  h13 _ hL h19 hd hz hdec
    · have hg : ¬ goodD bs = true := fun h => by
        have := (good_parts.1 h).2.1
        rw [e, eb, ec, el] at this
        exact hd this
      rw [he, if_neg hg, if_neg (by decide)] at hdec
      exact jd_37_ne b off n cp bs w hT hlen hwd h16 hcp hB z0  h13 _ hL h19 hd hdec
  · rw [e] at z0
    by_cases hw : n < 10 ∨ 16 < n
    · have he : errD bs = 5 := by
        unfold errD
        rw [if_neg hne, e, if_neg (by decide), if_pos (by rw [hlen]; exact hw)]
      unfold decV at hdec
      rw [he, if_neg (by decide)] at hdec
      exact jd_width_40 b off n cp w hT hn hn40 (by exact hw) hB.1 z0 hdec
    have hwd : 10 ≤ n := by omega
    have h16 : n ≤ 16 := by omega
    have h1 : widZ (opD bs) ≠ 0 := by rw [e]; decide
    have h2 : widZ (opD bs) ≤ bs.length := by rw [e, hlen]; exact hwd
    have he := err_good hne h1 h2 (by omega)
    obtain ⟨x2, hx2⟩ : ∃ x, bs[2]? = some x := ⟨_, List.getElem?_eq_getElem (by omega)⟩
    obtain ⟨x3, hx3⟩ : ∃ x, bs[3]? = some x := ⟨_, List.getElem?_eq_getElem (by omega)⟩
    obtain ⟨x4, hx4⟩ : ∃ x, bs[4]? = some x := ⟨_, List.getElem?_eq_getElem (by omega)⟩
    obtain ⟨x5, hx5⟩ : ∃ x, bs[5]? = some x := ⟨_, List.getElem?_eq_getElem (by omega)⟩
    obtain ⟨x7, hx7⟩ : ∃ x, bs[7]? = some x := ⟨_, List.getElem?_eq_getElem (by omega)⟩
    obtain ⟨x8, hx8⟩ : ∃ x, bs[8]? = some x := ⟨_, List.getElem?_eq_getElem (by omega)⟩
    have b2 := byte_bd x2
    have b3 := byte_bd x3
    have b4 := byte_bd x4
    have b5 := byte_bd x5
    have b7 := byte_bd x7
    have b8 := byte_bd x8
    have eb : blkD bs = (x2.toNat : Int) * 16777216 + (x3.toNat : Int) * 65536 + (x4.toNat : Int) * 256 + (x5.toNat : Int) := by
      unfold blkD
      rw [e, if_pos (by decide), four_at hx2 hx3 hx4 hx5]
      simp [accN]
      omega
    have ec : cntD bs = (x7.toNat : Int) * 256 + (x8.toNat : Int) := by
      unfold cntD
      rw [e, if_pos (by decide), two_at hx7 hx8]
      simp [accN]
    have el : lenD bs = 0 := by unfold lenD; rw [e]; rfl
    obtain ⟨B4, hB4⟩ : ∃ B4, B4 = (x2.toNat : Int) * 16777216 + (x3.toNat : Int) * 65536 + (x4.toNat : Int) * 256 + (x5.toNat : Int) := ⟨_, rfl⟩
    obtain ⟨B2, hB2⟩ : ∃ B2, B2 = (x7.toNat : Int) * 256 + (x8.toNat : Int) := ⟨_, rfl⟩
    rw [← hB4] at eb
    rw [← hB2] at ec
    cases hP : properZ 40 B4 B2 0 with
    | false =>
      have h13 : ∀ w, _ := fun w => lawproper_any 40 B4 B2 0 w (by omega) (by omega) (by omega) (by omega)
      rw [hP] at h13
      unfold decV at hdec
      have hg : ¬ goodD bs = true := fun h => by
        have := (good_parts.1 h).1
        rw [e, eb, ec, el, hP] at this
        cases this
      rw [he, if_neg hg, if_neg (by decide)] at hdec
      exact jd_40_err b off n cp bs w hT hlen hwd h16 hcp hB z0 _ _ _ _ _ _ B4 B2 b2 b3 b4 b5 b7 b8 (hB.2 2 x2 hx2) (hB.2 3 x3 hx3) (hB.2 4 x4 hx4) (hB.2 5 x5 hx5) (hB.2 7 x7 hx7) (hB.2 8 x8 hx8) hB4 hB2 h13 hdec
    | true =>
    have h13 : ∀ w, _ := fun w => lawproper_any 40 B4 B2 0 w (by omega) (by omega) (by omega) (by omega)
    rw [hP] at h13
    have h19 : ∀ w, _ := fun w => lawbytes 40 B4 B2 0 w (by omega) (by omega) (by omega) (by omega) hP
    have hL : (bytesZ 40 B4 B2 0).length = 10 := bytesZ_len hP
    unfold decV at hdec
    by_cases hd : bytesZ 40 B4 B2 0 = bs.take 10
    · cases hz : (bs.drop 10).all (· == 0) with
      | false =>
        have hg : ¬ goodD bs = true := fun h => by
          have := (good_parts.1 h).2.2
          rw [e] at this
          exact absurd (hz.symm.trans this) (by decide)
        rw [he, if_neg hg, if_neg (by decide)] at hdec
        exact jd_40_tail b off n cp bs w hT hlen hwd h16 hcp hB z0 _ _ _ _ _ _ B4 B2 b2 b3 b4 b5 b7 b8 (hB.2 2 x2 hx2) (hB.2 3 x3 hx3) (hB.2 4 x4 hx4) (hB.2 5 x5 hx5) (hB.2 7 x7 hx7) (hB.2 8 x8 hx8) hB4 hB2 h13 _ hL h19 hd hz hdec
      | true =>
        have hg : goodD bs = true := good_parts.2 ⟨by rw [e, eb, ec, el]; exact hP, by rw [e, eb, ec, el]; exact hd, by rw [e]; exact hz⟩
        rw [he, if_pos hg, if_pos rfl, e, eb, ec, el] at hdec
        exact jd_40_ok b off n cp bs w hT hlen hwd h16 hcp hB z0 _ _ _ _ _ _ B4 B2 b2 b3 b4 b5 b7 b8 (hB.2 2 x2 hx2) (hB.2 3 x3 hx3) (hB.2 4 x4 hx4) (hB.2 5 x5 hx5) (hB.2 7 x7 hx7) (hB.2 8 x8 hx8) hB4 hB2 h13 _ hL h19 hd hz hdec
    · have hg : ¬ goodD bs = true := fun h => by
        have := (good_parts.1 h).2.1
        rw [e, eb, ec, el] at this
        exact hd this
      rw [he, if_neg hg, if_neg (by decide)] at hdec
      exact jd_40_ne b off n cp bs w hT hlen hwd h16 hcp hB z0 _ _ _ _ _ _ B4 B2 b2 b3 b4 b5 b7 b8 (hB.2 2 x2 hx2) (hB.2 3 x3 hx3) (hB.2 4 x4 hx4) (hB.2 5 x5 hx5) (hB.2 7 x7 hx7) (hB.2 8 x8 hx8) hB4 hB2 h13 _ hL h19 hd hdec
  · rw [e] at z0
    by_cases hw : n < 10 ∨ 16 < n
    · have he : errD bs = 5 := by
        unfold errD
        rw [if_neg hne, e, if_neg (by decide), if_pos (by rw [hlen]; exact hw)]
      unfold decV at hdec
      rw [he, if_neg (by decide)] at hdec
      exact jd_width_42 b off n cp w hT hn hn40 (by exact hw) hB.1 z0 hdec
    have hwd : 10 ≤ n := by omega
    have h16 : n ≤ 16 := by omega
    have h1 : widZ (opD bs) ≠ 0 := by rw [e]; decide
    have h2 : widZ (opD bs) ≤ bs.length := by rw [e, hlen]; exact hwd
    have he := err_good hne h1 h2 (by omega)
    obtain ⟨x2, hx2⟩ : ∃ x, bs[2]? = some x := ⟨_, List.getElem?_eq_getElem (by omega)⟩
    obtain ⟨x3, hx3⟩ : ∃ x, bs[3]? = some x := ⟨_, List.getElem?_eq_getElem (by omega)⟩
    obtain ⟨x4, hx4⟩ : ∃ x, bs[4]? = some x := ⟨_, List.getElem?_eq_getElem (by omega)⟩
    obtain ⟨x5, hx5⟩ : ∃ x, bs[5]? = some x := ⟨_, List.getElem?_eq_getElem (by omega)⟩
    obtain ⟨x7, hx7⟩ : ∃ x, bs[7]? = some x := ⟨_, List.getElem?_eq_getElem (by omega)⟩
    obtain ⟨x8, hx8⟩ : ∃ x, bs[8]? = some x := ⟨_, List.getElem?_eq_getElem (by omega)⟩
    have b2 := byte_bd x2
    have b3 := byte_bd x3
    have b4 := byte_bd x4
    have b5 := byte_bd x5
    have b7 := byte_bd x7
    have b8 := byte_bd x8
    have eb : blkD bs = (x2.toNat : Int) * 16777216 + (x3.toNat : Int) * 65536 + (x4.toNat : Int) * 256 + (x5.toNat : Int) := by
      unfold blkD
      rw [e, if_pos (by decide), four_at hx2 hx3 hx4 hx5]
      simp [accN]
      omega
    have ec : cntD bs = (x7.toNat : Int) * 256 + (x8.toNat : Int) := by
      unfold cntD
      rw [e, if_pos (by decide), two_at hx7 hx8]
      simp [accN]
    have el : lenD bs = 0 := by unfold lenD; rw [e]; rfl
    obtain ⟨B4, hB4⟩ : ∃ B4, B4 = (x2.toNat : Int) * 16777216 + (x3.toNat : Int) * 65536 + (x4.toNat : Int) * 256 + (x5.toNat : Int) := ⟨_, rfl⟩
    obtain ⟨B2, hB2⟩ : ∃ B2, B2 = (x7.toNat : Int) * 256 + (x8.toNat : Int) := ⟨_, rfl⟩
    rw [← hB4] at eb
    rw [← hB2] at ec
    cases hP : properZ 42 B4 B2 0 with
    | false =>
      have h13 : ∀ w, _ := fun w => lawproper_any 42 B4 B2 0 w (by omega) (by omega) (by omega) (by omega)
      rw [hP] at h13
      unfold decV at hdec
      have hg : ¬ goodD bs = true := fun h => by
        have := (good_parts.1 h).1
        rw [e, eb, ec, el, hP] at this
        cases this
      rw [he, if_neg hg, if_neg (by decide)] at hdec
      exact jd_42_err b off n cp bs w hT hlen hwd h16 hcp hB z0 _ _ _ _ _ _ B4 B2 b2 b3 b4 b5 b7 b8 (hB.2 2 x2 hx2) (hB.2 3 x3 hx3) (hB.2 4 x4 hx4) (hB.2 5 x5 hx5) (hB.2 7 x7 hx7) (hB.2 8 x8 hx8) hB4 hB2 h13 hdec
    | true =>
    have h13 : ∀ w, _ := fun w => lawproper_any 42 B4 B2 0 w (by omega) (by omega) (by omega) (by omega)
    rw [hP] at h13
    have h19 : ∀ w, _ := fun w => lawbytes 42 B4 B2 0 w (by omega) (by omega) (by omega) (by omega) hP
    have hL : (bytesZ 42 B4 B2 0).length = 10 := bytesZ_len hP
    unfold decV at hdec
    by_cases hd : bytesZ 42 B4 B2 0 = bs.take 10
    · cases hz : (bs.drop 10).all (· == 0) with
      | false =>
        have hg : ¬ goodD bs = true := fun h => by
          have := (good_parts.1 h).2.2
          rw [e] at this
          exact absurd (hz.symm.trans this) (by decide)
        rw [he, if_neg hg, if_neg (by decide)] at hdec
        exact jd_42_tail b off n cp bs w hT hlen hwd h16 hcp hB z0 _ _ _ _ _ _ B4 B2 b2 b3 b4 b5 b7 b8 (hB.2 2 x2 hx2) (hB.2 3 x3 hx3) (hB.2 4 x4 hx4) (hB.2 5 x5 hx5) (hB.2 7 x7 hx7) (hB.2 8 x8 hx8) hB4 hB2 h13 _ hL h19 hd hz hdec
      | true =>
        have hg : goodD bs = true := good_parts.2 ⟨by rw [e, eb, ec, el]; exact hP, by rw [e, eb, ec, el]; exact hd, by rw [e]; exact hz⟩
        rw [he, if_pos hg, if_pos rfl, e, eb, ec, el] at hdec
        exact jd_42_ok b off n cp bs w hT hlen hwd h16 hcp hB z0 _ _ _ _ _ _ B4 B2 b2 b3 b4 b5 b7 b8 (hB.2 2 x2 hx2) (hB.2 3 x3 hx3) (hB.2 4 x4 hx4) (hB.2 5 x5 hx5) (hB.2 7 x7 hx7) (hB.2 8 x8 hx8) hB4 hB2 h13 _ hL h19 hd hz hdec
    · have hg : ¬ goodD bs = true := fun h => by
        have := (good_parts.1 h).2.1
        rw [e, eb, ec, el] at this
        exact hd this
      rw [he, if_neg hg, if_neg (by decide)] at hdec
      exact jd_42_ne b off n cp bs w hT hlen hwd h16 hcp hB z0 _ _ _ _ _ _ B4 B2 b2 b3 b4 b5 b7 b8 (hB.2 2 x2 hx2) (hB.2 3 x3 hx3) (hB.2 4 x4 hx4) (hB.2 5 x5 hx5) (hB.2 7 x7 hx7) (hB.2 8 x8 hx8) hB4 hB2 h13 _ hL h19 hd hdec
  · rw [e] at z0
    by_cases hw : n < 10 ∨ 16 < n
    · have he : errD bs = 5 := by
        unfold errD
        rw [if_neg hne, e, if_neg (by decide), if_pos (by rw [hlen]; exact hw)]
      unfold decV at hdec
      rw [he, if_neg (by decide)] at hdec
      exact jd_width_53 b off n cp w hT hn hn40 (by exact hw) hB.1 z0 hdec
    have hwd : 10 ≤ n := by omega
    have h16 : n ≤ 16 := by omega
    have h1 : widZ (opD bs) ≠ 0 := by rw [e]; decide
    have h2 : widZ (opD bs) ≤ bs.length := by rw [e, hlen]; exact hwd
    have he := err_good hne h1 h2 (by omega)
    obtain ⟨x2, hx2⟩ : ∃ x, bs[2]? = some x := ⟨_, List.getElem?_eq_getElem (by omega)⟩
    obtain ⟨x3, hx3⟩ : ∃ x, bs[3]? = some x := ⟨_, List.getElem?_eq_getElem (by omega)⟩
    obtain ⟨x4, hx4⟩ : ∃ x, bs[4]? = some x := ⟨_, List.getElem?_eq_getElem (by omega)⟩
    obtain ⟨x5, hx5⟩ : ∃ x, bs[5]? = some x := ⟨_, List.getElem?_eq_getElem (by omega)⟩
    obtain ⟨x7, hx7⟩ : ∃ x, bs[7]? = some x := ⟨_, List.getElem?_eq_getElem (by omega)⟩
    obtain ⟨x8, hx8⟩ : ∃ x, bs[8]? = some x := ⟨_, List.getElem?_eq_getElem (by omega)⟩
    have b2 := byte_bd x2
    have b3 := byte_bd x3
    have b4 := byte_bd x4
    have b5 := byte_bd x5
    have b7 := byte_bd x7
    have b8 := byte_bd x8
    have eb : blkD bs = (x2.toNat : Int) * 16777216 + (x3.toNat : Int) * 65536 + (x4.toNat : Int) * 256 + (x5.toNat : Int) := by
      unfold blkD
      rw [e, if_pos (by decide), four_at hx2 hx3 hx4 hx5]
      simp [accN]
      omega
    have ec : cntD bs = (x7.toNat : Int) * 256 + (x8.toNat : Int) := by
      unfold cntD
      rw [e, if_pos (by decide), two_at hx7 hx8]
      simp [accN]
    have el : lenD bs = 0 := by unfold lenD; rw [e]; rfl
    obtain ⟨B4, hB4⟩ : ∃ B4, B4 = (x2.toNat : Int) * 16777216 + (x3.toNat : Int) * 65536 + (x4.toNat : Int) * 256 + (x5.toNat : Int) := ⟨_, rfl⟩
    obtain ⟨B2, hB2⟩ : ∃ B2, B2 = (x7.toNat : Int) * 256 + (x8.toNat : Int) := ⟨_, rfl⟩
    rw [← hB4] at eb
    rw [← hB2] at ec
    cases hP : properZ 53 B4 B2 0 with
    | false =>
      have h13 : ∀ w, _ := fun w => lawproper_any 53 B4 B2 0 w (by omega) (by omega) (by omega) (by omega)
      rw [hP] at h13
      unfold decV at hdec
      have hg : ¬ goodD bs = true := fun h => by
        have := (good_parts.1 h).1
        rw [e, eb, ec, el, hP] at this
        cases this
      rw [he, if_neg hg, if_neg (by decide)] at hdec
      exact jd_53_err b off n cp bs w hT hlen hwd h16 hcp hB z0 _ _ _ _ _ _ B4 B2 b2 b3 b4 b5 b7 b8 (hB.2 2 x2 hx2) (hB.2 3 x3 hx3) (hB.2 4 x4 hx4) (hB.2 5 x5 hx5) (hB.2 7 x7 hx7) (hB.2 8 x8 hx8) hB4 hB2 h13 hdec
    | true =>
    have h13 : ∀ w, _ := fun w => lawproper_any 53 B4 B2 0 w (by omega) (by omega) (by omega) (by omega)
    rw [hP] at h13
    have h19 : ∀ w, _ := fun w => lawbytes 53 B4 B2 0 w (by omega) (by omega) (by omega) (by omega) hP
    have hL : (bytesZ 53 B4 B2 0).length = 10 := bytesZ_len hP
    unfold decV at hdec
    by_cases hd : bytesZ 53 B4 B2 0 = bs.take 10
    · cases hz : (bs.drop 10).all (· == 0) with
      | false =>
        have hg : ¬ goodD bs = true := fun h => by
          have := (good_parts.1 h).2.2
          rw [e] at this
          exact absurd (hz.symm.trans this) (by decide)
        rw [he, if_neg hg, if_neg (by decide)] at hdec
        exact jd_53_tail b off n cp bs w hT hlen hwd h16 hcp hB z0 _ _ _ _ _ _ B4 B2 b2 b3 b4 b5 b7 b8 (hB.2 2 x2 hx2) (hB.2 3 x3 hx3) (hB.2 4 x4 hx4) (hB.2 5 x5 hx5) (hB.2 7 x7 hx7) (hB.2 8 x8 hx8) hB4 hB2 h13 _ hL h19 hd hz hdec
      | true =>
        have hg : goodD bs = true := good_parts.2 ⟨by rw [e, eb, ec, el]; exact hP, by rw [e, eb, ec, el]; exact hd, by rw [e]; exact hz⟩
        rw [he, if_pos hg, if_pos rfl, e, eb, ec, el] at hdec
        exact jd_53_ok b off n cp bs w hT hlen hwd h16 hcp hB z0 _ _ _ _ _ _ B4 B2 b2 b3 b4 b5 b7 b8 (hB.2 2 x2 hx2) (hB.2 3 x3 hx3) (hB.2 4 x4 hx4) (hB.2 5 x5 hx5) (hB.2 7 x7 hx7) (hB.2 8 x8 hx8) hB4 hB2 h13 _ hL h19 hd hz hdec
    · have hg : ¬ goodD bs = true := fun h => by
        have := (good_parts.1 h).2.1
        rw [e, eb, ec, el] at this
        exact hd this
      rw [he, if_neg hg, if_neg (by decide)] at hdec
      exact jd_53_ne b off n cp bs w hT hlen hwd h16 hcp hB z0 _ _ _ _ _ _ B4 B2 b2 b3 b4 b5 b7 b8 (hB.2 2 x2 hx2) (hB.2 3 x3 hx3) (hB.2 4 x4 hx4) (hB.2 5 x5 hx5) (hB.2 7 x7 hx7) (hB.2 8 x8 hx8) hB4 hB2 h13 _ hL h19 hd hdec
  · have h' := properZ_none _ h
    have he : errD bs = 4 := by
      unfold errD
      rw [if_neg hne, if_pos (by simp [widZ, h'])]
    unfold decV at hdec
    rw [he, if_neg (by decide)] at hdec
    exact jd_no (opD bs) b off n cp w hT hn hn40 hB.1 z0 h hdec
end Go.Proofs.YtfojemocffelhaaDoor
/- CommandsBack together. -/
namespace Go.Proofs.YtfojemocffelhaaDoor
open Go.RowKit

theorem back_law (a b c more bit : Int) (w : World) (hT : Tabs w) (ha0 : 0 ≤ a) (ha : a < 256) (hb0 : 0 ≤ b) (hb : b < 4294967296) (hc0 : 0 ≤ c) (hc : c < 65536) (hm0 : 0 ≤ more) (hm : more < 256) (hi0 : 0 ≤ bit) (hi : bit < 256) :
    Calls Tryd.prog 5 #[.agg #[.int .u8 a, .int .u32 b, .int .u16 c], .int .u8 more, .int .u8 bit] w fun e w' => e = .returned (.bool true) ∧ Kept w w' := by
  obtain ⟨op, b', c', l, hP, hb0', hb', hc0', hc', hOf⟩ := of_any a b c ha0 ha hc0 hc hb0 hb
  have hw := wid_pos hP
  have hl := bytesZ_len hP
  have h11 : Enc op b' c' l (widZ op) (bytesZ op b' c' l) := enc_of hb0' hb' hc0' hc' hP rfl
  have h12 : ∀ w, Tabs w → _ := fun w hT => proper_any op b' c' l w hT hb0' hb' hc0' hc'
  rw [hP] at h12
  have h19 : ∀ w, _ := fun w => lawbytes op b' c' l w hb0' hb' hc0' hc' hP
  have hM : more.tmod 20 = ((more % 20).toNat : Int) := by rw [Int.tmod_eq_emod_of_nonneg hm0]; omega
  have hPb : bit.tmod (8 * ((widZ op : Nat) : Int)) = ((bit % (8 * (widZ op : Int))).toNat : Int) := by
    have := Int.emod_nonneg bit (show (8 * (widZ op : Int)) ≠ 0 by omega)
    rw [Int.tmod_eq_emod_of_nonneg hi0]
    omega
  have hP8 : (bit % (8 * (widZ op : Int))).toNat < 8 * widZ op := by
    have := Int.emod_lt_of_pos bit (show 0 < 8 * (widZ op : Int) by omega)
    omega
  have hdO : ∀ (O : List UInt8) w g cp, Tabs w → Bs w g 0 O → O.length = widZ op → widZ op ≤ cp → Calls Tryd.prog 20 #[.slice (some ⟨g, 0, none⟩) (widZ op) cp] w fun e w' => e = .returned (.tuple #[decV O, .int .i64 (errD O)]) ∧ Kept w w' := fun O w g cp hT hB hO hc => decode_any _ _ cp O w hT (hB.sl hO) hc
  have hother : ∀ O : List UInt8, O.length = widZ op → O ≠ bytesZ op b' c' l → errD O = 0 → ∃ (op2 b2 c2 l2 : Int) (K2 : Nat), decV O = .agg #[.int .u8 op2, .int .u32 b2, .int .u16 c2, .int .i64 l2] ∧ ¬ (op2 = op ∧ b2 = b' ∧ c2 = c' ∧ l2 = l) ∧ Enc op2 b2 c2 l2 K2 (O.take K2) ∧ K2 ≤ widZ op ∧ (O.take K2).length = K2 := fun O hO hne he => by
    obtain ⟨h1, h2, h3, h4⟩ := err_other hP hb0' hb' hc0' hc' O (by rw [hO, hl]) hne he
    refine ⟨_, _, _, _, widZ (opD O), dec_some he, h4, ?_, by omega, by rw [List.length_take]; omega⟩
    rw [← h2]
    exact enc_of (blk_bd O).1 (blk_bd O).2 (cnt_bd O).1 (cnt_bd O).2 h1 rfl
  have hz : ∀ (i : Nat) (hi : i < widZ op), decV ((bytesZ op b' c' l).take i) = .agg #[.int .u8 0, .int .u32 0, .int .u16 0, .int .i64 0] := fun i hi => dec_zero (by rw [err_take hP hb0' hb' hc0' hc' i (by omega)]; split <;> decide)
  have hdP0 : ∀ w g, Tabs w → Calls Tryd.prog 20 #[.slice (some ⟨g, 0, none⟩) 0 (widZ op)] w fun e w' => e = .returned (.tuple #[.agg #[.int .u8 0, .int .u32 0, .int .u16 0, .int .i64 0], .int .i64 4]) ∧ Kept w w' := fun w g hT =>
    decode_any (some ⟨g, 0, none⟩) 0 (widZ op) [] w hT (Sl.nil _ _ _ _) (Nat.zero_le _)
  have hdP1 : ∀ w g i, Tabs w → 0 < i → i < widZ op → Bs w g 0 (bytesZ op b' c' l) → Calls Tryd.prog 20 #[.slice (some ⟨g, 0, none⟩) i (widZ op)] w fun e w' => e = .returned (.tuple #[.agg #[.int .u8 0, .int .u32 0, .int .u16 0, .int .i64 0], .int .i64 5]) ∧ Kept w w' := fun w g i hT h0 hi hB => by
    have h := decode_any (some ⟨g, 0, none⟩) i (widZ op) ((bytesZ op b' c' l).take i) w hT ((hB.take i).sl (by rw [List.length_take]; omega)) (by omega)
    rw [hz i hi, err_take hP hb0' hb' hc0' hc' i (by omega), if_neg (by omega)] at h
    exact h
  by_cases h16 : 16 < widZ op + (more % 20).toNat
  · have hdL : ∀ w A n cp, Tabs w → Sl byT w (low w.heap.size) A n (bytesZ op b' c' l ++ List.replicate (more % 20).toNat 0) → n ≤ cp → Calls Tryd.prog 20 #[.slice A n cp] w fun e w' => e = .returned (.tuple #[.agg #[.int .u8 0, .int .u32 0, .int .u16 0, .int .i64 0], .int .i64 5]) ∧ Kept w w' := fun w A n cp hT hs hc => by
      have h := decode_any A n cp _ w hT hs hc
      have he := err_long hP hb0' hb' hc0' hc' (more % 20).toNat
      rw [if_pos (by omega)] at he
      rw [dec_zero (by rw [he]; decide), he] at h
      exact h
    exact bk_5 op b' c' l a b c more bit (widZ op) _ _ (bytesZ op b' c' l) w hT hl hw.1 hw.2 hM (by omega) hm0 hm hi0 hi hPb hP8 hOf h11 h12 h19 hdL hdO hother hdP0 hdP1 h16
  · have hdL : ∀ w A n cp, Tabs w → Sl byT w (low w.heap.size) A n (bytesZ op b' c' l ++ List.replicate (more % 20).toNat 0) → n ≤ cp → Calls Tryd.prog 20 #[.slice A n cp] w fun e w' => e = .returned (.tuple #[.agg #[.int .u8 op, .int .u32 b', .int .u16 c', .int .i64 l], .int .i64 0]) ∧ Kept w w' := fun w A n cp hT hs hc => by
      have h := decode_any A n cp _ w hT hs hc
      have he := err_long hP hb0' hb' hc0' hc' (more % 20).toNat
      rw [if_neg (by omega)] at he
      rw [dec_long hP hb0' hb' hc0' hc' _ (by omega), he] at h
      exact h
    exact bk_0 op b' c' l a b c more bit (widZ op) _ _ (bytesZ op b' c' l) w hT hl hw.1 hw.2 hM (by omega) hm0 hm hi0 hi hPb hP8 hOf h11 h12 h19 hdL hdO hother hdP0 hdP1 (by omega)
end Go.Proofs.YtfojemocffelhaaDoor
/- CommandsKnown: the walk. -/
namespace Go.Proofs.YtfojemocffelhaaDoor
open Go.RowKit Go.Shelf
attribute [local go_sem ↓] Go.wp_at_zero Go.wp_at_succ

theorem u16w (z : Int) : 0 ≤ IntKind.u16.wrap z ∧ IntKind.u16.wrap z < 65536 := by
  simp only [IntKind.wrap, IntKind.bits, IntKind.signed]
  simp
  omega
theorem u8w (z : Int) : 0 ≤ IntKind.u8.wrap z ∧ IntKind.u8.wrap z < 256 := by rw [IntKind.wrap_u8]; omega
set_option maxRecDepth 100000 in
set_option maxHeartbeats 8000000 in
theorem known_law (w : World) (hT : Tabs w) : Calls Tryd.prog 8 #[] w fun e w' => e = .returned (.bool true) ∧ Kept w w' := by
  go_enter Tryd.func8, Tryd.ntmps8
  go_wp2_with fail
  go_loopg [1, 2] 60 (fun g s1 s2 wr => ∃ (k : Nat) (z : Int), k + g = 60 ∧ s2 = .int .i64 (k : Int) ∧ s1 = .int .i64 z ∧ 0 ≤ z ∧ z < 100003 ∧ Kept w wr)
  case atStart => exact ⟨0, 1, by omega, by rfl, by rfl, by omega, by omega, Below.refl _ _⟩
  case round =>
    obtain ⟨k, z, hk, rfl, rfl, hz0, hz1, hkw⟩ := hrel
    by_cases hlt : k < 60
    · have hlt' : (k : Int) < 60 := by omega
      have hm3 := u16w z
      obtain ⟨m3, hm3e⟩ : ∃ m, IntKind.u16.wrap z = m := ⟨_, rfl⟩
      obtain ⟨m1, hm1e⟩ : ∃ m, IntKind.u8.wrap z = m := ⟨_, rfl⟩
      obtain ⟨m2, hm2e⟩ : ∃ m, IntKind.u8.wrap (z / 3) = m := ⟨_, rfl⟩
      have hm1 := u8w z
      have hm2 := u8w (z / 3)
      rw [hm3e] at hm3
      rw [hm1e] at hm1
      rw [hm2e] at hm2
      have hm4 : IntKind.u8.wrap ((k : Int) % 18) = (k : Int) % 18 := IntWalk.u8_in _ (by omega)
      have hm5 : 0 ≤ (k : Int) % 13 := by omega
      have hm6 : (k : Int) % 13 < 13 := by omega
      have hm7 : IntKind.u8.wrap (k : Int) = (k : Int) := IntWalk.u8_in _ (by omega)
      have hm8 : (k : Int).tmod 13 = (k : Int) % 13 := Int.tmod_eq_emod_of_nonneg (by omega)
      have hm9 : (k : Int).tmod 18 = (k : Int) % 18 := Int.tmod_eq_emod_of_nonneg (by omega)
      have hm10 : z.tdiv 3 = z / 3 := Int.tdiv_eq_ediv_of_nonneg hz0
      have hm11 : IntKind.i64.wrap ((k : Int) % 13) = (k : Int) % 13 := IntWalk.i64_in _ (by omega)
      have hm12 : IntKind.i64.wrap ((k : Int) % 18) = (k : Int) % 18 := IntWalk.i64_in _ (by omega)
      have hm13 : IntKind.i64.wrap (z / 3) = z / 3 := IntWalk.i64_in _ (by omega)
      obtain ⟨op, b', c', l, hP, hb0', hb', hc0', hc', hOf⟩ := of_any (k : Int) (z * 4099) m3 (by omega) (by omega) hm3.1 hm3.2 (by omega) (by omega)
      have h5 : ∀ w, Tabs w → Calls Tryd.prog 5 #[.agg #[.int .u8 (k : Int), .int .u32 (z * 4099), .int .u16 m3], .int .u8 (k : Int), .int .u8 m1] w fun e w' => e = .returned (.bool true) ∧ Kept w w' :=
        fun w hT => back_law (k : Int) (z * 4099) m3 (k : Int) m1 w hT (by omega) (by omega) (by omega) (by omega) hm3.1 hm3.2 (by omega) (by omega) hm1.1 hm1.2
      have h3 : ∀ size w, Tabs w → Calls Tryd.prog 3 #[.agg #[.int .u8 op, .int .u32 b', .int .u16 c', .int .i64 l], .int .i64 size] w fun e w' => e = .returned (.bool true) ∧ Kept w w' := fun size w hT => moves_law op b' c' l size w hT hb0' hb' hc0' hc'
      obtain ⟨E, hE⟩ : ∃ E, bytesZ op b' c' l = E := ⟨_, rfl⟩
      have h19 : ∀ w, _ := fun w => lawbytes op b' c' l w hb0' hb' hc0' hc' hP
      have hEl := bytesZ_len hP
      rw [hE] at h19 hEl
      have h6 : ∀ g w, Tabs w → w.heap[g]? = some (.cells (u8C E).toArray 5 (0, 0)) → Calls Tryd.prog 6 #[.slice (some ⟨g, 0, none⟩) (widZ op) (widZ op)] w fun e w' => e = .returned (.bool true) ∧ Kept w w' :=
        fun g w hT h => decode_law _ _ _ E w hT ((Bs.of_heap h).sl hEl) (Nat.le_refl _)
      have h4 : ∀ g w, Tabs w → w.heap[g]? = some (.cells (u8C E).toArray 5 (0, 0)) → Calls Tryd.prog 4 #[.agg #[.int .u8 ((k : Int) % 18), .int .u8 m1, .int .u8 m2], .slice (some ⟨g, 0, none⟩) (widZ op) (widZ op)] w fun e w' => e = .returned (.bool true) ∧ Kept w w' :=
        fun g w hT h => sense_law _ m1 m2 _ _ _ E w hT (by omega) hm1.1 hm1.2 hm2.1 hm2.2 ((Bs.of_heap h).sl hEl)
      replace hEl := Lib.hid hEl
      replace h5 := Lib.hid h5
      replace h3 := Lib.hid h3
      replace h19 := Lib.hid h19
      replace h6 := Lib.hid h6
      replace h4 := Lib.hid h4
      replace hOf := Lib.hid hOf
      replace hE := Lib.hid hE
      replace hP := Lib.hid hP
      go_upto_region 6 with fail
      refine wp_at (fun WE => WE.heap[wr.heap.size]? = some (.cells #[.int .u8 (k : Int), .int .u32 (z * 4099), .int .u16 m3] 47 (0, 0)) ∧ Kept w WE) ⟨heap_at _ rfl, hkw.trans ((Below.refl _ _).alloc hkw.size _)⟩ (fun WE hWE => ?_)
      obtain ⟨hbE, hkE⟩ := hWE
      obtain ⟨B, hB⟩ : ∃ B, wr.heap.size = B := ⟨_, rfl⟩
      rw [hB] at hbE ⊢
      clear hB hkw
      have c0 := cell_heap (o := 0) hbE rfl
      have c1 := cell_heap (o := 1) hbE rfl
      have c2 := cell_heap (o := 2) hbE rfl
      have lB := heap_lt hbE
      clear hbE
      refine wp_region_held_drew (S := fun w' => (∀ b o, b < WE.heap.size → w'.cell? ⟨b, o, none⟩ = WE.cell? ⟨b, o, none⟩) ∧ Below WE.heap.size WE w') (by kernel_rfl) since_start (fun hS => ?_)
      refine wpAnyH_take (i := 0) (v := ?_) rfl (by kernel_rfl) (by kernel_rfl) (by kernel_rfl) (fun _ _ _ h => h) (Or.inl ⟨by kernel_rfl, ?_⟩) hS ?_
      rotate_left
      · intro w' hS'
        have hq := hS'.1
        have hq2 := hS'.2
        clear hS'
        first | (go_simp; done) | (go_simp; with_reducible rfl)
      try simp only [Act.put, List.getElem_toArray, List.getElem_cons_zero, List.getElem_cons_succ, List.setIfInBounds_toArray, List.set_cons_zero, List.set_cons_succ]
      refine wpAnyH_take (i := 1) (v := ?_) rfl (by kernel_rfl) (by kernel_rfl) (by kernel_rfl) (fun _ _ _ h => h) (Or.inl ⟨by kernel_rfl, ?_⟩) hS ?_
      rotate_left
      · intro w' hS'
        have hq := hS'.1
        have hq2 := hS'.2
        clear hS'
        first | (go_simp; done) | (go_simp; with_reducible rfl)
      try simp only [Act.put, List.getElem_toArray, List.getElem_cons_zero, List.getElem_cons_succ, List.setIfInBounds_toArray, List.set_cons_zero, List.set_cons_succ]
      refine wpAnyH_take (i := 2) (v := ?_) rfl (by kernel_rfl) (by kernel_rfl) (by kernel_rfl) (fun _ _ _ h => h) (Or.inl ⟨by kernel_rfl, ?_⟩) hS ?_
      rotate_left
      · intro w' hS'
        have hq := hS'.1
        have hq2 := hS'.2
        clear hS'
        first | (go_simp; done) | (go_simp; with_reducible rfl)
      try simp only [Act.put, List.getElem_toArray, List.getElem_cons_zero, List.getElem_cons_succ, List.setIfInBounds_toArray, List.set_cons_zero, List.set_cons_succ]
      refine wpAnyH_take (i := 3) (v := ?_) rfl (by kernel_rfl) (by kernel_rfl) (by kernel_rfl) (fun _ _ _ h => h) (Or.inl ⟨by kernel_rfl, ?_⟩) hS ?_
      rotate_left
      · intro w' hS'
        have hq := hS'.1
        have hq2 := hS'.2
        clear hS'
        first | (go_simp; done) | (go_simp; with_reducible rfl)
      try simp only [Act.put, List.getElem_toArray, List.getElem_cons_zero, List.getElem_cons_succ, List.setIfInBounds_toArray, List.set_cons_zero, List.set_cons_succ]
      refine wpAnyH_take (i := 4) (v := ?_) rfl (by kernel_rfl) (by kernel_rfl) (by kernel_rfl) (fun _ _ _ h => h) (Or.inl ⟨by kernel_rfl, ?_⟩) hS ?_
      rotate_left
      · intro w' hS'
        have hq := hS'.1
        have hq2 := hS'.2
        clear hS'
        first | (go_simp; done) | (go_simp; with_reducible rfl)
      try simp only [Act.put, List.getElem_toArray, List.getElem_cons_zero, List.getElem_cons_succ, List.setIfInBounds_toArray, List.set_cons_zero, List.set_cons_succ]
      refine wpAnyH_ready (rs := [5]) (by kernel_rfl) (by simp) ?_
      refine AllReadyH.cons rfl (fun K hK => ?_) AllReadyH.nil
      go_simp
      go_at_call 5
      refine (h5.out _ (hT.kept (hkE.trans (hS.2.mono hkE.size)))).mono ?_
      rintro e w1 ⟨rfl, hk⟩
      try dsimp only
      have hkn := hS.2.trans (hk.mono hS.2.size)
      refine hK.out _ _ ?_ (fun hS => ?_)
      · exact ⟨(bcell hkn).1, hkn⟩
      clear hK K hk hkn
      try simp only [Act.put, List.getElem_toArray, List.getElem_cons_zero, List.getElem_cons_succ, List.setIfInBounds_toArray, List.set_cons_zero, List.set_cons_succ]
      refine wpAnyH_take (i := 6) (v := ?_) rfl (by kernel_rfl) (by kernel_rfl) (by kernel_rfl) (fun _ _ _ h => h) (Or.inl ⟨by kernel_rfl, ?_⟩) hS ?_
      rotate_left
      · intro w' hS'
        have hq := hS'.1
        have hq2 := hS'.2
        clear hS'
        first | (go_simp; done) | (go_simp; with_reducible rfl)
      try simp only [Act.put, List.getElem_toArray, List.getElem_cons_zero, List.getElem_cons_succ, List.setIfInBounds_toArray, List.set_cons_zero, List.set_cons_succ]
      refine wpAnyH_take (i := 7) (v := ?_) rfl (by kernel_rfl) (by kernel_rfl) (by kernel_rfl) (fun _ _ _ h => h) (Or.inl ⟨by kernel_rfl, ?_⟩) hS ?_
      rotate_left
      · intro w' hS'
        have hq := hS'.1
        have hq2 := hS'.2
        clear hS'
        first | (go_simp; done) | (go_simp; with_reducible rfl)
      try simp only [Act.put, List.getElem_toArray, List.getElem_cons_zero, List.getElem_cons_succ, List.setIfInBounds_toArray, List.set_cons_zero, List.set_cons_succ]
      refine wpAnyH_take (i := 8) (v := ?_) rfl (by kernel_rfl) (by kernel_rfl) (by kernel_rfl) (fun _ _ _ h => h) (Or.inl ⟨by kernel_rfl, ?_⟩) hS ?_
      rotate_left
      · intro w' hS'
        have hq := hS'.1
        have hq2 := hS'.2
        clear hS'
        first | (go_simp; done) | (go_simp; with_reducible rfl)
      try simp only [Act.put, List.getElem_toArray, List.getElem_cons_zero, List.getElem_cons_succ, List.setIfInBounds_toArray, List.set_cons_zero, List.set_cons_succ]
      refine wpAnyH_take (i := 10) (v := ?_) rfl (by kernel_rfl) (by kernel_rfl) (by kernel_rfl) (fun _ _ _ h => h) (Or.inl ⟨by kernel_rfl, ?_⟩) hS ?_
      rotate_left
      · intro w' hS'
        have hq := hS'.1
        have hq2 := hS'.2
        clear hS'
        first | (go_simp; done) | (go_simp; with_reducible rfl)
      try simp only [Act.put, List.getElem_toArray, List.getElem_cons_zero, List.getElem_cons_succ, List.setIfInBounds_toArray, List.set_cons_zero, List.set_cons_succ]
      refine wpAnyH_take (i := 11) (v := ?_) rfl (by kernel_rfl) (by kernel_rfl) (by kernel_rfl) (fun _ _ _ h => h) (Or.inl ⟨by kernel_rfl, ?_⟩) hS ?_
      rotate_left
      · intro w' hS'
        have hq := hS'.1
        have hq2 := hS'.2
        clear hS'
        first | (go_simp; done) | (go_simp; with_reducible rfl)
      try simp only [Act.put, List.getElem_toArray, List.getElem_cons_zero, List.getElem_cons_succ, List.setIfInBounds_toArray, List.set_cons_zero, List.set_cons_succ]
      refine wpAnyH_take (i := 12) (v := ?_) rfl (by kernel_rfl) (by kernel_rfl) (by kernel_rfl) (fun _ _ _ h => h) (Or.inl ⟨by kernel_rfl, ?_⟩) hS ?_
      rotate_left
      · intro w' hS'
        have hq := hS'.1
        have hq2 := hS'.2
        clear hS'
        first | (go_simp; done) | (go_simp; with_reducible rfl)
      try simp only [Act.put, List.getElem_toArray, List.getElem_cons_zero, List.getElem_cons_succ, List.setIfInBounds_toArray, List.set_cons_zero, List.set_cons_succ]
      refine wpAnyH_ready (rs := [9]) (by kernel_rfl) (by simp) ?_
      refine AllReadyH.cons rfl (fun K hK => ?_) AllReadyH.nil
      go_simp
      go_at_call 18
      refine (hOf.out _).mono ?_
      rintro e w2 ⟨rfl, hk⟩
      try dsimp only
      have hkn := hS.2.trans (hk.mono hS.2.size)
      refine hK.out _ _ ?_ (fun hS => ?_)
      · exact ⟨(bcell hkn).1, hkn⟩
      clear hK K hk hkn
      try simp only [Act.put, List.getElem_toArray, List.getElem_cons_zero, List.getElem_cons_succ, List.setIfInBounds_toArray, List.set_cons_zero, List.set_cons_succ]
      refine wpAnyH_ready (rs := [13]) (by kernel_rfl) (by simp) ?_
      refine AllReadyH.cons rfl (fun K hK => ?_) AllReadyH.nil
      go_simp
      go_at_call 3
      refine (h3.out _ _ (hT.kept (hkE.trans (hS.2.mono hkE.size)))).mono ?_
      rintro e w3 ⟨rfl, hk⟩
      try dsimp only
      have hkn := hS.2.trans (hk.mono hS.2.size)
      refine hK.out _ _ ?_ (fun hS => ?_)
      · exact ⟨(bcell hkn).1, hkn⟩
      clear hK K hk hkn
      try simp only [Act.put, List.getElem_toArray, List.getElem_cons_zero, List.getElem_cons_succ, List.setIfInBounds_toArray, List.set_cons_zero, List.set_cons_succ]
      refine wpAnyH_take (i := 14) (v := ?_) rfl (by kernel_rfl) (by kernel_rfl) (by kernel_rfl) (fun _ _ _ h => h) (Or.inl ⟨by kernel_rfl, ?_⟩) hS ?_
      rotate_left
      · intro w' hS'
        have hq := hS'.1
        have hq2 := hS'.2
        clear hS'
        first | (go_simp; done) | (go_simp; with_reducible rfl)
      try simp only [Act.put, List.getElem_toArray, List.getElem_cons_zero, List.getElem_cons_succ, List.setIfInBounds_toArray, List.set_cons_zero, List.set_cons_succ]
      refine wpAnyH_take (i := 15) (v := ?_) rfl (by kernel_rfl) (by kernel_rfl) (by kernel_rfl) (fun _ _ _ h => h) (Or.inl ⟨by kernel_rfl, ?_⟩) hS ?_
      rotate_left
      · intro w' hS'
        have hq := hS'.1
        have hq2 := hS'.2
        clear hS'
        first | (go_simp; done) | (go_simp; with_reducible rfl)
      try simp only [Act.put, List.getElem_toArray, List.getElem_cons_zero, List.getElem_cons_succ, List.setIfInBounds_toArray, List.set_cons_zero, List.set_cons_succ]
      refine wpAnyH_take (i := 16) (v := ?_) rfl (by kernel_rfl) (by kernel_rfl) (by kernel_rfl) (fun _ _ _ h => h) (Or.inl ⟨by kernel_rfl, ?_⟩) hS ?_
      rotate_left
      · intro w' hS'
        have hq := hS'.1
        have hq2 := hS'.2
        clear hS'
        first | (go_simp; done) | (go_simp; with_reducible rfl)
      try simp only [Act.put, List.getElem_toArray, List.getElem_cons_zero, List.getElem_cons_succ, List.setIfInBounds_toArray, List.set_cons_zero, List.set_cons_succ]
      refine wpAnyH_take (i := 17) (v := ?_) rfl (by kernel_rfl) (by kernel_rfl) (by kernel_rfl) (fun _ _ _ h => h) (Or.inl ⟨by kernel_rfl, ?_⟩) hS ?_
      rotate_left
      · intro w' hS'
        have hq := hS'.1
        have hq2 := hS'.2
        clear hS'
        first | (go_simp; done) | (go_simp; with_reducible rfl)
      try simp only [Act.put, List.getElem_toArray, List.getElem_cons_zero, List.getElem_cons_succ, List.setIfInBounds_toArray, List.set_cons_zero, List.set_cons_succ]
      refine wpAnyH_ready (rs := [18]) (by kernel_rfl) (by simp) ?_
      refine AllReadyH.cons rfl (fun K hK => ?_) AllReadyH.nil
      go_simp
      go_at_call 18
      refine (hOf.out _).mono ?_
      rintro e w4 ⟨rfl, hk⟩
      try dsimp only
      have hkn := hS.2.trans (hk.mono hS.2.size)
      refine hK.out _ _ ?_ (fun hS => ?_)
      · exact ⟨(bcell hkn).1, hkn⟩
      clear hK K hk hkn
      try simp only [Act.put, List.getElem_toArray, List.getElem_cons_zero, List.getElem_cons_succ, List.setIfInBounds_toArray, List.set_cons_zero, List.set_cons_succ]
      refine wpAnyH_ready (rs := [19]) (by kernel_rfl) (by simp) ?_
      refine AllReadyH.cons rfl (fun K hK => ?_) AllReadyH.nil
      go_simp
      go_at_call 19
      refine (h19.out _).mono ?_
      rintro e w5 ⟨g5, rfl, hgn, hr5, hk⟩
      try dsimp only
      have hkn := hS.2.trans (hk.mono hS.2.size)
      refine hK.out _ _ ?_ (fun hS => ?_)
      · exact ⟨(bcell hkn).1, hkn⟩
      clear hK K hk hkn hgn
      try simp only [Act.put, List.getElem_toArray, List.getElem_cons_zero, List.getElem_cons_succ, List.setIfInBounds_toArray, List.set_cons_zero, List.set_cons_succ]
      refine wpAnyH_ready (rs := [20]) (by kernel_rfl) (by simp) ?_
      refine AllReadyH.cons rfl (fun K hK => ?_) AllReadyH.nil
      go_simp
      go_at_call 6
      refine (h6.out g5 _ (hT.kept (hkE.trans (hS.2.mono hkE.size))) hr5).mono ?_
      rintro e w6 ⟨rfl, hk⟩
      try dsimp only
      have hkn := hS.2.trans (hk.mono hS.2.size)
      refine hK.out _ _ ?_ (fun hS => ?_)
      · exact ⟨(bcell hkn).1, hkn⟩
      clear hK K hk hkn
      try simp only [Act.put, List.getElem_toArray, List.getElem_cons_zero, List.getElem_cons_succ, List.setIfInBounds_toArray, List.set_cons_zero, List.set_cons_succ]
      refine wpAnyH_take (i := 21) (v := ?_) rfl (by kernel_rfl) (by kernel_rfl) (by kernel_rfl) (fun _ _ _ h => h) (Or.inl ⟨by kernel_rfl, ?_⟩) hS ?_
      rotate_left
      · intro w' hS'
        have hq := hS'.1
        have hq2 := hS'.2
        clear hS'
        first | (go_simp; done) | (go_simp; with_reducible rfl)
      try simp only [Act.put, List.getElem_toArray, List.getElem_cons_zero, List.getElem_cons_succ, List.setIfInBounds_toArray, List.set_cons_zero, List.set_cons_succ]
      refine wpAnyH_take (i := 22) (v := ?_) rfl (by kernel_rfl) (by kernel_rfl) (by kernel_rfl) (fun _ _ _ h => h) (Or.inl ⟨by kernel_rfl, ?_⟩) hS ?_
      rotate_left
      · intro w' hS'
        have hq := hS'.1
        have hq2 := hS'.2
        clear hS'
        first | (go_simp; done) | (go_simp; with_reducible rfl)
      try simp only [Act.put, List.getElem_toArray, List.getElem_cons_zero, List.getElem_cons_succ, List.setIfInBounds_toArray, List.set_cons_zero, List.set_cons_succ]
      refine wpAnyH_take (i := 23) (v := ?_) rfl (by kernel_rfl) (by kernel_rfl) (by kernel_rfl) (fun _ _ _ h => h) (Or.inl ⟨by kernel_rfl, ?_⟩) hS ?_
      rotate_left
      · intro w' hS'
        have hq := hS'.1
        have hq2 := hS'.2
        clear hS'
        first | (go_simp; done) | (go_simp; with_reducible rfl)
      try simp only [Act.put, List.getElem_toArray, List.getElem_cons_zero, List.getElem_cons_succ, List.setIfInBounds_toArray, List.set_cons_zero, List.set_cons_succ]
      refine wpAnyH_take (i := 24) (v := ?_) rfl (by kernel_rfl) (by kernel_rfl) (by kernel_rfl) (fun _ _ _ h => h) (Or.inl ⟨by kernel_rfl, ?_⟩) hS ?_
      rotate_left
      · intro w' hS'
        have hq := hS'.1
        have hq2 := hS'.2
        clear hS'
        first | (go_simp; done) | (go_simp; with_reducible rfl)
      try simp only [Act.put, List.getElem_toArray, List.getElem_cons_zero, List.getElem_cons_succ, List.setIfInBounds_toArray, List.set_cons_zero, List.set_cons_succ]
      refine wpAnyH_take (i := 25) (v := ?_) rfl (by kernel_rfl) (by kernel_rfl) (by kernel_rfl) (fun _ _ _ h => h) (Or.inl ⟨by kernel_rfl, ?_⟩) hS ?_
      rotate_left
      · intro w' hS'
        have hq := hS'.1
        have hq2 := hS'.2
        clear hS'
        first | (go_simp; done) | (go_simp; with_reducible rfl)
      try simp only [Act.put, List.getElem_toArray, List.getElem_cons_zero, List.getElem_cons_succ, List.setIfInBounds_toArray, List.set_cons_zero, List.set_cons_succ]
      refine wpAnyH_take (i := 26) (v := ?_) rfl (by kernel_rfl) (by kernel_rfl) (by kernel_rfl) (fun _ _ _ h => h) (Or.inl ⟨by kernel_rfl, ?_⟩) hS ?_
      rotate_left
      · intro w' hS'
        have hq := hS'.1
        have hq2 := hS'.2
        clear hS'
        first | (go_simp; done) | (go_simp; with_reducible rfl)
      try simp only [Act.put, List.getElem_toArray, List.getElem_cons_zero, List.getElem_cons_succ, List.setIfInBounds_toArray, List.set_cons_zero, List.set_cons_succ]
      refine wpAnyH_take (i := 27) (v := ?_) rfl (by kernel_rfl) (by kernel_rfl) (by kernel_rfl) (fun _ _ _ h => h) (Or.inl ⟨by kernel_rfl, ?_⟩) hS ?_
      rotate_left
      · intro w' hS'
        have hq := hS'.1
        have hq2 := hS'.2
        clear hS'
        first | (go_simp; done) | (go_simp; with_reducible rfl)
      try simp only [Act.put, List.getElem_toArray, List.getElem_cons_zero, List.getElem_cons_succ, List.setIfInBounds_toArray, List.set_cons_zero, List.set_cons_succ]
      refine wpAnyH_take (i := 28) (v := ?_) rfl (by kernel_rfl) (by kernel_rfl) (by kernel_rfl) (fun _ _ _ h => h) (Or.inl ⟨by kernel_rfl, ?_⟩) hS ?_
      rotate_left
      · intro w' hS'
        have hq := hS'.1
        have hq2 := hS'.2
        clear hS'
        first | (go_simp; done) | (go_simp; with_reducible rfl)
      try simp only [Act.put, List.getElem_toArray, List.getElem_cons_zero, List.getElem_cons_succ, List.setIfInBounds_toArray, List.set_cons_zero, List.set_cons_succ]
      refine wpAnyH_take (i := 29) (v := ?_) rfl (by kernel_rfl) (by kernel_rfl) (by kernel_rfl) (fun _ _ _ h => h) (Or.inl ⟨by kernel_rfl, ?_⟩) hS ?_
      rotate_left
      · intro w' hS'
        have hq := hS'.1
        have hq2 := hS'.2
        clear hS'
        first | (go_simp; done) | (go_simp; with_reducible rfl)
      try simp only [Act.put, List.getElem_toArray, List.getElem_cons_zero, List.getElem_cons_succ, List.setIfInBounds_toArray, List.set_cons_zero, List.set_cons_succ]
      refine wpAnyH_take (i := 30) (v := ?_) rfl (by kernel_rfl) (by kernel_rfl) (by kernel_rfl) (fun _ _ _ h => h) (Or.inl ⟨by kernel_rfl, ?_⟩) hS ?_
      rotate_left
      · intro w' hS'
        have hq := hS'.1
        have hq2 := hS'.2
        clear hS'
        first | (go_simp; done) | (go_simp; with_reducible rfl)
      try simp only [Act.put, List.getElem_toArray, List.getElem_cons_zero, List.getElem_cons_succ, List.setIfInBounds_toArray, List.set_cons_zero, List.set_cons_succ]
      refine wpAnyH_take (i := 31) (v := ?_) rfl (by kernel_rfl) (by kernel_rfl) (by kernel_rfl) (fun _ _ _ h => h) (Or.inl ⟨by kernel_rfl, ?_⟩) hS ?_
      rotate_left
      · intro w' hS'
        have hq := hS'.1
        have hq2 := hS'.2
        clear hS'
        first | (go_simp; done) | (go_simp; with_reducible rfl)
      try simp only [Act.put, List.getElem_toArray, List.getElem_cons_zero, List.getElem_cons_succ, List.setIfInBounds_toArray, List.set_cons_zero, List.set_cons_succ]
      refine wpAnyH_take (i := 32) (v := ?_) rfl (by kernel_rfl) (by kernel_rfl) (by kernel_rfl) (fun _ _ _ h => h) (Or.inl ⟨by kernel_rfl, ?_⟩) hS ?_
      rotate_left
      · intro w' hS'
        have hq := hS'.1
        have hq2 := hS'.2
        clear hS'
        first | (go_simp; done) | (go_simp; with_reducible rfl)
      try simp only [Act.put, List.getElem_toArray, List.getElem_cons_zero, List.getElem_cons_succ, List.setIfInBounds_toArray, List.set_cons_zero, List.set_cons_succ]
      refine wpAnyH_take (i := 33) (v := ?_) rfl (by kernel_rfl) (by kernel_rfl) (by kernel_rfl) (fun _ _ _ h => h) (Or.inl ⟨by kernel_rfl, ?_⟩) hS ?_
      rotate_left
      · intro w' hS'
        have hq := hS'.1
        have hq2 := hS'.2
        clear hS'
        first | (go_simp; done) | (go_simp; with_reducible rfl)
      try simp only [Act.put, List.getElem_toArray, List.getElem_cons_zero, List.getElem_cons_succ, List.setIfInBounds_toArray, List.set_cons_zero, List.set_cons_succ]
      refine wpAnyH_ready (rs := [34]) (by kernel_rfl) (by simp) ?_
      refine AllReadyH.cons rfl (fun K hK => ?_) AllReadyH.nil
      go_simp
      go_at_call 18
      refine (hOf.out _).mono ?_
      rintro e w7 ⟨rfl, hk⟩
      try dsimp only
      have hkn := hS.2.trans (hk.mono hS.2.size)
      refine hK.out _ _ ?_ (fun hS => ?_)
      · exact ⟨(bcell hkn).1, hkn⟩
      clear hK K hk hkn
      try simp only [Act.put, List.getElem_toArray, List.getElem_cons_zero, List.getElem_cons_succ, List.setIfInBounds_toArray, List.set_cons_zero, List.set_cons_succ]
      refine wpAnyH_ready (rs := [35]) (by kernel_rfl) (by simp) ?_
      refine AllReadyH.cons rfl (fun K hK => ?_) AllReadyH.nil
      go_simp
      go_at_call 19
      refine (h19.out _).mono ?_
      rintro e w8 ⟨g8, rfl, hgn, hr8, hk⟩
      try dsimp only
      have hkn := hS.2.trans (hk.mono hS.2.size)
      refine hK.out _ _ ?_ (fun hS => ?_)
      · exact ⟨(bcell hkn).1, hkn⟩
      clear hK K hk hkn hgn
      try simp only [Act.put, List.getElem_toArray, List.getElem_cons_zero, List.getElem_cons_succ, List.setIfInBounds_toArray, List.set_cons_zero, List.set_cons_succ]
      refine wpAnyH_ready (rs := [36]) (by kernel_rfl) (by simp) ?_
      refine AllReadyH.cons rfl (fun K hK => ?_) AllReadyH.nil
      go_simp
      go_at_call 4
      refine (h4.out g8 _ (hT.kept (hkE.trans (hS.2.mono hkE.size))) hr8).mono ?_
      rintro e w9 ⟨rfl, hk⟩
      try dsimp only
      have hkn := hS.2.trans (hk.mono hS.2.size)
      refine hK.out _ _ ?_ (fun hS => ?_)
      · exact ⟨(bcell hkn).1, hkn⟩
      clear hK K hk hkn
      try simp only [Act.put, List.getElem_toArray, List.getElem_cons_zero, List.getElem_cons_succ, List.setIfInBounds_toArray, List.set_cons_zero, List.set_cons_succ]
      refine wpAnyH_take (i := 37) (v := ?_) rfl (by kernel_rfl) (by kernel_rfl) (by kernel_rfl) (fun _ _ _ h => h) (Or.inl ⟨by kernel_rfl, ?_⟩) hS ?_
      rotate_left
      · intro w' hS'
        have hq := hS'.1
        have hq2 := hS'.2
        clear hS'
        first | (go_simp; done) | (go_simp; with_reducible rfl)
      try simp only [Act.put, List.getElem_toArray, List.getElem_cons_zero, List.getElem_cons_succ, List.setIfInBounds_toArray, List.set_cons_zero, List.set_cons_succ]
      refine wpAnyH_take (i := 38) (v := ?_) rfl (by kernel_rfl) (by kernel_rfl) (by kernel_rfl) (fun _ _ _ h => h) (Or.inl ⟨by kernel_rfl, ?_⟩) hS ?_
      rotate_left
      · intro w' hS'
        have hq := hS'.1
        have hq2 := hS'.2
        clear hS'
        first | (go_simp; done) | (go_simp; with_reducible rfl)
      try simp only [Act.put, List.getElem_toArray, List.getElem_cons_zero, List.getElem_cons_succ, List.setIfInBounds_toArray, List.set_cons_zero, List.set_cons_succ]
      refine wpAnyH_done (by kernel_rfl) ?_ _
      have hkL := hkE.trans (hS.2.mono hkE.size)
      have hr0 : 0 ≤ (z * 31 + 11) % 100003 := by omega
      have hr1 : (z * 31 + 11) % 100003 < 100003 := by omega
      clear c0 c1 c2 hS
      go_wp2_with fail
      go_roundg (gk - 1)
      case measure => omega
      case rel => exact ⟨k + 1, _, by omega, by go_num, rfl, by omega, by omega, hkL⟩
    · have hlt' : 60 ≤ (k : Int) := by omega
      have hI : ∀ w, Tabs w → _ := fun w hT => inq_law ⟨#[65, 67, 77, 69]⟩ ⟨#[68, 73, 83, 75, 32, 57]⟩ ⟨#[49, 46, 48]⟩ true 4294967295 512 none 0 0 [] w hT (Nat.le_refl _) (by decide) (by decide) (Sl.nil _ _ _ _)
      have hTr := hT.kept hkw
      go_wp2_with (first
        | (go_at_call 7; refine (hI _ hTr).mono ?_; rintro e w1 ⟨rfl, hk1⟩)
        | (go_at_call 14; refine (lives_any _ (hTr.kept hk1)).mono ?_; rintro e w2 ⟨rfl, hk2⟩))
      go_ret
      exact ⟨rfl, (hkw.trans (hk1.mono hkw.size)).trans (hk2.mono (Nat.le_trans hkw.size hk1.size))⟩
end Go.Proofs.YtfojemocffelhaaDoor
