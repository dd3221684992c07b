/- CommandsInquiry: the cases. -/
import Derived.Test.YtfojemocffelhaaDoorChecked
import Derived.Deep.RegionHeld3
import Derived.Deep.DrawnRows
import Derived.Deep.DeepCutAuto
import Derived.Deep.LoopGhost
import Derived.Outline
import Derived.Handy
import Derived.OwnWalk
import Derived.Test.YtfojemocffelhaaDoorNc
import Derived.IntWalk
set_option linter.unusedVariables false
set_option linter.unusedSimpArgs false
set_option linter.unusedSectionVars false
/- CommandsInquiry: the first text is too long. -/
namespace Go.Proofs.YtfojemocffelhaaDoor
open Go.RowKit Go.Shelf
attribute [local go_sem ↓] Go.wp_at_zero Go.wp_at_succ

set_option maxRecDepth 100000 in
set_option maxHeartbeats 8000000 in
theorem inqA_1_1 (b2 b3 : Bool) (v p r : ByteArray) (rem : Bool) (y z : Nat) (A : Option Addr) (n c : Nat) (bs : List UInt8) (w : World) (hT : Tabs w) (hv : v.size ≤ 30) (hp : p.size ≤ 30) (hr : r.size ≤ 30) (hn : n ≤ 60) (hnc : n ≤ c) (hy : y < 4294967296) (hz : z < 4294967296)
    (hl : Sl byT w (low w.heap.size) A n bs)
    (hRv : ∀ w, Calls Tryd.prog 22 #[.string v] w fun e w' => e = .returned (.bool false) ∧ w = w') (hRp : ∀ w, Calls Tryd.prog 22 #[.string p] w fun e w' => e = .returned (.bool b2) ∧ w = w') (hRr : ∀ w, Calls Tryd.prog 22 #[.string r] w fun e w' => e = .returned (.bool b3) ∧ w = w')
    (hL1 : (8 : Int) < (v.size : Int)) (hE : errI v p r = 3) :
    Calls Tryd.prog 7 #[.agg #[.string v, .string p, .string r, .bool rem], .slice A n c, .agg #[.int .u32 y, .int .u32 z]] w fun e w' => e = .returned (.bool true) ∧ Kept w w' := by
  have hvI : (v.size : Int) ≤ 30 := by omega
  have hpI : (p.size : Int) ≤ 30 := by omega
  have hrI : (r.size : Int) ≤ 30 := by omega
  have hnI : (n : Int) ≤ 60 := by omega
  have hI : ∀ w, _ := fun w => einq_all v p r rem w
  rw [hE] at hI
  replace hE := Lib.hid hE
  replace hl := Lib.hid hl
  go_enter Tryd.func7, Tryd.ntmps7
  go_upto_region 5 with (go_at_call 21; refine (hI _).mono ?_; rintro e w1 ⟨A1, N, rfl, hF, hk1⟩; obtain ⟨hc1, hf1⟩ := bcell hk1; have hs1 := hk1.size; simp only [World.size_alloc] at hc1 hf1 hs1; have hkw1 : Kept w w1 := (((Below.refl _ w).alloc (Nat.le_refl _) _).alloc (by simp) _).trans (hk1.mono (by simp; omega)))
  have hbx : w1.heap[w.heap.size]? = some (.cells #[.string v, .string p, .string r, .bool rem] 55 (0, 0)) := heap_kept hk1 (heap_past (heap_at _ rfl))
  have hby : w1.heap[w.heap.size + 1]? = some (.cells #[.int .u32 y, .int .u32 z] 57 (0, 0)) := heap_kept hk1 (heap_at _ (by simp))
  have cx0 := cell_heap (o := 0) hbx rfl
  have cx1 := cell_heap (o := 1) hbx rfl
  have cx2 := cell_heap (o := 2) hbx rfl
  have cx3 := cell_heap (o := 3) hbx rfl
  have hlx := heap_lt hbx
  have hly := heap_lt hby
  replace hF := Lib.hid hF
  replace hbx := Lib.hid hbx
  replace hby := Lib.hid hby
  clear hc1 hf1 hk1 hs1 hI
  have hN := hF.out.2 (by rw [hE.out]; omega)
  subst hN
  go_upto_region 15 with (first
  | (with_reducible refine (hRv _).mono ?_; rintro e w9 ⟨rfl, rfl⟩)
  | (with_reducible refine (hRp _).mono ?_; rintro e w9 ⟨rfl, rfl⟩)
  | (with_reducible refine (hRr _).mono ?_; rintro e w9 ⟨rfl, rfl⟩))
  refine inqB A n c bs (w.heap.size + 1) y z w _ (hT.kept hkw1) hy hz hby.out hkw1 hnc (hl.out.kept hkw1) _ ?_
  assumption
set_option maxRecDepth 100000 in
set_option maxHeartbeats 8000000 in
theorem inqA_1_2 (b3 : Bool) (v p r : ByteArray) (rem : Bool) (y z : Nat) (A : Option Addr) (n c : Nat) (bs : List UInt8) (w : World) (hT : Tabs w) (hv : v.size ≤ 30) (hp : p.size ≤ 30) (hr : r.size ≤ 30) (hn : n ≤ 60) (hnc : n ≤ c) (hy : y < 4294967296) (hz : z < 4294967296)
    (hl : Sl byT w (low w.heap.size) A n bs)
    (hRv : ∀ w, Calls Tryd.prog 22 #[.string v] w fun e w' => e = .returned (.bool true) ∧ w = w') (hRp : ∀ w, Calls Tryd.prog 22 #[.string p] w fun e w' => e = .returned (.bool false) ∧ w = w') (hRr : ∀ w, Calls Tryd.prog 22 #[.string r] w fun e w' => e = .returned (.bool b3) ∧ w = w')
    (hL1 : (8 : Int) < (v.size : Int)) (hE : errI v p r = 3) :
    Calls Tryd.prog 7 #[.agg #[.string v, .string p, .string r, .bool rem], .slice A n c, .agg #[.int .u32 y, .int .u32 z]] w fun e w' => e = .returned (.bool true) ∧ Kept w w' := by
  have hvI : (v.size : Int) ≤ 30 := by omega
  have hpI : (p.size : Int) ≤ 30 := by omega
  have hrI : (r.size : Int) ≤ 30 := by omega
  have hnI : (n : Int) ≤ 60 := by omega
  have hI : ∀ w, _ := fun w => einq_all v p r rem w
  rw [hE] at hI
  replace hE := Lib.hid hE
  replace hl := Lib.hid hl
  go_enter Tryd.func7, Tryd.ntmps7
  go_upto_region 5 with (go_at_call 21; refine (hI _).mono ?_; rintro e w1 ⟨A1, N, rfl, hF, hk1⟩; obtain ⟨hc1, hf1⟩ := bcell hk1; have hs1 := hk1.size; simp only [World.size_alloc] at hc1 hf1 hs1; have hkw1 : Kept w w1 := (((Below.refl _ w).alloc (Nat.le_refl _) _).alloc (by simp) _).trans (hk1.mono (by simp; omega)))
  have hbx : w1.heap[w.heap.size]? = some (.cells #[.string v, .string p, .string r, .bool rem] 55 (0, 0)) := heap_kept hk1 (heap_past (heap_at _ rfl))
  have hby : w1.heap[w.heap.size + 1]? = some (.cells #[.int .u32 y, .int .u32 z] 57 (0, 0)) := heap_kept hk1 (heap_at _ (by simp))
  have cx0 := cell_heap (o := 0) hbx rfl
  have cx1 := cell_heap (o := 1) hbx rfl
  have cx2 := cell_heap (o := 2) hbx rfl
  have cx3 := cell_heap (o := 3) hbx rfl
  have hlx := heap_lt hbx
  have hly := heap_lt hby
  replace hF := Lib.hid hF
  replace hbx := Lib.hid hbx
  replace hby := Lib.hid hby
  clear hc1 hf1 hk1 hs1 hI
  have hN := hF.out.2 (by rw [hE.out]; omega)
  subst hN
  go_upto_region 15 with (first
  | (with_reducible refine (hRv _).mono ?_; rintro e w9 ⟨rfl, rfl⟩)
  | (with_reducible refine (hRp _).mono ?_; rintro e w9 ⟨rfl, rfl⟩)
  | (with_reducible refine (hRr _).mono ?_; rintro e w9 ⟨rfl, rfl⟩))
  refine inqB A n c bs (w.heap.size + 1) y z w _ (hT.kept hkw1) hy hz hby.out hkw1 hnc (hl.out.kept hkw1) _ ?_
  assumption
set_option maxRecDepth 100000 in
set_option maxHeartbeats 8000000 in
theorem inqA_1_3  (v p r : ByteArray) (rem : Bool) (y z : Nat) (A : Option Addr) (n c : Nat) (bs : List UInt8) (w : World) (hT : Tabs w) (hv : v.size ≤ 30) (hp : p.size ≤ 30) (hr : r.size ≤ 30) (hn : n ≤ 60) (hnc : n ≤ c) (hy : y < 4294967296) (hz : z < 4294967296)
    (hl : Sl byT w (low w.heap.size) A n bs)
    (hRv : ∀ w, Calls Tryd.prog 22 #[.string v] w fun e w' => e = .returned (.bool true) ∧ w = w') (hRp : ∀ w, Calls Tryd.prog 22 #[.string p] w fun e w' => e = .returned (.bool true) ∧ w = w') (hRr : ∀ w, Calls Tryd.prog 22 #[.string r] w fun e w' => e = .returned (.bool false) ∧ w = w')
    (hL1 : (8 : Int) < (v.size : Int)) (hE : errI v p r = 3) :
    Calls Tryd.prog 7 #[.agg #[.string v, .string p, .string r, .bool rem], .slice A n c, .agg #[.int .u32 y, .int .u32 z]] w fun e w' => e = .returned (.bool true) ∧ Kept w w' := by
  have hvI : (v.size : Int) ≤ 30 := by omega
  have hpI : (p.size : Int) ≤ 30 := by omega
  have hrI : (r.size : Int) ≤ 30 := by omega
  have hnI : (n : Int) ≤ 60 := by omega
  have hI : ∀ w, _ := fun w => einq_all v p r rem w
  rw [hE] at hI
  replace hE := Lib.hid hE
  replace hl := Lib.hid hl
  go_enter Tryd.func7, Tryd.ntmps7
  go_upto_region 5 with (go_at_call 21; refine (hI _).mono ?_; rintro e w1 ⟨A1, N, rfl, hF, hk1⟩; obtain ⟨hc1, hf1⟩ := bcell hk1; have hs1 := hk1.size; simp only [World.size_alloc] at hc1 hf1 hs1; have hkw1 : Kept w w1 := (((Below.refl _ w).alloc (Nat.le_refl _) _).alloc (by simp) _).trans (hk1.mono (by simp; omega)))
  have hbx : w1.heap[w.heap.size]? = some (.cells #[.string v, .string p, .string r, .bool rem] 55 (0, 0)) := heap_kept hk1 (heap_past (heap_at _ rfl))
  have hby : w1.heap[w.heap.size + 1]? = some (.cells #[.int .u32 y, .int .u32 z] 57 (0, 0)) := heap_kept hk1 (heap_at _ (by simp))
  have cx0 := cell_heap (o := 0) hbx rfl
  have cx1 := cell_heap (o := 1) hbx rfl
  have cx2 := cell_heap (o := 2) hbx rfl
  have cx3 := cell_heap (o := 3) hbx rfl
  have hlx := heap_lt hbx
  have hly := heap_lt hby
  replace hF := Lib.hid hF
  replace hbx := Lib.hid hbx
  replace hby := Lib.hid hby
  clear hc1 hf1 hk1 hs1 hI
  have hN := hF.out.2 (by rw [hE.out]; omega)
  subst hN
  go_upto_region 15 with (first
  | (with_reducible refine (hRv _).mono ?_; rintro e w9 ⟨rfl, rfl⟩)
  | (with_reducible refine (hRp _).mono ?_; rintro e w9 ⟨rfl, rfl⟩)
  | (with_reducible refine (hRr _).mono ?_; rintro e w9 ⟨rfl, rfl⟩))
  refine inqB A n c bs (w.heap.size + 1) y z w _ (hT.kept hkw1) hy hz hby.out hkw1 hnc (hl.out.kept hkw1) _ ?_
  assumption
set_option maxRecDepth 100000 in
set_option maxHeartbeats 8000000 in
theorem inqA_1_4  (v p r : ByteArray) (rem : Bool) (y z : Nat) (A : Option Addr) (n c : Nat) (bs : List UInt8) (w : World) (hT : Tabs w) (hv : v.size ≤ 30) (hp : p.size ≤ 30) (hr : r.size ≤ 30) (hn : n ≤ 60) (hnc : n ≤ c) (hy : y < 4294967296) (hz : z < 4294967296)
    (hl : Sl byT w (low w.heap.size) A n bs)
    (hRv : ∀ w, Calls Tryd.prog 22 #[.string v] w fun e w' => e = .returned (.bool true) ∧ w = w') (hRp : ∀ w, Calls Tryd.prog 22 #[.string p] w fun e w' => e = .returned (.bool true) ∧ w = w') (hRr : ∀ w, Calls Tryd.prog 22 #[.string r] w fun e w' => e = .returned (.bool true) ∧ w = w')
    (hL1 : (8 : Int) < (v.size : Int)) (hE : errI v p r = 3) :
    Calls Tryd.prog 7 #[.agg #[.string v, .string p, .string r, .bool rem], .slice A n c, .agg #[.int .u32 y, .int .u32 z]] w fun e w' => e = .returned (.bool true) ∧ Kept w w' := by
  have hvI : (v.size : Int) ≤ 30 := by omega
  have hpI : (p.size : Int) ≤ 30 := by omega
  have hrI : (r.size : Int) ≤ 30 := by omega
  have hnI : (n : Int) ≤ 60 := by omega
  have hI : ∀ w, _ := fun w => einq_all v p r rem w
  rw [hE] at hI
  replace hE := Lib.hid hE
  replace hl := Lib.hid hl
  go_enter Tryd.func7, Tryd.ntmps7
  go_upto_region 5 with (go_at_call 21; refine (hI _).mono ?_; rintro e w1 ⟨A1, N, rfl, hF, hk1⟩; obtain ⟨hc1, hf1⟩ := bcell hk1; have hs1 := hk1.size; simp only [World.size_alloc] at hc1 hf1 hs1; have hkw1 : Kept w w1 := (((Below.refl _ w).alloc (Nat.le_refl _) _).alloc (by simp) _).trans (hk1.mono (by simp; omega)))
  have hbx : w1.heap[w.heap.size]? = some (.cells #[.string v, .string p, .string r, .bool rem] 55 (0, 0)) := heap_kept hk1 (heap_past (heap_at _ rfl))
  have hby : w1.heap[w.heap.size + 1]? = some (.cells #[.int .u32 y, .int .u32 z] 57 (0, 0)) := heap_kept hk1 (heap_at _ (by simp))
  have cx0 := cell_heap (o := 0) hbx rfl
  have cx1 := cell_heap (o := 1) hbx rfl
  have cx2 := cell_heap (o := 2) hbx rfl
  have cx3 := cell_heap (o := 3) hbx rfl
  have hlx := heap_lt hbx
  have hly := heap_lt hby
  replace hF := Lib.hid hF
  replace hbx := Lib.hid hbx
  replace hby := Lib.hid hby
  clear hc1 hf1 hk1 hs1 hI
  have hN := hF.out.2 (by rw [hE.out]; omega)
  subst hN
  go_upto_region 15 with (first
  | (with_reducible refine (hRv _).mono ?_; rintro e w9 ⟨rfl, rfl⟩)
  | (with_reducible refine (hRp _).mono ?_; rintro e w9 ⟨rfl, rfl⟩)
  | (with_reducible refine (hRr _).mono ?_; rintro e w9 ⟨rfl, rfl⟩))
  refine inqB A n c bs (w.heap.size + 1) y z w _ (hT.kept hkw1) hy hz hby.out hkw1 hnc (hl.out.kept hkw1) _ ?_
  assumption
end Go.Proofs.YtfojemocffelhaaDoor
/- CommandsInquiry: the second text is too long. -/
namespace Go.Proofs.YtfojemocffelhaaDoor
open Go.RowKit Go.Shelf
attribute [local go_sem ↓] Go.wp_at_zero Go.wp_at_succ

set_option maxRecDepth 100000 in
set_option maxHeartbeats 8000000 in
theorem inqA_2_1 (b2 b3 : Bool) (v p r : ByteArray) (rem : Bool) (y z : Nat) (A : Option Addr) (n c : Nat) (bs : List UInt8) (w : World) (hT : Tabs w) (hv : v.size ≤ 30) (hp : p.size ≤ 30) (hr : r.size ≤ 30) (hn : n ≤ 60) (hnc : n ≤ c) (hy : y < 4294967296) (hz : z < 4294967296)
    (hl : Sl byT w (low w.heap.size) A n bs)
    (hRv : ∀ w, Calls Tryd.prog 22 #[.string v] w fun e w' => e = .returned (.bool false) ∧ w = w') (hRp : ∀ w, Calls Tryd.prog 22 #[.string p] w fun e w' => e = .returned (.bool b2) ∧ w = w') (hRr : ∀ w, Calls Tryd.prog 22 #[.string r] w fun e w' => e = .returned (.bool b3) ∧ w = w')
    (hL1 : (v.size : Int) ≤ 8) (hL2 : (16 : Int) < (p.size : Int)) (hE : errI v p r = 3) :
    Calls Tryd.prog 7 #[.agg #[.string v, .string p, .string r, .bool rem], .slice A n c, .agg #[.int .u32 y, .int .u32 z]] w fun e w' => e = .returned (.bool true) ∧ Kept w w' := by
  have hvI : (v.size : Int) ≤ 30 := by omega
  have hpI : (p.size : Int) ≤ 30 := by omega
  have hrI : (r.size : Int) ≤ 30 := by omega
  have hnI : (n : Int) ≤ 60 := by omega
  have hI : ∀ w, _ := fun w => einq_all v p r rem w
  rw [hE] at hI
  replace hE := Lib.hid hE
  replace hl := Lib.hid hl
  go_enter Tryd.func7, Tryd.ntmps7
  go_upto_region 5 with (go_at_call 21; refine (hI _).mono ?_; rintro e w1 ⟨A1, N, rfl, hF, hk1⟩; obtain ⟨hc1, hf1⟩ := bcell hk1; have hs1 := hk1.size; simp only [World.size_alloc] at hc1 hf1 hs1; have hkw1 : Kept w w1 := (((Below.refl _ w).alloc (Nat.le_refl _) _).alloc (by simp) _).trans (hk1.mono (by simp; omega)))
  have hbx : w1.heap[w.heap.size]? = some (.cells #[.string v, .string p, .string r, .bool rem] 55 (0, 0)) := heap_kept hk1 (heap_past (heap_at _ rfl))
  have hby : w1.heap[w.heap.size + 1]? = some (.cells #[.int .u32 y, .int .u32 z] 57 (0, 0)) := heap_kept hk1 (heap_at _ (by simp))
  have cx0 := cell_heap (o := 0) hbx rfl
  have cx1 := cell_heap (o := 1) hbx rfl
  have cx2 := cell_heap (o := 2) hbx rfl
  have cx3 := cell_heap (o := 3) hbx rfl
  have hlx := heap_lt hbx
  have hly := heap_lt hby
  replace hF := Lib.hid hF
  replace hbx := Lib.hid hbx
  replace hby := Lib.hid hby
  clear hc1 hf1 hk1 hs1 hI
  have hN := hF.out.2 (by rw [hE.out]; omega)
  subst hN
  go_upto_region 15 with (first
  | (with_reducible refine (hRv _).mono ?_; rintro e w9 ⟨rfl, rfl⟩)
  | (with_reducible refine (hRp _).mono ?_; rintro e w9 ⟨rfl, rfl⟩)
  | (with_reducible refine (hRr _).mono ?_; rintro e w9 ⟨rfl, rfl⟩))
  refine inqB A n c bs (w.heap.size + 1) y z w _ (hT.kept hkw1) hy hz hby.out hkw1 hnc (hl.out.kept hkw1) _ ?_
  assumption
set_option maxRecDepth 100000 in
set_option maxHeartbeats 8000000 in
theorem inqA_2_2 (b3 : Bool) (v p r : ByteArray) (rem : Bool) (y z : Nat) (A : Option Addr) (n c : Nat) (bs : List UInt8) (w : World) (hT : Tabs w) (hv : v.size ≤ 30) (hp : p.size ≤ 30) (hr : r.size ≤ 30) (hn : n ≤ 60) (hnc : n ≤ c) (hy : y < 4294967296) (hz : z < 4294967296)
    (hl : Sl byT w (low w.heap.size) A n bs)
    (hRv : ∀ w, Calls Tryd.prog 22 #[.string v] w fun e w' => e = .returned (.bool true) ∧ w = w') (hRp : ∀ w, Calls Tryd.prog 22 #[.string p] w fun e w' => e = .returned (.bool false) ∧ w = w') (hRr : ∀ w, Calls Tryd.prog 22 #[.string r] w fun e w' => e = .returned (.bool b3) ∧ w = w')
    (hL1 : (v.size : Int) ≤ 8) (hL2 : (16 : Int) < (p.size : Int)) (hE : errI v p r = 3) :
    Calls Tryd.prog 7 #[.agg #[.string v, .string p, .string r, .bool rem], .slice A n c, .agg #[.int .u32 y, .int .u32 z]] w fun e w' => e = .returned (.bool true) ∧ Kept w w' := by
  have hvI : (v.size : Int) ≤ 30 := by omega
  have hpI : (p.size : Int) ≤ 30 := by omega
  have hrI : (r.size : Int) ≤ 30 := by omega
  have hnI : (n : Int) ≤ 60 := by omega
  have hI : ∀ w, _ := fun w => einq_all v p r rem w
  rw [hE] at hI
  replace hE := Lib.hid hE
  replace hl := Lib.hid hl
  go_enter Tryd.func7, Tryd.ntmps7
  go_upto_region 5 with (go_at_call 21; refine (hI _).mono ?_; rintro e w1 ⟨A1, N, rfl, hF, hk1⟩; obtain ⟨hc1, hf1⟩ := bcell hk1; have hs1 := hk1.size; simp only [World.size_alloc] at hc1 hf1 hs1; have hkw1 : Kept w w1 := (((Below.refl _ w).alloc (Nat.le_refl _) _).alloc (by simp) _).trans (hk1.mono (by simp; omega)))
  have hbx : w1.heap[w.heap.size]? = some (.cells #[.string v, .string p, .string r, .bool rem] 55 (0, 0)) := heap_kept hk1 (heap_past (heap_at _ rfl))
  have hby : w1.heap[w.heap.size + 1]? = some (.cells #[.int .u32 y, .int .u32 z] 57 (0, 0)) := heap_kept hk1 (heap_at _ (by simp))
  have cx0 := cell_heap (o := 0) hbx rfl
  have cx1 := cell_heap (o := 1) hbx rfl
  have cx2 := cell_heap (o := 2) hbx rfl
  have cx3 := cell_heap (o := 3) hbx rfl
  have hlx := heap_lt hbx
  have hly := heap_lt hby
  replace hF := Lib.hid hF
  replace hbx := Lib.hid hbx
  replace hby := Lib.hid hby
  clear hc1 hf1 hk1 hs1 hI
  have hN := hF.out.2 (by rw [hE.out]; omega)
  subst hN
  go_upto_region 15 with (first
  | (with_reducible refine (hRv _).mono ?_; rintro e w9 ⟨rfl, rfl⟩)
  | (with_reducible refine (hRp _).mono ?_; rintro e w9 ⟨rfl, rfl⟩)
  | (with_reducible refine (hRr _).mono ?_; rintro e w9 ⟨rfl, rfl⟩))
  refine inqB A n c bs (w.heap.size + 1) y z w _ (hT.kept hkw1) hy hz hby.out hkw1 hnc (hl.out.kept hkw1) _ ?_
  assumption
set_option maxRecDepth 100000 in
set_option maxHeartbeats 8000000 in
theorem inqA_2_3  (v p r : ByteArray) (rem : Bool) (y z : Nat) (A : Option Addr) (n c : Nat) (bs : List UInt8) (w : World) (hT : Tabs w) (hv : v.size ≤ 30) (hp : p.size ≤ 30) (hr : r.size ≤ 30) (hn : n ≤ 60) (hnc : n ≤ c) (hy : y < 4294967296) (hz : z < 4294967296)
    (hl : Sl byT w (low w.heap.size) A n bs)
    (hRv : ∀ w, Calls Tryd.prog 22 #[.string v] w fun e w' => e = .returned (.bool true) ∧ w = w') (hRp : ∀ w, Calls Tryd.prog 22 #[.string p] w fun e w' => e = .returned (.bool true) ∧ w = w') (hRr : ∀ w, Calls Tryd.prog 22 #[.string r] w fun e w' => e = .returned (.bool false) ∧ w = w')
    (hL1 : (v.size : Int) ≤ 8) (hL2 : (16 : Int) < (p.size : Int)) (hE : errI v p r = 3) :
    Calls Tryd.prog 7 #[.agg #[.string v, .string p, .string r, .bool rem], .slice A n c, .agg #[.int .u32 y, .int .u32 z]] w fun e w' => e = .returned (.bool true) ∧ Kept w w' := by
  have hvI : (v.size : Int) ≤ 30 := by omega
  have hpI : (p.size : Int) ≤ 30 := by omega
  have hrI : (r.size : Int) ≤ 30 := by omega
  have hnI : (n : Int) ≤ 60 := by omega
  have hI : ∀ w, _ := fun w => einq_all v p r rem w
  rw [hE] at hI
  replace hE := Lib.hid hE
  replace hl := Lib.hid hl
  go_enter Tryd.func7, Tryd.ntmps7
  go_upto_region 5 with (go_at_call 21; refine (hI _).mono ?_; rintro e w1 ⟨A1, N, rfl, hF, hk1⟩; obtain ⟨hc1, hf1⟩ := bcell hk1; have hs1 := hk1.size; simp only [World.size_alloc] at hc1 hf1 hs1; have hkw1 : Kept w w1 := (((Below.refl _ w).alloc (Nat.le_refl _) _).alloc (by simp) _).trans (hk1.mono (by simp; omega)))
  have hbx : w1.heap[w.heap.size]? = some (.cells #[.string v, .string p, .string r, .bool rem] 55 (0, 0)) := heap_kept hk1 (heap_past (heap_at _ rfl))
  have hby : w1.heap[w.heap.size + 1]? = some (.cells #[.int .u32 y, .int .u32 z] 57 (0, 0)) := heap_kept hk1 (heap_at _ (by simp))
  have cx0 := cell_heap (o := 0) hbx rfl
  have cx1 := cell_heap (o := 1) hbx rfl
  have cx2 := cell_heap (o := 2) hbx rfl
  have cx3 := cell_heap (o := 3) hbx rfl
  have hlx := heap_lt hbx
  have hly := heap_lt hby
  replace hF := Lib.hid hF
  replace hbx := Lib.hid hbx
  replace hby := Lib.hid hby
  clear hc1 hf1 hk1 hs1 hI
  have hN := hF.out.2 (by rw [hE.out]; omega)
  subst hN
  go_upto_region 15 with (first
  | (with_reducible refine (hRv _).mono ?_; rintro e w9 ⟨rfl, rfl⟩)
  | (with_reducible refine (hRp _).mono ?_; rintro e w9 ⟨rfl, rfl⟩)
  | (with_reducible refine (hRr _).mono ?_; rintro e w9 ⟨rfl, rfl⟩))
  refine inqB A n c bs (w.heap.size + 1) y z w _ (hT.kept hkw1) hy hz hby.out hkw1 hnc (hl.out.kept hkw1) _ ?_
  assumption
set_option maxRecDepth 100000 in
set_option maxHeartbeats 8000000 in
theorem inqA_2_4  (v p r : ByteArray) (rem : Bool) (y z : Nat) (A : Option Addr) (n c : Nat) (bs : List UInt8) (w : World) (hT : Tabs w) (hv : v.size ≤ 30) (hp : p.size ≤ 30) (hr : r.size ≤ 30) (hn : n ≤ 60) (hnc : n ≤ c) (hy : y < 4294967296) (hz : z < 4294967296)
    (hl : Sl byT w (low w.heap.size) A n bs)
    (hRv : ∀ w, Calls Tryd.prog 22 #[.string v] w fun e w' => e = .returned (.bool true) ∧ w = w') (hRp : ∀ w, Calls Tryd.prog 22 #[.string p] w fun e w' => e = .returned (.bool true) ∧ w = w') (hRr : ∀ w, Calls Tryd.prog 22 #[.string r] w fun e w' => e = .returned (.bool true) ∧ w = w')
    (hL1 : (v.size : Int) ≤ 8) (hL2 : (16 : Int) < (p.size : Int)) (hE : errI v p r = 3) :
    Calls Tryd.prog 7 #[.agg #[.string v, .string p, .string r, .bool rem], .slice A n c, .agg #[.int .u32 y, .int .u32 z]] w fun e w' => e = .returned (.bool true) ∧ Kept w w' := by
  have hvI : (v.size : Int) ≤ 30 := by omega
  have hpI : (p.size : Int) ≤ 30 := by omega
  have hrI : (r.size : Int) ≤ 30 := by omega
  have hnI : (n : Int) ≤ 60 := by omega
  have hI : ∀ w, _ := fun w => einq_all v p r rem w
  rw [hE] at hI
  replace hE := Lib.hid hE
  replace hl := Lib.hid hl
  go_enter Tryd.func7, Tryd.ntmps7
  go_upto_region 5 with (go_at_call 21; refine (hI _).mono ?_; rintro e w1 ⟨A1, N, rfl, hF, hk1⟩; obtain ⟨hc1, hf1⟩ := bcell hk1; have hs1 := hk1.size; simp only [World.size_alloc] at hc1 hf1 hs1; have hkw1 : Kept w w1 := (((Below.refl _ w).alloc (Nat.le_refl _) _).alloc (by simp) _).trans (hk1.mono (by simp; omega)))
  have hbx : w1.heap[w.heap.size]? = some (.cells #[.string v, .string p, .string r, .bool rem] 55 (0, 0)) := heap_kept hk1 (heap_past (heap_at _ rfl))
  have hby : w1.heap[w.heap.size + 1]? = some (.cells #[.int .u32 y, .int .u32 z] 57 (0, 0)) := heap_kept hk1 (heap_at _ (by simp))
  have cx0 := cell_heap (o := 0) hbx rfl
  have cx1 := cell_heap (o := 1) hbx rfl
  have cx2 := cell_heap (o := 2) hbx rfl
  have cx3 := cell_heap (o := 3) hbx rfl
  have hlx := heap_lt hbx
  have hly := heap_lt hby
  replace hF := Lib.hid hF
  replace hbx := Lib.hid hbx
  replace hby := Lib.hid hby
  clear hc1 hf1 hk1 hs1 hI
  have hN := hF.out.2 (by rw [hE.out]; omega)
  subst hN
  go_upto_region 15 with (first
  | (with_reducible refine (hRv _).mono ?_; rintro e w9 ⟨rfl, rfl⟩)
  | (with_reducible refine (hRp _).mono ?_; rintro e w9 ⟨rfl, rfl⟩)
  | (with_reducible refine (hRr _).mono ?_; rintro e w9 ⟨rfl, rfl⟩))
  refine inqB A n c bs (w.heap.size + 1) y z w _ (hT.kept hkw1) hy hz hby.out hkw1 hnc (hl.out.kept hkw1) _ ?_
  assumption
end Go.Proofs.YtfojemocffelhaaDoor
/- CommandsInquiry: the third text is too long. -/
namespace Go.Proofs.YtfojemocffelhaaDoor
open Go.RowKit Go.Shelf
attribute [local go_sem ↓] Go.wp_at_zero Go.wp_at_succ

set_option maxRecDepth 100000 in
set_option maxHeartbeats 8000000 in
theorem inqA_3_1 (b2 b3 : Bool) (v p r : ByteArray) (rem : Bool) (y z : Nat) (A : Option Addr) (n c : Nat) (bs : List UInt8) (w : World) (hT : Tabs w) (hv : v.size ≤ 30) (hp : p.size ≤ 30) (hr : r.size ≤ 30) (hn : n ≤ 60) (hnc : n ≤ c) (hy : y < 4294967296) (hz : z < 4294967296)
    (hl : Sl byT w (low w.heap.size) A n bs)
    (hRv : ∀ w, Calls Tryd.prog 22 #[.string v] w fun e w' => e = .returned (.bool false) ∧ w = w') (hRp : ∀ w, Calls Tryd.prog 22 #[.string p] w fun e w' => e = .returned (.bool b2) ∧ w = w') (hRr : ∀ w, Calls Tryd.prog 22 #[.string r] w fun e w' => e = .returned (.bool b3) ∧ w = w')
    (hL1 : (v.size : Int) ≤ 8) (hL2 : (p.size : Int) ≤ 16) (hL3 : (4 : Int) < (r.size : Int)) (hE : errI v p r = 3) :
    Calls Tryd.prog 7 #[.agg #[.string v, .string p, .string r, .bool rem], .slice A n c, .agg #[.int .u32 y, .int .u32 z]] w fun e w' => e = .returned (.bool true) ∧ Kept w w' := by
  have hvI : (v.size : Int) ≤ 30 := by omega
  have hpI : (p.size : Int) ≤ 30 := by omega
  have hrI : (r.size : Int) ≤ 30 := by omega
  have hnI : (n : Int) ≤ 60 := by omega
  have hI : ∀ w, _ := fun w => einq_all v p r rem w
  rw [hE] at hI
  replace hE := Lib.hid hE
  replace hl := Lib.hid hl
  go_enter Tryd.func7, Tryd.ntmps7
  go_upto_region 5 with (go_at_call 21; refine (hI _).mono ?_; rintro e w1 ⟨A1, N, rfl, hF, hk1⟩; obtain ⟨hc1, hf1⟩ := bcell hk1; have hs1 := hk1.size; simp only [World.size_alloc] at hc1 hf1 hs1; have hkw1 : Kept w w1 := (((Below.refl _ w).alloc (Nat.le_refl _) _).alloc (by simp) _).trans (hk1.mono (by simp; omega)))
  have hbx : w1.heap[w.heap.size]? = some (.cells #[.string v, .string p, .string r, .bool rem] 55 (0, 0)) := heap_kept hk1 (heap_past (heap_at _ rfl))
  have hby : w1.heap[w.heap.size + 1]? = some (.cells #[.int .u32 y, .int .u32 z] 57 (0, 0)) := heap_kept hk1 (heap_at _ (by simp))
  have cx0 := cell_heap (o := 0) hbx rfl
  have cx1 := cell_heap (o := 1) hbx rfl
  have cx2 := cell_heap (o := 2) hbx rfl
  have cx3 := cell_heap (o := 3) hbx rfl
  have hlx := heap_lt hbx
  have hly := heap_lt hby
  replace hF := Lib.hid hF
  replace hbx := Lib.hid hbx
  replace hby := Lib.hid hby
  clear hc1 hf1 hk1 hs1 hI
  have hN := hF.out.2 (by rw [hE.out]; omega)
  subst hN
  go_upto_region 15 with (first
  | (with_reducible refine (hRv _).mono ?_; rintro e w9 ⟨rfl, rfl⟩)
  | (with_reducible refine (hRp _).mono ?_; rintro e w9 ⟨rfl, rfl⟩)
  | (with_reducible refine (hRr _).mono ?_; rintro e w9 ⟨rfl, rfl⟩))
  refine inqB A n c bs (w.heap.size + 1) y z w _ (hT.kept hkw1) hy hz hby.out hkw1 hnc (hl.out.kept hkw1) _ ?_
  assumption
set_option maxRecDepth 100000 in
set_option maxHeartbeats 8000000 in
theorem inqA_3_2 (b3 : Bool) (v p r : ByteArray) (rem : Bool) (y z : Nat) (A : Option Addr) (n c : Nat) (bs : List UInt8) (w : World) (hT : Tabs w) (hv : v.size ≤ 30) (hp : p.size ≤ 30) (hr : r.size ≤ 30) (hn : n ≤ 60) (hnc : n ≤ c) (hy : y < 4294967296) (hz : z < 4294967296)
    (hl : Sl byT w (low w.heap.size) A n bs)
    (hRv : ∀ w, Calls Tryd.prog 22 #[.string v] w fun e w' => e = .returned (.bool true) ∧ w = w') (hRp : ∀ w, Calls Tryd.prog 22 #[.string p] w fun e w' => e = .returned (.bool false) ∧ w = w') (hRr : ∀ w, Calls Tryd.prog 22 #[.string r] w fun e w' => e = .returned (.bool b3) ∧ w = w')
    (hL1 : (v.size : Int) ≤ 8) (hL2 : (p.size : Int) ≤ 16) (hL3 : (4 : Int) < (r.size : Int)) (hE : errI v p r = 3) :
    Calls Tryd.prog 7 #[.agg #[.string v, .string p, .string r, .bool rem], .slice A n c, .agg #[.int .u32 y, .int .u32 z]] w fun e w' => e = .returned (.bool true) ∧ Kept w w' := by
  have hvI : (v.size : Int) ≤ 30 := by omega
  have hpI : (p.size : Int) ≤ 30 := by omega
  have hrI : (r.size : Int) ≤ 30 := by omega
  have hnI : (n : Int) ≤ 60 := by omega
  have hI : ∀ w, _ := fun w => einq_all v p r rem w
  rw [hE] at hI
  replace hE := Lib.hid hE
  replace hl := Lib.hid hl
  go_enter Tryd.func7, Tryd.ntmps7
  go_upto_region 5 with (go_at_call 21; refine (hI _).mono ?_; rintro e w1 ⟨A1, N, rfl, hF, hk1⟩; obtain ⟨hc1, hf1⟩ := bcell hk1; have hs1 := hk1.size; simp only [World.size_alloc] at hc1 hf1 hs1; have hkw1 : Kept w w1 := (((Below.refl _ w).alloc (Nat.le_refl _) _).alloc (by simp) _).trans (hk1.mono (by simp; omega)))
  have hbx : w1.heap[w.heap.size]? = some (.cells #[.string v, .string p, .string r, .bool rem] 55 (0, 0)) := heap_kept hk1 (heap_past (heap_at _ rfl))
  have hby : w1.heap[w.heap.size + 1]? = some (.cells #[.int .u32 y, .int .u32 z] 57 (0, 0)) := heap_kept hk1 (heap_at _ (by simp))
  have cx0 := cell_heap (o := 0) hbx rfl
  have cx1 := cell_heap (o := 1) hbx rfl
  have cx2 := cell_heap (o := 2) hbx rfl
  have cx3 := cell_heap (o := 3) hbx rfl
  have hlx := heap_lt hbx
  have hly := heap_lt hby
  replace hF := Lib.hid hF
  replace hbx := Lib.hid hbx
  replace hby := Lib.hid hby
  clear hc1 hf1 hk1 hs1 hI
  have hN := hF.out.2 (by rw [hE.out]; omega)
  subst hN
  go_upto_region 15 with (first
  | (with_reducible refine (hRv _).mono ?_; rintro e w9 ⟨rfl, rfl⟩)
  | (with_reducible refine (hRp _).mono ?_; rintro e w9 ⟨rfl, rfl⟩)
  | (with_reducible refine (hRr _).mono ?_; rintro e w9 ⟨rfl, rfl⟩))
  refine inqB A n c bs (w.heap.size + 1) y z w _ (hT.kept hkw1) hy hz hby.out hkw1 hnc (hl.out.kept hkw1) _ ?_
  assumption
set_option maxRecDepth 100000 in
set_option maxHeartbeats 8000000 in
theorem inqA_3_3  (v p r : ByteArray) (rem : Bool) (y z : Nat) (A : Option Addr) (n c : Nat) (bs : List UInt8) (w : World) (hT : Tabs w) (hv : v.size ≤ 30) (hp : p.size ≤ 30) (hr : r.size ≤ 30) (hn : n ≤ 60) (hnc : n ≤ c) (hy : y < 4294967296) (hz : z < 4294967296)
    (hl : Sl byT w (low w.heap.size) A n bs)
    (hRv : ∀ w, Calls Tryd.prog 22 #[.string v] w fun e w' => e = .returned (.bool true) ∧ w = w') (hRp : ∀ w, Calls Tryd.prog 22 #[.string p] w fun e w' => e = .returned (.bool true) ∧ w = w') (hRr : ∀ w, Calls Tryd.prog 22 #[.string r] w fun e w' => e = .returned (.bool false) ∧ w = w')
    (hL1 : (v.size : Int) ≤ 8) (hL2 : (p.size : Int) ≤ 16) (hL3 : (4 : Int) < (r.size : Int)) (hE : errI v p r = 3) :
    Calls Tryd.prog 7 #[.agg #[.string v, .string p, .string r, .bool rem], .slice A n c, .agg #[.int .u32 y, .int .u32 z]] w fun e w' => e = .returned (.bool true) ∧ Kept w w' := by
  have hvI : (v.size : Int) ≤ 30 := by omega
  have hpI : (p.size : Int) ≤ 30 := by omega
  have hrI : (r.size : Int) ≤ 30 := by omega
  have hnI : (n : Int) ≤ 60 := by omega
  have hI : ∀ w, _ := fun w => einq_all v p r rem w
  rw [hE] at hI
  replace hE := Lib.hid hE
  replace hl := Lib.hid hl
  go_enter Tryd.func7, Tryd.ntmps7
  go_upto_region 5 with (go_at_call 21; refine (hI _).mono ?_; rintro e w1 ⟨A1, N, rfl, hF, hk1⟩; obtain ⟨hc1, hf1⟩ := bcell hk1; have hs1 := hk1.size; simp only [World.size_alloc] at hc1 hf1 hs1; have hkw1 : Kept w w1 := (((Below.refl _ w).alloc (Nat.le_refl _) _).alloc (by simp) _).trans (hk1.mono (by simp; omega)))
  have hbx : w1.heap[w.heap.size]? = some (.cells #[.string v, .string p, .string r, .bool rem] 55 (0, 0)) := heap_kept hk1 (heap_past (heap_at _ rfl))
  have hby : w1.heap[w.heap.size + 1]? = some (.cells #[.int .u32 y, .int .u32 z] 57 (0, 0)) := heap_kept hk1 (heap_at _ (by simp))
  have cx0 := cell_heap (o := 0) hbx rfl
  have cx1 := cell_heap (o := 1) hbx rfl
  have cx2 := cell_heap (o := 2) hbx rfl
  have cx3 := cell_heap (o := 3) hbx rfl
  have hlx := heap_lt hbx
  have hly := heap_lt hby
  replace hF := Lib.hid hF
  replace hbx := Lib.hid hbx
  replace hby := Lib.hid hby
  clear hc1 hf1 hk1 hs1 hI
  have hN := hF.out.2 (by rw [hE.out]; omega)
  subst hN
  go_upto_region 15 with (first
  | (with_reducible refine (hRv _).mono ?_; rintro e w9 ⟨rfl, rfl⟩)
  | (with_reducible refine (hRp _).mono ?_; rintro e w9 ⟨rfl, rfl⟩)
  | (with_reducible refine (hRr _).mono ?_; rintro e w9 ⟨rfl, rfl⟩))
  refine inqB A n c bs (w.heap.size + 1) y z w _ (hT.kept hkw1) hy hz hby.out hkw1 hnc (hl.out.kept hkw1) _ ?_
  assumption
set_option maxRecDepth 100000 in
set_option maxHeartbeats 8000000 in
theorem inqA_3_4  (v p r : ByteArray) (rem : Bool) (y z : Nat) (A : Option Addr) (n c : Nat) (bs : List UInt8) (w : World) (hT : Tabs w) (hv : v.size ≤ 30) (hp : p.size ≤ 30) (hr : r.size ≤ 30) (hn : n ≤ 60) (hnc : n ≤ c) (hy : y < 4294967296) (hz : z < 4294967296)
    (hl : Sl byT w (low w.heap.size) A n bs)
    (hRv : ∀ w, Calls Tryd.prog 22 #[.string v] w fun e w' => e = .returned (.bool true) ∧ w = w') (hRp : ∀ w, Calls Tryd.prog 22 #[.string p] w fun e w' => e = .returned (.bool true) ∧ w = w') (hRr : ∀ w, Calls Tryd.prog 22 #[.string r] w fun e w' => e = .returned (.bool true) ∧ w = w')
    (hL1 : (v.size : Int) ≤ 8) (hL2 : (p.size : Int) ≤ 16) (hL3 : (4 : Int) < (r.size : Int)) (hE : errI v p r = 3) :
    Calls Tryd.prog 7 #[.agg #[.string v, .string p, .string r, .bool rem], .slice A n c, .agg #[.int .u32 y, .int .u32 z]] w fun e w' => e = .returned (.bool true) ∧ Kept w w' := by
  have hvI : (v.size : Int) ≤ 30 := by omega
  have hpI : (p.size : Int) ≤ 30 := by omega
  have hrI : (r.size : Int) ≤ 30 := by omega
  have hnI : (n : Int) ≤ 60 := by omega
  have hI : ∀ w, _ := fun w => einq_all v p r rem w
  rw [hE] at hI
  replace hE := Lib.hid hE
  replace hl := Lib.hid hl
  go_enter Tryd.func7, Tryd.ntmps7
  go_upto_region 5 with (go_at_call 21; refine (hI _).mono ?_; rintro e w1 ⟨A1, N, rfl, hF, hk1⟩; obtain ⟨hc1, hf1⟩ := bcell hk1; have hs1 := hk1.size; simp only [World.size_alloc] at hc1 hf1 hs1; have hkw1 : Kept w w1 := (((Below.refl _ w).alloc (Nat.le_refl _) _).alloc (by simp) _).trans (hk1.mono (by simp; omega)))
  have hbx : w1.heap[w.heap.size]? = some (.cells #[.string v, .string p, .string r, .bool rem] 55 (0, 0)) := heap_kept hk1 (heap_past (heap_at _ rfl))
  have hby : w1.heap[w.heap.size + 1]? = some (.cells #[.int .u32 y, .int .u32 z] 57 (0, 0)) := heap_kept hk1 (heap_at _ (by simp))
  have cx0 := cell_heap (o := 0) hbx rfl
  have cx1 := cell_heap (o := 1) hbx rfl
  have cx2 := cell_heap (o := 2) hbx rfl
  have cx3 := cell_heap (o := 3) hbx rfl
  have hlx := heap_lt hbx
  have hly := heap_lt hby
  replace hF := Lib.hid hF
  replace hbx := Lib.hid hbx
  replace hby := Lib.hid hby
  clear hc1 hf1 hk1 hs1 hI
  have hN := hF.out.2 (by rw [hE.out]; omega)
  subst hN
  go_upto_region 15 with (first
  | (with_reducible refine (hRv _).mono ?_; rintro e w9 ⟨rfl, rfl⟩)
  | (with_reducible refine (hRp _).mono ?_; rintro e w9 ⟨rfl, rfl⟩)
  | (with_reducible refine (hRr _).mono ?_; rintro e w9 ⟨rfl, rfl⟩))
  refine inqB A n c bs (w.heap.size + 1) y z w _ (hT.kept hkw1) hy hz hby.out hkw1 hnc (hl.out.kept hkw1) _ ?_
  assumption
end Go.Proofs.YtfojemocffelhaaDoor
/- CommandsInquiry: a text of another form. -/
namespace Go.Proofs.YtfojemocffelhaaDoor
open Go.RowKit Go.Shelf
attribute [local go_sem ↓] Go.wp_at_zero Go.wp_at_succ

set_option maxRecDepth 100000 in
set_option maxHeartbeats 8000000 in
theorem inqA_0_1 (b2 b3 : Bool) (v p r : ByteArray) (rem : Bool) (y z : Nat) (A : Option Addr) (n c : Nat) (bs : List UInt8) (w : World) (hT : Tabs w) (hv : v.size ≤ 30) (hp : p.size ≤ 30) (hr : r.size ≤ 30) (hn : n ≤ 60) (hnc : n ≤ c) (hy : y < 4294967296) (hz : z < 4294967296)
    (hl : Sl byT w (low w.heap.size) A n bs)
    (hRv : ∀ w, Calls Tryd.prog 22 #[.string v] w fun e w' => e = .returned (.bool false) ∧ w = w') (hRp : ∀ w, Calls Tryd.prog 22 #[.string p] w fun e w' => e = .returned (.bool b2) ∧ w = w') (hRr : ∀ w, Calls Tryd.prog 22 #[.string r] w fun e w' => e = .returned (.bool b3) ∧ w = w')
    (hL1 : (v.size : Int) ≤ 8) (hL2 : (p.size : Int) ≤ 16) (hL3 : (r.size : Int) ≤ 4) (hE : errI v p r = 4) :
    Calls Tryd.prog 7 #[.agg #[.string v, .string p, .string r, .bool rem], .slice A n c, .agg #[.int .u32 y, .int .u32 z]] w fun e w' => e = .returned (.bool true) ∧ Kept w w' := by
  have hvI : (v.size : Int) ≤ 30 := by omega
  have hpI : (p.size : Int) ≤ 30 := by omega
  have hrI : (r.size : Int) ≤ 30 := by omega
  have hnI : (n : Int) ≤ 60 := by omega
  have hI : ∀ w, _ := fun w => einq_all v p r rem w
  rw [hE] at hI
  replace hE := Lib.hid hE
  replace hl := Lib.hid hl
  go_enter Tryd.func7, Tryd.ntmps7
  go_upto_region 5 with (go_at_call 21; refine (hI _).mono ?_; rintro e w1 ⟨A1, N, rfl, hF, hk1⟩; obtain ⟨hc1, hf1⟩ := bcell hk1; have hs1 := hk1.size; simp only [World.size_alloc] at hc1 hf1 hs1; have hkw1 : Kept w w1 := (((Below.refl _ w).alloc (Nat.le_refl _) _).alloc (by simp) _).trans (hk1.mono (by simp; omega)))
  have hbx : w1.heap[w.heap.size]? = some (.cells #[.string v, .string p, .string r, .bool rem] 55 (0, 0)) := heap_kept hk1 (heap_past (heap_at _ rfl))
  have hby : w1.heap[w.heap.size + 1]? = some (.cells #[.int .u32 y, .int .u32 z] 57 (0, 0)) := heap_kept hk1 (heap_at _ (by simp))
  have cx0 := cell_heap (o := 0) hbx rfl
  have cx1 := cell_heap (o := 1) hbx rfl
  have cx2 := cell_heap (o := 2) hbx rfl
  have cx3 := cell_heap (o := 3) hbx rfl
  have hlx := heap_lt hbx
  have hly := heap_lt hby
  replace hF := Lib.hid hF
  replace hbx := Lib.hid hbx
  replace hby := Lib.hid hby
  clear hc1 hf1 hk1 hs1 hI
  have hN := hF.out.2 (by rw [hE.out]; omega)
  subst hN
  go_upto_region 15 with (first
  | (with_reducible refine (hRv _).mono ?_; rintro e w9 ⟨rfl, rfl⟩)
  | (with_reducible refine (hRp _).mono ?_; rintro e w9 ⟨rfl, rfl⟩)
  | (with_reducible refine (hRr _).mono ?_; rintro e w9 ⟨rfl, rfl⟩))
  refine inqB A n c bs (w.heap.size + 1) y z w _ (hT.kept hkw1) hy hz hby.out hkw1 hnc (hl.out.kept hkw1) _ ?_
  assumption
set_option maxRecDepth 100000 in
set_option maxHeartbeats 8000000 in
theorem inqA_0_2 (b3 : Bool) (v p r : ByteArray) (rem : Bool) (y z : Nat) (A : Option Addr) (n c : Nat) (bs : List UInt8) (w : World) (hT : Tabs w) (hv : v.size ≤ 30) (hp : p.size ≤ 30) (hr : r.size ≤ 30) (hn : n ≤ 60) (hnc : n ≤ c) (hy : y < 4294967296) (hz : z < 4294967296)
    (hl : Sl byT w (low w.heap.size) A n bs)
    (hRv : ∀ w, Calls Tryd.prog 22 #[.string v] w fun e w' => e = .returned (.bool true) ∧ w = w') (hRp : ∀ w, Calls Tryd.prog 22 #[.string p] w fun e w' => e = .returned (.bool false) ∧ w = w') (hRr : ∀ w, Calls Tryd.prog 22 #[.string r] w fun e w' => e = .returned (.bool b3) ∧ w = w')
    (hL1 : (v.size : Int) ≤ 8) (hL2 : (p.size : Int) ≤ 16) (hL3 : (r.size : Int) ≤ 4) (hE : errI v p r = 4) :
    Calls Tryd.prog 7 #[.agg #[.string v, .string p, .string r, .bool rem], .slice A n c, .agg #[.int .u32 y, .int .u32 z]] w fun e w' => e = .returned (.bool true) ∧ Kept w w' := by
  have hvI : (v.size : Int) ≤ 30 := by omega
  have hpI : (p.size : Int) ≤ 30 := by omega
  have hrI : (r.size : Int) ≤ 30 := by omega
  have hnI : (n : Int) ≤ 60 := by omega
  have hI : ∀ w, _ := fun w => einq_all v p r rem w
  rw [hE] at hI
  replace hE := Lib.hid hE
  replace hl := Lib.hid hl
  go_enter Tryd.func7, Tryd.ntmps7
  go_upto_region 5 with (go_at_call 21; refine (hI _).mono ?_; rintro e w1 ⟨A1, N, rfl, hF, hk1⟩; obtain ⟨hc1, hf1⟩ := bcell hk1; have hs1 := hk1.size; simp only [World.size_alloc] at hc1 hf1 hs1; have hkw1 : Kept w w1 := (((Below.refl _ w).alloc (Nat.le_refl _) _).alloc (by simp) _).trans (hk1.mono (by simp; omega)))
  have hbx : w1.heap[w.heap.size]? = some (.cells #[.string v, .string p, .string r, .bool rem] 55 (0, 0)) := heap_kept hk1 (heap_past (heap_at _ rfl))
  have hby : w1.heap[w.heap.size + 1]? = some (.cells #[.int .u32 y, .int .u32 z] 57 (0, 0)) := heap_kept hk1 (heap_at _ (by simp))
  have cx0 := cell_heap (o := 0) hbx rfl
  have cx1 := cell_heap (o := 1) hbx rfl
  have cx2 := cell_heap (o := 2) hbx rfl
  have cx3 := cell_heap (o := 3) hbx rfl
  have hlx := heap_lt hbx
  have hly := heap_lt hby
  replace hF := Lib.hid hF
  replace hbx := Lib.hid hbx
  replace hby := Lib.hid hby
  clear hc1 hf1 hk1 hs1 hI
  have hN := hF.out.2 (by rw [hE.out]; omega)
  subst hN
  go_upto_region 15 with (first
  | (with_reducible refine (hRv _).mono ?_; rintro e w9 ⟨rfl, rfl⟩)
  | (with_reducible refine (hRp _).mono ?_; rintro e w9 ⟨rfl, rfl⟩)
  | (with_reducible refine (hRr _).mono ?_; rintro e w9 ⟨rfl, rfl⟩))
  refine inqB A n c bs (w.heap.size + 1) y z w _ (hT.kept hkw1) hy hz hby.out hkw1 hnc (hl.out.kept hkw1) _ ?_
  assumption
set_option maxRecDepth 100000 in
set_option maxHeartbeats 8000000 in
theorem inqA_0_3  (v p r : ByteArray) (rem : Bool) (y z : Nat) (A : Option Addr) (n c : Nat) (bs : List UInt8) (w : World) (hT : Tabs w) (hv : v.size ≤ 30) (hp : p.size ≤ 30) (hr : r.size ≤ 30) (hn : n ≤ 60) (hnc : n ≤ c) (hy : y < 4294967296) (hz : z < 4294967296)
    (hl : Sl byT w (low w.heap.size) A n bs)
    (hRv : ∀ w, Calls Tryd.prog 22 #[.string v] w fun e w' => e = .returned (.bool true) ∧ w = w') (hRp : ∀ w, Calls Tryd.prog 22 #[.string p] w fun e w' => e = .returned (.bool true) ∧ w = w') (hRr : ∀ w, Calls Tryd.prog 22 #[.string r] w fun e w' => e = .returned (.bool false) ∧ w = w')
    (hL1 : (v.size : Int) ≤ 8) (hL2 : (p.size : Int) ≤ 16) (hL3 : (r.size : Int) ≤ 4) (hE : errI v p r = 4) :
    Calls Tryd.prog 7 #[.agg #[.string v, .string p, .string r, .bool rem], .slice A n c, .agg #[.int .u32 y, .int .u32 z]] w fun e w' => e = .returned (.bool true) ∧ Kept w w' := by
  have hvI : (v.size : Int) ≤ 30 := by omega
  have hpI : (p.size : Int) ≤ 30 := by omega
  have hrI : (r.size : Int) ≤ 30 := by omega
  have hnI : (n : Int) ≤ 60 := by omega
  have hI : ∀ w, _ := fun w => einq_all v p r rem w
  rw [hE] at hI
  replace hE := Lib.hid hE
  replace hl := Lib.hid hl
  go_enter Tryd.func7, Tryd.ntmps7
  go_upto_region 5 with (go_at_call 21; refine (hI _).mono ?_; rintro e w1 ⟨A1, N, rfl, hF, hk1⟩; obtain ⟨hc1, hf1⟩ := bcell hk1; have hs1 := hk1.size; simp only [World.size_alloc] at hc1 hf1 hs1; have hkw1 : Kept w w1 := (((Below.refl _ w).alloc (Nat.le_refl _) _).alloc (by simp) _).trans (hk1.mono (by simp; omega)))
  have hbx : w1.heap[w.heap.size]? = some (.cells #[.string v, .string p, .string r, .bool rem] 55 (0, 0)) := heap_kept hk1 (heap_past (heap_at _ rfl))
  have hby : w1.heap[w.heap.size + 1]? = some (.cells #[.int .u32 y, .int .u32 z] 57 (0, 0)) := heap_kept hk1 (heap_at _ (by simp))
  have cx0 := cell_heap (o := 0) hbx rfl
  have cx1 := cell_heap (o := 1) hbx rfl
  have cx2 := cell_heap (o := 2) hbx rfl
  have cx3 := cell_heap (o := 3) hbx rfl
  have hlx := heap_lt hbx
  have hly := heap_lt hby
  replace hF := Lib.hid hF
  replace hbx := Lib.hid hbx
  replace hby := Lib.hid hby
  clear hc1 hf1 hk1 hs1 hI
  have hN := hF.out.2 (by rw [hE.out]; omega)
  subst hN
  go_upto_region 15 with (first
  | (with_reducible refine (hRv _).mono ?_; rintro e w9 ⟨rfl, rfl⟩)
  | (with_reducible refine (hRp _).mono ?_; rintro e w9 ⟨rfl, rfl⟩)
  | (with_reducible refine (hRr _).mono ?_; rintro e w9 ⟨rfl, rfl⟩))
  refine inqB A n c bs (w.heap.size + 1) y z w _ (hT.kept hkw1) hy hz hby.out hkw1 hnc (hl.out.kept hkw1) _ ?_
  assumption
end Go.Proofs.YtfojemocffelhaaDoor
/- CommandsInquiry: an inquiry that is encoded. -/
namespace Go.Proofs.YtfojemocffelhaaDoor
open Go.RowKit Go.Shelf
attribute [local go_sem ↓] Go.wp_at_zero Go.wp_at_succ

theorem own_8 (v p r : ByteArray) (rem : Bool) : ((inqL v.data.toList p.data.toList r.data.toList rem).drop 8).take v.size = v.data.toList := by
  rw [inq_8, padL, List.append_assoc]
  exact List.take_left' (by simp)
theorem own_16 (v p r : ByteArray) (rem : Bool) (hv : v.size ≤ 8) : ((inqL v.data.toList p.data.toList r.data.toList rem).drop 16).take p.size = p.data.toList := by
  rw [inq_16 (by simpa using hv), padL, List.append_assoc]
  exact List.take_left' (by simp)
theorem own_32 (v p r : ByteArray) (rem : Bool) (hv : v.size ≤ 8) (hp : p.size ≤ 16) : ((inqL v.data.toList p.data.toList r.data.toList rem).drop 32).take r.size = r.data.toList := by
  rw [inq_32 (by simpa using hv) (by simpa using hp), padL]
  exact List.take_left' (by simp)
set_option maxRecDepth 100000 in
set_option maxHeartbeats 8000000 in
theorem inqA_0_4  (v p r : ByteArray) (rem : Bool) (y z : Nat) (A : Option Addr) (n c : Nat) (bs : List UInt8) (w : World) (hT : Tabs w) (hv : v.size ≤ 30) (hp : p.size ≤ 30) (hr : r.size ≤ 30) (hn : n ≤ 60) (hnc : n ≤ c) (hy : y < 4294967296) (hz : z < 4294967296)
    (hl : Sl byT w (low w.heap.size) A n bs)
    (hRv : ∀ w, Calls Tryd.prog 22 #[.string v] w fun e w' => e = .returned (.bool true) ∧ w = w') (hRp : ∀ w, Calls Tryd.prog 22 #[.string p] w fun e w' => e = .returned (.bool true) ∧ w = w') (hRr : ∀ w, Calls Tryd.prog 22 #[.string r] w fun e w' => e = .returned (.bool true) ∧ w = w')
    (hL1 : (v.size : Int) ≤ 8) (hL2 : (p.size : Int) ≤ 16) (hL3 : (r.size : Int) ≤ 4) (hE : errI v p r = 0) :
    Calls Tryd.prog 7 #[.agg #[.string v, .string p, .string r, .bool rem], .slice A n c, .agg #[.int .u32 y, .int .u32 z]] w fun e w' => e = .returned (.bool true) ∧ Kept w w' := by
  have hvI : (v.size : Int) ≤ 30 := by omega
  have hpI : (p.size : Int) ≤ 30 := by omega
  have hrI : (r.size : Int) ≤ 30 := by omega
  have hnI : (n : Int) ≤ 60 := by omega
  have hI : ∀ w, _ := fun w => einq_all v p r rem w
  rw [hE] at hI
  replace hE := Lib.hid hE
  replace hl := Lib.hid hl
  go_enter Tryd.func7, Tryd.ntmps7
  go_upto_region 5 with (go_at_call 21; refine (hI _).mono ?_; rintro e w1 ⟨A1, N, rfl, hF, hk1⟩; obtain ⟨hc1, hf1⟩ := bcell hk1; have hs1 := hk1.size; simp only [World.size_alloc] at hc1 hf1 hs1; have hkw1 : Kept w w1 := (((Below.refl _ w).alloc (Nat.le_refl _) _).alloc (by simp) _).trans (hk1.mono (by simp; omega)))
  have hbx : w1.heap[w.heap.size]? = some (.cells #[.string v, .string p, .string r, .bool rem] 55 (0, 0)) := heap_kept hk1 (heap_past (heap_at _ rfl))
  have hby : w1.heap[w.heap.size + 1]? = some (.cells #[.int .u32 y, .int .u32 z] 57 (0, 0)) := heap_kept hk1 (heap_at _ (by simp))
  have cx0 := cell_heap (o := 0) hbx rfl
  have cx1 := cell_heap (o := 1) hbx rfl
  have cx2 := cell_heap (o := 2) hbx rfl
  have cx3 := cell_heap (o := 3) hbx rfl
  have hlx := heap_lt hbx
  have hly := heap_lt hby
  replace hF := Lib.hid hF
  replace hbx := Lib.hid hbx
  replace hby := Lib.hid hby
  clear hc1 hf1 hk1 hs1 hI
  obtain ⟨g, hA1, hN, hg, hB⟩ := hF.out.1 hE.out
  subst hA1 hN
  have hown := fun w' hB' => dinq_own v p r rem w' g hE.out hB'
  replace hB := Lib.hid hB
  replace hown := Lib.hid hown
  clear hF
  go_upto_region 13 with (first
    | (first
  | (with_reducible refine (hRv _).mono ?_; rintro e w9 ⟨rfl, rfl⟩)
  | (with_reducible refine (hRp _).mono ?_; rintro e w9 ⟨rfl, rfl⟩)
  | (with_reducible refine (hRr _).mono ?_; rintro e w9 ⟨rfl, rfl⟩))
    | (go_at_call 23; refine (hown.out _ hB.out).mono ?_; rintro e w2 ⟨rfl, hk2⟩))
  refine wp_at (fun WE => WE.heap[w.heap.size]? = some (.cells #[.string v, .string p, .string r, .bool rem] 55 (0, 0)) ∧ WE.heap[w.heap.size + 1]? = some (.cells #[.int .u32 y, .int .u32 z] 57 (0, 0)) ∧ WE.heap[w2.heap.size]? = some (.cells #[.string v, .string p, .string r, .bool rem] 55 (0, 0)) ∧ Bs WE g 0 (inqL v.data.toList p.data.toList r.data.toList rem) ∧ Kept w1 WE)
    ⟨heap_past (heap_kept hk2 hbx.out), heap_past (heap_kept hk2 hby.out), heap_at _ rfl, hB.out.kept (hk2.trans ((Below.refl _ _).alloc hk2.size _)), hk2.trans ((Below.refl _ _).alloc hk2.size _)⟩ (fun WE hWE => ?_)
  obtain ⟨hbxE, hbyE, hgE, hBE, hkE⟩ := hWE
  obtain ⟨G, hG⟩ : ∃ G, w2.heap.size = G := ⟨_, rfl⟩
  rw [hG] at hgE ⊢
  have hkF : Kept w WE := hkw1.trans (hkE.mono hkw1.size)
  clear hG hk2 w2 hB hbx hby hkE cx0 cx1 cx2 cx3 hlx hly hown
  have cx0 := cell_heap (o := 0) hbxE rfl
  have cx1 := cell_heap (o := 1) hbxE rfl
  have cx2 := cell_heap (o := 2) hbxE rfl
  have cx3 := cell_heap (o := 3) hbxE rfl
  have cg0 := cell_heap (o := 0) hgE rfl
  have cg1 := cell_heap (o := 1) hgE rfl
  have cg2 := cell_heap (o := 2) hgE rfl
  have cg3 := cell_heap (o := 3) hgE rfl
  have lx := heap_lt hbxE
  have lG := heap_lt hgE
  have lg := hBE.1
  have b2 : WE.cell? ⟨g, 2, none⟩ = some (.int .u8 4) := by have := hBE.2 2 4 rfl; rwa [Nat.zero_add] at this
  have b3 : WE.cell? ⟨g, 3, none⟩ = some (.int .u8 2) := by have := hBE.2 3 2 rfl; rwa [Nat.zero_add] at this
  have b4 : WE.cell? ⟨g, 4, none⟩ = some (.int .u8 31) := by have := hBE.2 4 31 rfl; rwa [Nat.zero_add] at this
  have hcv : ∀ (i : Nat) (t : ByteArray), ((inqL v.data.toList p.data.toList r.data.toList rem).drop i).take t.size = t.data.toList → ∀ q, (convert 32 9 (.slice (some ⟨g, i, none⟩) t.size (36 - i))).run Tryd.prog (WE.drewN q) = .ok (.string t) (WE.drewN q) := fun i t ht q => by
    have h := ((((hBE.kept (below_drewN (Below.refl _ _) q)).drop i).take t.size)).conv t.size (36 - i) (by rw [ht]; simp)
    rw [ht, str_back, Nat.zero_add] at h
    exact h
  have k1 : ∀ q, (convert 32 9 (.slice (some ⟨g, 8, none⟩) v.size 28)).run Tryd.prog (WE.drewN q) = .ok (.string v) (WE.drewN q) := hcv 8 v (own_8 _ _ _ _)
  have k2 : ∀ q, (convert 32 9 (.slice (some ⟨g, 16, none⟩) p.size 20)).run Tryd.prog (WE.drewN q) = .ok (.string p) (WE.drewN q) := hcv 16 p (own_16 _ _ _ _ (by omega))
  have k3 : ∀ q, (convert 32 9 (.slice (some ⟨g, 32, none⟩) r.size 4)).run Tryd.prog (WE.drewN q) = .ok (.string r) (WE.drewN q) := hcv 32 r (own_32 _ _ _ _ (by omega) (by omega))
  have e1 : (8 + (v.size : Int)).toNat - 8 = v.size := by omega
  have e2 : (16 + (p.size : Int)).toNat - 16 = p.size := by omega
  have e3 : (32 + (r.size : Int)).toNat - 32 = r.size := by omega
  clear hcv
  have w1' : IntKind.i64.wrap (8 + (v.size : Int)) = 8 + (v.size : Int) := IntWalk.i64_in _ ⟨by omega, by omega⟩
  have w2' : IntKind.i64.wrap (16 + (p.size : Int)) = 16 + (p.size : Int) := IntWalk.i64_in _ ⟨by omega, by omega⟩
  have w3' : IntKind.i64.wrap (32 + (r.size : Int)) = 32 + (r.size : Int) := IntWalk.i64_in _ ⟨by omega, by omega⟩
  have q1 : 8 + (v.size : Int) ≤ 36 := by omega
  have q2 : 16 + (p.size : Int) ≤ 36 := by omega
  have q3 : 32 + (r.size : Int) ≤ 36 := by omega
  have q4 : (8 : Int) ≤ 8 + (v.size : Int) := by omega
  have q5 : (16 : Int) ≤ 16 + (p.size : Int) := by omega
  have q6 : (32 : Int) ≤ 32 + (r.size : Int) := by omega
  replace hBE := Lib.hid hBE
  replace hbyE := Lib.hid hbyE
  clear hbxE hgE
  go_quiet (fail)
  have hkq : Kept WE (WE.drewN nq) := below_drewN (Below.refl _ _) nq
  have hkG := hkF.trans (hkq.mono hkF.size)
  clear k1 k2 k3
  go_upto_region 15 with fail
  refine inqB A n c bs (w.heap.size + 1) y z w _ (hT.kept hkG) hy hz (heap_kept hkq hbyE.out) hkG hnc (hl.out.kept hkG) _ ?_
  assumption
end Go.Proofs.YtfojemocffelhaaDoor
