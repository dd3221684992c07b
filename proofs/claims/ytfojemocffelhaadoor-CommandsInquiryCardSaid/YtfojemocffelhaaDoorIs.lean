

/- CommandsInquiry: a text of another form. -/
import Derived.Test.YtfojemocffelhaaDoorChecked
import Derived.Deep.RegionHeld3
import Derived.Deep.DrawnRows
import Derived.Deep.DeepCutAuto
import Derived.Deep.LoopGhost
import Derived.Outline
import Derived.Handy
import Derived.OwnWalk
import Derived.Test.YtfojemocffelhaaDoorIo
set_option linter.unusedVariables false
set_option linter.unusedSimpArgs false
set_option linter.unusedSectionVars false
namespace Go.Proofs.YtfojemocffelhaaDoor
open Go.RowKit Go.Shelf
attribute [local go_sem ↓] Go.wp_at_zero Go.wp_at_succ

set_option maxRecDepth 100000 in
set_option maxHeartbeats 8000000 in
theorem inqA_0_1 (b2 b3 : Bool) (v p r : ByteArray) (rem : Bool) (y z : Nat) (A : Option Addr) (n c : Nat) (bs : List UInt8) (w : World) (hT : Tabs w) (hv : v.size ≤ 30) (hp : p.size ≤ 30) (hr : r.size ≤ 30) (hn : n ≤ 60) (hnc : n ≤ c) (hy : y < 4294967296) (hz : z < 4294967296)
    (hl : Sl byT w (low w.heap.size) A n bs)
    (hRv : ∀ w, Calls Tryd.prog 22 #[.string v] w fun e w' => e = .returned (.bool false) ∧ w = w') (hRp : ∀ w, Calls Tryd.prog 22 #[.string p] w fun e w' => e = .returned (.bool b2) ∧ w = w') (hRr : ∀ w, Calls Tryd.prog 22 #[.string r] w fun e w' => e = .returned (.bool b3) ∧ w = w')
    (hL1 : (v.size : Int) ≤ 8) (hL2 : (p.size : Int) ≤ 16) (hL3 : (r.size : Int) ≤ 4) (hE : errI v p r = 4) :
    Calls Tryd.prog 7 #[.agg #[.string v, .string p, .string r, .bool rem], .slice A n c, .agg #[.int .u32 y, .int .u32 z]] w fun e w' => e = .returned (.bool true) ∧ Kept w w' := by
  have hvI : (v.size : Int) ≤ 30 := by omega
  have hpI : (p.size : Int) ≤ 30 := by omega
  have hrI : (r.size : Int) ≤ 30 := by omega
  have hnI : (n : Int) ≤ 60 := by omega
  have hI : ∀ w, _ := fun w => einq_all v p r rem w
  rw [hE] at hI
  replace hE := Lib.hid hE
  replace hl := Lib.hid hl
  go_enter Tryd.func7, Tryd.ntmps7
  go_upto_region 5 with (go_at_call 21; refine (hI _).mono ?_; rintro e w1 ⟨A1, N, rfl, hF, hk1⟩; obtain ⟨hc1, hf1⟩ := bcell hk1; have hs1 := hk1.size; simp only [World.size_alloc] at hc1 hf1 hs1; have hkw1 : Kept w w1 := (((Below.refl _ w).alloc (Nat.le_refl _) _).alloc (by simp) _).trans (hk1.mono (by simp; omega)))
  have hbx : w1.heap[w.heap.size]? = some (.cells #[.string v, .string p, .string r, .bool rem] 55 (0, 0)) := heap_kept hk1 (heap_past (heap_at _ rfl))
  have hby : w1.heap[w.heap.size + 1]? = some (.cells #[.int .u32 y, .int .u32 z] 57 (0, 0)) := heap_kept hk1 (heap_at _ (by simp))
  have cx0 := cell_heap (o := 0) hbx rfl
  have cx1 := cell_heap (o := 1) hbx rfl
  have cx2 := cell_heap (o := 2) hbx rfl
  have cx3 := cell_heap (o := 3) hbx rfl
  have hlx := heap_lt hbx
  have hly := heap_lt hby
  replace hF := Lib.hid hF
  replace hbx := Lib.hid hbx
  replace hby := Lib.hid hby
  clear hc1 hf1 hk1 hs1 hI
  have hN := hF.out.2 (by rw [hE.out]; omega)
  subst hN
  go_upto_region 15 with (first
  | (with_reducible refine (hRv _).mono ?_; rintro e w9 ⟨rfl, rfl⟩)
  | (with_reducible refine (hRp _).mono ?_; rintro e w9 ⟨rfl, rfl⟩)
  | (with_reducible refine (hRr _).mono ?_; rintro e w9 ⟨rfl, rfl⟩))
  refine inqB A n c bs (w.heap.size + 1) y z w _ (hT.kept hkw1) hy hz hby.out hkw1 hnc (hl.out.kept hkw1) _ ?_
  assumption
set_option maxRecDepth 100000 in
set_option maxHeartbeats 8000000 in
theorem inqA_0_2 (b3 : Bool) (v p r : ByteArray) (rem : Bool) (y z : Nat) (A : Option Addr) (n c : Nat) (bs : List UInt8) (w : World) (hT : Tabs w) (hv : v.size ≤ 30) (hp : p.size ≤ 30) (hr : r.size ≤ 30) (hn : n ≤ 60) (hnc : n ≤ c) (hy : y < 4294967296) (hz : z < 4294967296)
    (hl : Sl byT w (low w.heap.size) A n bs)
    (hRv : ∀ w, Calls Tryd.prog 22 #[.string v] w fun e w' => e = .returned (.bool true) ∧ w = w') (hRp : ∀ w, Calls Tryd.prog 22 #[.string p] w fun e w' => e = .returned (.bool false) ∧ w = w') (hRr : ∀ w, Calls Tryd.prog 22 #[.string r] w fun e w' => e = .returned (.bool b3) ∧ w = w')
    (hL1 : (v.size : Int) ≤ 8) (hL2 : (p.size : Int) ≤ 16) (hL3 : (r.size : Int) ≤ 4) (hE : errI v p r = 4) :
    Calls Tryd.prog 7 #[.agg #[.string v, .string p, .string r, .bool rem], .slice A n c, .agg #[.int .u32 y, .int .u32 z]] w fun e w' => e = .returned (.bool true) ∧ Kept w w' := by
  have hvI : (v.size : Int) ≤ 30 := by omega
  have hpI : (p.size : Int) ≤ 30 := by omega
  have hrI : (r.size : Int) ≤ 30 := by omega
  have hnI : (n : Int) ≤ 60 := by omega
  have hI : ∀ w, _ := fun w => einq_all v p r rem w
  rw [hE] at hI
  replace hE := Lib.hid hE
  replace hl := Lib.hid hl
  go_enter Tryd.func7, Tryd.ntmps7
  go_upto_region 5 with (go_at_call 21; refine (hI _).mono ?_; rintro e w1 ⟨A1, N, rfl, hF, hk1⟩; obtain ⟨hc1, hf1⟩ := bcell hk1; have hs1 := hk1.size; simp only [World.size_alloc] at hc1 hf1 hs1; have hkw1 : Kept w w1 := (((Below.refl _ w).alloc (Nat.le_refl _) _).alloc (by simp) _).trans (hk1.mono (by simp; omega)))
  have hbx : w1.heap[w.heap.size]? = some (.cells #[.string v, .string p, .string r, .bool rem] 55 (0, 0)) := heap_kept hk1 (heap_past (heap_at _ rfl))
  have hby : w1.heap[w.heap.size + 1]? = some (.cells #[.int .u32 y, .int .u32 z] 57 (0, 0)) := heap_kept hk1 (heap_at _ (by simp))
  have cx0 := cell_heap (o := 0) hbx rfl
  have cx1 := cell_heap (o := 1) hbx rfl
  have cx2 := cell_heap (o := 2) hbx rfl
  have cx3 := cell_heap (o := 3) hbx rfl
  have hlx := heap_lt hbx
  have hly := heap_lt hby
  replace hF := Lib.hid hF
  replace hbx := Lib.hid hbx
  replace hby := Lib.hid hby
  clear hc1 hf1 hk1 hs1 hI
  have hN := hF.out.2 (by rw [hE.out]; omega)
  subst hN
  go_upto_region 15 with (first
  | (with_reducible refine (hRv _).mono ?_; rintro e w9 ⟨rfl, rfl⟩)
  | (with_reducible refine (hRp _).mono ?_; rintro e w9 ⟨rfl, rfl⟩)
  | (with_reducible refine (hRr _).mono ?_; rintro e w9 ⟨rfl, rfl⟩))
  refine inqB A n c bs (w.heap.size + 1) y z w _ (hT.kept hkw1) hy hz hby.out hkw1 hnc (hl.out.kept hkw1) _ ?_
  assumption
set_option maxRecDepth 100000 in
set_option maxHeartbeats 8000000 in
theorem inqA_0_3  (v p r : ByteArray) (rem : Bool) (y z : Nat) (A : Option Addr) (n c : Nat) (bs : List UInt8) (w : World) (hT : Tabs w) (hv : v.size ≤ 30) (hp : p.size ≤ 30) (hr : r.size ≤ 30) (hn : n ≤ 60) (hnc : n ≤ c) (hy : y < 4294967296) (hz : z < 4294967296)
    (hl : Sl byT w (low w.heap.size) A n bs)
    (hRv : ∀ w, Calls Tryd.prog 22 #[.string v] w fun e w' => e = .returned (.bool true) ∧ w = w') (hRp : ∀ w, Calls Tryd.prog 22 #[.string p] w fun e w' => e = .returned (.bool true) ∧ w = w') (hRr : ∀ w, Calls Tryd.prog 22 #[.string r] w fun e w' => e = .returned (.bool false) ∧ w = w')
    (hL1 : (v.size : Int) ≤ 8) (hL2 : (p.size : Int) ≤ 16) (hL3 : (r.size : Int) ≤ 4) (hE : errI v p r = 4) :
    Calls Tryd.prog 7 #[.agg #[.string v, .string p, .string r, .bool rem], .slice A n c, .agg #[.int .u32 y, .int .u32 z]] w fun e w' => e = .returned (.bool true) ∧ Kept w w' := by
  have hvI : (v.size : Int) ≤ 30 := by omega
  have hpI : (p.size : Int) ≤ 30 := by omega
  have hrI : (r.size : Int) ≤ 30 := by omega
  have hnI : (n : Int) ≤ 60 := by omega
  have hI : ∀ w, _ := fun w => einq_all v p r rem w
  rw [hE] at hI
  replace hE := Lib.hid hE
  replace hl := Lib.hid hl
  go_enter Tryd.func7, Tryd.ntmps7
  go_upto_region 5 with (go_at_call 21; refine (hI _).mono ?_; rintro e w1 ⟨A1, N, rfl, hF, hk1⟩; obtain ⟨hc1, hf1⟩ := bcell hk1; have hs1 := hk1.size; simp only [World.size_alloc] at hc1 hf1 hs1; have hkw1 : Kept w w1 := (((Below.refl _ w).alloc (Nat.le_refl _) _).alloc (by simp) _).trans (hk1.mono (by simp; omega)))
  have hbx : w1.heap[w.heap.size]? = some (.cells #[.string v, .string p, .string r, .bool rem] 55 (0, 0)) := heap_kept hk1 (heap_past (heap_at _ rfl))
  have hby : w1.heap[w.heap.size + 1]? = some (.cells #[.int .u32 y, .int .u32 z] 57 (0, 0)) := heap_kept hk1 (heap_at _ (by simp))
  have cx0 := cell_heap (o := 0) hbx rfl
  have cx1 := cell_heap (o := 1) hbx rfl
  have cx2 := cell_heap (o := 2) hbx rfl
  have cx3 := cell_heap (o := 3) hbx rfl
  have hlx := heap_lt hbx
  have hly := heap_lt hby
  replace hF := Lib.hid hF
  replace hbx := Lib.hid hbx
  replace hby := Lib.hid hby
  clear hc1 hf1 hk1 hs1 hI
  have hN := hF.out.2 (by rw [hE.out]; omega)
  subst hN
  go_upto_region 15 with (first
  | (with_reducible refine (hRv _).mono ?_; rintro e w9 ⟨rfl, rfl⟩)
  | (with_reducible refine (hRp _).mono ?_; rintro e w9 ⟨rfl, rfl⟩)
  | (with_reducible refine (hRr _).mono ?_; rintro e w9 ⟨rfl, rfl⟩))
  refine inqB A n c bs (w.heap.size + 1) y z w _ (hT.kept hkw1) hy hz hby.out hkw1 hnc (hl.out.kept hkw1) _ ?_
  assumption
end Go.Proofs.YtfojemocffelhaaDoor
