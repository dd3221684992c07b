

/- CommandsDecode: the first cases. -/
import Derived.Test.YtfojemocffelhaaDoorChecked
import Derived.Deep.RegionHeld3
import Derived.Deep.DrawnRows
import Derived.Deep.DeepCutAuto
import Derived.Deep.LoopGhost
import Derived.Outline
import Derived.Handy
import Derived.OwnWalk
import Derived.Test.YtfojemocffelhaaDoorSu
import Derived.Test.YtfojemocffelhaaDoorSv
import Derived.Test.YtfojemocffelhaaDoorSl
set_option linter.unusedVariables false
set_option linter.unusedSimpArgs false
set_option linter.unusedSectionVars false
namespace Go.Proofs.YtfojemocffelhaaDoor
open Go.RowKit
attribute [local go_sem ↓] Go.wp_at_zero Go.wp_at_succ

theorem cell_other {w : World} {p : Addr} {g o : Nat} {v : Value} {u : Option Value} (hne : g ≠ p.block) (h : w.cell? ⟨g, o, none⟩ = u) : (w.setCell p v).cell? ⟨g, o, none⟩ = u :=
  (World.cell?_setCell_other w p ⟨g, o, none⟩ v (fun e => hne (by rw [e]))).trans h
theorem beqz (x : UInt8) : ((x.toNat : Int) == 0) = (x == 0) := by
  rw [Bool.eq_iff_iff]
  simp only [beq_iff_eq]
  constructor
  · intro h
    exact UInt8.toNat_inj.1 (show x.toNat = 0 by omega)
  · intro h
    subst h
    rfl
def zUp (bs : List UInt8) (wd j : Nat) : Bool := ((bs.take j).drop wd).all (· == 0)
theorem zUp_start (bs : List UInt8) (wd : Nat) : zUp bs wd wd = true := by
  unfold zUp
  rw [List.drop_eq_nil_of_le (by rw [List.length_take]; omega)]
  rfl
theorem zUp_end (bs : List UInt8) (wd : Nat) : zUp bs wd bs.length = (bs.drop wd).all (· == 0) := by
  unfold zUp
  rw [List.take_length]
theorem zUp_succ {bs : List UInt8} {wd j : Nat} {x : UInt8} (hx : bs[j]? = some x) (hj : wd ≤ j) : zUp bs wd (j + 1) = (zUp bs wd j && (x == 0)) := by
  obtain ⟨h, e⟩ := List.getElem?_eq_some_iff.1 hx
  unfold zUp
  rw [List.take_succ_eq_append_getElem h, List.drop_append_of_le_length (by rw [List.length_take]; omega), List.all_append, e]
  simp
set_option maxRecDepth 100000 in
theorem jd_long (A : Option Addr) (n cp : Nat) (w : World) (hT : Tabs w) (hn : 40 < n) : Calls Tryd.prog 6 #[.slice A n cp] w fun e w' => e = .returned (.bool true) ∧ Kept w w' := by
  have hn' : (40 : Int) < (n : Int) := by omega
  go_enter Tryd.func6, Tryd.ntmps6
  go_wp2_with (go_at_call 14; refine (lives_any _ hT).mono ?_; rintro e w9 ⟨rfl, hk9⟩)
  go_ret
  exact ⟨rfl, hk9⟩
set_option maxRecDepth 100000 in
set_option maxHeartbeats 1000000 in
theorem jd_empty (A : Option Addr) (cp : Nat) (w : World) (hT : Tabs w) (hdec : Calls Tryd.prog 20 #[.slice A 0 cp] w fun e w' => e = .returned (.tuple #[.agg #[.int .u8 0, .int .u32 0, .int .u16 0, .int .i64 0], .int .i64 4]) ∧ Kept w w') :
    Calls Tryd.prog 6 #[.slice A 0 cp] w fun e w' => e = .returned (.bool true) ∧ Kept w w' := by
  go_enter Tryd.func6, Tryd.ntmps6
  go_wp2_with (first
    | (go_at_call 20; refine hdec.mono ?_; rintro e w1 ⟨rfl, hk1⟩; obtain ⟨hc1, hf1⟩ := bcell hk1; have hs1 := hk1.size; have hT1 := hT.kept hk1)
    | (go_at_call 14; refine (lives_any _ (by exact hT.kept (by go_grown))).mono ?_; rintro e w9 ⟨rfl, hk9⟩; have hkw9 : Kept w w9 := Below.trans (by go_grown) (hk9.mono (by (try simp) <;> omega))))
  go_ret
  exact ⟨rfl, hkw9⟩
set_option maxRecDepth 100000 in
set_option maxHeartbeats 1000000 in
theorem jd_no (op : Int) (g0 off n cp : Nat) (w : World) (hT : Tabs w) (hn : 0 < n) (hn' : n ≤ 40) (hb : g0 < w.heap.size) (z0 : w.cell? ⟨g0, off, none⟩ = some (.int .u8 op)) (h : ∀ f ∈ formsL, (f.op : Int) ≠ op)
    (hdec : Calls Tryd.prog 20 #[.slice (some ⟨g0, off, none⟩) n cp] w fun e w' => e = .returned (.tuple #[.agg #[.int .u8 0, .int .u32 0, .int .u16 0, .int .i64 0], .int .i64 4]) ∧ Kept w w') : Calls Tryd.prog 6 #[.slice (some ⟨g0, off, none⟩) n cp] w fun e w' => e = .returned (.bool true) ∧ Kept w w' := by
  obtain ⟨n0, n3, n18, n37, n40, n42, n53⟩ := properZ_none op h
  have hn0 : (0 : Int) < (n : Int) := by omega
  have hn40 : (n : Int) ≤ 40 := by omega
  clear h
  go_enter Tryd.func6, Tryd.ntmps6
  go_wp2_with (first | (go_at_call 20; refine hdec.mono ?_; rintro e w1 ⟨rfl, hk1⟩; obtain ⟨hc1, hf1⟩ := bcell hk1; have hs1 := hk1.size; have hT1 := hT.kept hk1; have hne1 : g0 ≠ w1.heap.size := (by omega); have hne2 : g0 ≠ w1.heap.size + 1 := (by omega); have hlt1 : g0 < w1.heap.size := (by omega)) | (go_at_call 14; refine (lives_any _ (by exact hT.kept (by go_grown))).mono ?_; rintro e w9 ⟨rfl, hk9⟩; have hkw9 : Kept w w9 := Below.trans (by go_grown) (hk9.mono (by (try simp) <;> omega))))
  go_ret
  exact ⟨rfl, hkw9⟩
set_option maxRecDepth 100000 in
set_option maxHeartbeats 1000000 in
theorem jd_width_0 (g0 off n cp : Nat) (w : World) (hT : Tabs w) (hn : 0 < n) (hn' : n ≤ 40) (hwd : n < 6 ∨ 16 < n) (hb : g0 < w.heap.size) (z0 : w.cell? ⟨g0, off, none⟩ = some (.int .u8 0))
    (hdec : Calls Tryd.prog 20 #[.slice (some ⟨g0, off, none⟩) n cp] w fun e w' => e = .returned (.tuple #[.agg #[.int .u8 0, .int .u32 0, .int .u16 0, .int .i64 0], .int .i64 5]) ∧ Kept w w') : Calls Tryd.prog 6 #[.slice (some ⟨g0, off, none⟩) n cp] w fun e w' => e = .returned (.bool true) ∧ Kept w w' := by
  have hn0 : (0 : Int) < (n : Int) := by omega
  have hn40 : (n : Int) ≤ 40 := by omega
  by_cases h1 : n < 6
  · have h1' : (n : Int) < 6 := by omega
    clear hwd
    go_enter Tryd.func6, Tryd.ntmps6
    go_wp2_with (first | (go_at_call 20; refine hdec.mono ?_; rintro e w1 ⟨rfl, hk1⟩; obtain ⟨hc1, hf1⟩ := bcell hk1; have hs1 := hk1.size; have hT1 := hT.kept hk1; have hne1 : g0 ≠ w1.heap.size := (by omega); have hne2 : g0 ≠ w1.heap.size + 1 := (by omega); have hlt1 : g0 < w1.heap.size := (by omega)) | (go_at_call 14; refine (lives_any _ (by exact hT.kept (by go_grown))).mono ?_; rintro e w9 ⟨rfl, hk9⟩; have hkw9 : Kept w w9 := Below.trans (by go_grown) (hk9.mono (by (try simp) <;> omega))))
    go_ret
    exact ⟨rfl, hkw9⟩
  · have h1' : (6 : Int) ≤ (n : Int) := by omega
    have h2' : 16 < (n : Int) := by omega
    clear hwd
    go_enter Tryd.func6, Tryd.ntmps6
    go_wp2_with (first | (go_at_call 20; refine hdec.mono ?_; rintro e w1 ⟨rfl, hk1⟩; obtain ⟨hc1, hf1⟩ := bcell hk1; have hs1 := hk1.size; have hT1 := hT.kept hk1; have hne1 : g0 ≠ w1.heap.size := (by omega); have hne2 : g0 ≠ w1.heap.size + 1 := (by omega); have hlt1 : g0 < w1.heap.size := (by omega)) | (go_at_call 14; refine (lives_any _ (by exact hT.kept (by go_grown))).mono ?_; rintro e w9 ⟨rfl, hk9⟩; have hkw9 : Kept w w9 := Below.trans (by go_grown) (hk9.mono (by (try simp) <;> omega))))
    go_ret
    exact ⟨rfl, hkw9⟩
set_option maxRecDepth 100000 in
set_option maxHeartbeats 1000000 in
theorem jd_width_3 (g0 off n cp : Nat) (w : World) (hT : Tabs w) (hn : 0 < n) (hn' : n ≤ 40) (hwd : n < 6 ∨ 16 < n) (hb : g0 < w.heap.size) (z0 : w.cell? ⟨g0, off, none⟩ = some (.int .u8 3))
    (hdec : Calls Tryd.prog 20 #[.slice (some ⟨g0, off, none⟩) n cp] w fun e w' => e = .returned (.tuple #[.agg #[.int .u8 0, .int .u32 0, .int .u16 0, .int .i64 0], .int .i64 5]) ∧ Kept w w') : Calls Tryd.prog 6 #[.slice (some ⟨g0, off, none⟩) n cp] w fun e w' => e = .returned (.bool true) ∧ Kept w w' := by
  have hn0 : (0 : Int) < (n : Int) := by omega
  have hn40 : (n : Int) ≤ 40 := by omega
  by_cases h1 : n < 6
  · have h1' : (n : Int) < 6 := by omega
    clear hwd
    go_enter Tryd.func6, Tryd.ntmps6
    go_wp2_with (first | (go_at_call 20; refine hdec.mono ?_; rintro e w1 ⟨rfl, hk1⟩; obtain ⟨hc1, hf1⟩ := bcell hk1; have hs1 := hk1.size; have hT1 := hT.kept hk1; have hne1 : g0 ≠ w1.heap.size := (by omega); have hne2 : g0 ≠ w1.heap.size + 1 := (by omega); have hlt1 : g0 < w1.heap.size := (by omega)) | (go_at_call 14; refine (lives_any _ (by exact hT.kept (by go_grown))).mono ?_; rintro e w9 ⟨rfl, hk9⟩; have hkw9 : Kept w w9 := Below.trans (by go_grown) (hk9.mono (by (try simp) <;> omega))))
    go_ret
    exact ⟨rfl, hkw9⟩
  · have h1' : (6 : Int) ≤ (n : Int) := by omega
    have h2' : 16 < (n : Int) := by omega
    clear hwd
    go_enter Tryd.func6, Tryd.ntmps6
    go_wp2_with (first | (go_at_call 20; refine hdec.mono ?_; rintro e w1 ⟨rfl, hk1⟩; obtain ⟨hc1, hf1⟩ := bcell hk1; have hs1 := hk1.size; have hT1 := hT.kept hk1; have hne1 : g0 ≠ w1.heap.size := (by omega); have hne2 : g0 ≠ w1.heap.size + 1 := (by omega); have hlt1 : g0 < w1.heap.size := (by omega)) | (go_at_call 14; refine (lives_any _ (by exact hT.kept (by go_grown))).mono ?_; rintro e w9 ⟨rfl, hk9⟩; have hkw9 : Kept w w9 := Below.trans (by go_grown) (hk9.mono (by (try simp) <;> omega))))
    go_ret
    exact ⟨rfl, hkw9⟩
set_option maxRecDepth 100000 in
set_option maxHeartbeats 1000000 in
theorem jd_width_18 (g0 off n cp : Nat) (w : World) (hT : Tabs w) (hn : 0 < n) (hn' : n ≤ 40) (hwd : n < 6 ∨ 16 < n) (hb : g0 < w.heap.size) (z0 : w.cell? ⟨g0, off, none⟩ = some (.int .u8 18))
    (hdec : Calls Tryd.prog 20 #[.slice (some ⟨g0, off, none⟩) n cp] w fun e w' => e = .returned (.tuple #[.agg #[.int .u8 0, .int .u32 0, .int .u16 0, .int .i64 0], .int .i64 5]) ∧ Kept w w') : Calls Tryd.prog 6 #[.slice (some ⟨g0, off, none⟩) n cp] w fun e w' => e = .returned (.bool true) ∧ Kept w w' := by
  have hn0 : (0 : Int) < (n : Int) := by omega
  have hn40 : (n : Int) ≤ 40 := by omega
  by_cases h1 : n < 6
  · have h1' : (n : Int) < 6 := by omega
    clear hwd
    go_enter Tryd.func6, Tryd.ntmps6
    go_wp2_with (first | (go_at_call 20; refine hdec.mono ?_; rintro e w1 ⟨rfl, hk1⟩; obtain ⟨hc1, hf1⟩ := bcell hk1; have hs1 := hk1.size; have hT1 := hT.kept hk1; have hne1 : g0 ≠ w1.heap.size := (by omega); have hne2 : g0 ≠ w1.heap.size + 1 := (by omega); have hlt1 : g0 < w1.heap.size := (by omega)) | (go_at_call 14; refine (lives_any _ (by exact hT.kept (by go_grown))).mono ?_; rintro e w9 ⟨rfl, hk9⟩; have hkw9 : Kept w w9 := Below.trans (by go_grown) (hk9.mono (by (try simp) <;> omega))))
    go_ret
    exact ⟨rfl, hkw9⟩
  · have h1' : (6 : Int) ≤ (n : Int) := by omega
    have h2' : 16 < (n : Int) := by omega
    clear hwd
    go_enter Tryd.func6, Tryd.ntmps6
    go_wp2_with (first | (go_at_call 20; refine hdec.mono ?_; rintro e w1 ⟨rfl, hk1⟩; obtain ⟨hc1, hf1⟩ := bcell hk1; have hs1 := hk1.size; have hT1 := hT.kept hk1; have hne1 : g0 ≠ w1.heap.size := (by omega); have hne2 : g0 ≠ w1.heap.size + 1 := (by omega); have hlt1 : g0 < w1.heap.size := (by omega)) | (go_at_call 14; refine (lives_any _ (by exact hT.kept (by go_grown))).mono ?_; rintro e w9 ⟨rfl, hk9⟩; have hkw9 : Kept w w9 := Below.trans (by go_grown) (hk9.mono (by (try simp) <;> omega))))
    go_ret
    exact ⟨rfl, hkw9⟩
set_option maxRecDepth 100000 in
set_option maxHeartbeats 1000000 in
theorem jd_width_37 (g0 off n cp : Nat) (w : World) (hT : Tabs w) (hn : 0 < n) (hn' : n ≤ 40) (hwd : n < 10 ∨ 16 < n) (hb : g0 < w.heap.size) (z0 : w.cell? ⟨g0, off, none⟩ = some (.int .u8 37))
    (hdec : Calls Tryd.prog 20 #[.slice (some ⟨g0, off, none⟩) n cp] w fun e w' => e = .returned (.tuple #[.agg #[.int .u8 0, .int .u32 0, .int .u16 0, .int .i64 0], .int .i64 5]) ∧ Kept w w') : Calls Tryd.prog 6 #[.slice (some ⟨g0, off, none⟩) n cp] w fun e w' => e = .returned (.bool true) ∧ Kept w w' := by
  have hn0 : (0 : Int) < (n : Int) := by omega
  have hn40 : (n : Int) ≤ 40 := by omega
  by_cases h1 : n < 10
  · have h1' : (n : Int) < 10 := by omega
    clear hwd
    go_enter Tryd.func6, Tryd.ntmps6
    go_wp2_with (first | (go_at_call 20; refine hdec.mono ?_; rintro e w1 ⟨rfl, hk1⟩; obtain ⟨hc1, hf1⟩ := bcell hk1; have hs1 := hk1.size; have hT1 := hT.kept hk1; have hne1 : g0 ≠ w1.heap.size := (by omega); have hne2 : g0 ≠ w1.heap.size + 1 := (by omega); have hlt1 : g0 < w1.heap.size := (by omega)) | (go_at_call 14; refine (lives_any _ (by exact hT.kept (by go_grown))).mono ?_; rintro e w9 ⟨rfl, hk9⟩; have hkw9 : Kept w w9 := Below.trans (by go_grown) (hk9.mono (by (try simp) <;> omega))))
    go_ret
    exact ⟨rfl, hkw9⟩
  · have h1' : (10 : Int) ≤ (n : Int) := by omega
    have h2' : 16 < (n : Int) := by omega
    clear hwd
    go_enter Tryd.func6, Tryd.ntmps6
    go_wp2_with (first | (go_at_call 20; refine hdec.mono ?_; rintro e w1 ⟨rfl, hk1⟩; obtain ⟨hc1, hf1⟩ := bcell hk1; have hs1 := hk1.size; have hT1 := hT.kept hk1; have hne1 : g0 ≠ w1.heap.size := (by omega); have hne2 : g0 ≠ w1.heap.size + 1 := (by omega); have hlt1 : g0 < w1.heap.size := (by omega)) | (go_at_call 14; refine (lives_any _ (by exact hT.kept (by go_grown))).mono ?_; rintro e w9 ⟨rfl, hk9⟩; have hkw9 : Kept w w9 := Below.trans (by go_grown) (hk9.mono (by (try simp) <;> omega))))
    go_ret
    exact ⟨rfl, hkw9⟩
set_option maxRecDepth 100000 in
set_option maxHeartbeats 1000000 in
theorem jd_width_40 (g0 off n cp : Nat) (w : World) (hT : Tabs w) (hn : 0 < n) (hn' : n ≤ 40) (hwd : n < 10 ∨ 16 < n) (hb : g0 < w.heap.size) (z0 : w.cell? ⟨g0, off, none⟩ = some (.int .u8 40))
    (hdec : Calls Tryd.prog 20 #[.slice (some ⟨g0, off, none⟩) n cp] w fun e w' => e = .returned (.tuple #[.agg #[.int .u8 0, .int .u32 0, .int .u16 0, .int .i64 0], .int .i64 5]) ∧ Kept w w') : Calls Tryd.prog 6 #[.slice (some ⟨g0, off, none⟩) n cp] w fun e w' => e = .returned (.bool true) ∧ Kept w w' := by
  have hn0 : (0 : Int) < (n : Int) := by omega
  have hn40 : (n : Int) ≤ 40 := by omega
  by_cases h1 : n < 10
  · have h1' : (n : Int) < 10 := by omega
    clear hwd
    go_enter Tryd.func6, Tryd.ntmps6
    go_wp2_with (first | (go_at_call 20; refine hdec.mono ?_; rintro e w1 ⟨rfl, hk1⟩; obtain ⟨hc1, hf1⟩ := bcell hk1; have hs1 := hk1.size; have hT1 := hT.kept hk1; have hne1 : g0 ≠ w1.heap.size := (by omega); have hne2 : g0 ≠ w1.heap.size + 1 := (by omega); have hlt1 : g0 < w1.heap.size := (by omega)) | (go_at_call 14; refine (lives_any _ (by exact hT.kept (by go_grown))).mono ?_; rintro e w9 ⟨rfl, hk9⟩; have hkw9 : Kept w w9 := Below.trans (by go_grown) (hk9.mono (by (try simp) <;> omega))))
    go_ret
    exact ⟨rfl, hkw9⟩
  · have h1' : (10 : Int) ≤ (n : Int) := by omega
    have h2' : 16 < (n : Int) := by omega
    clear hwd
    go_enter Tryd.func6, Tryd.ntmps6
    go_wp2_with (first | (go_at_call 20; refine hdec.mono ?_; rintro e w1 ⟨rfl, hk1⟩; obtain ⟨hc1, hf1⟩ := bcell hk1; have hs1 := hk1.size; have hT1 := hT.kept hk1; have hne1 : g0 ≠ w1.heap.size := (by omega); have hne2 : g0 ≠ w1.heap.size + 1 := (by omega); have hlt1 : g0 < w1.heap.size := (by omega)) | (go_at_call 14; refine (lives_any _ (by exact hT.kept (by go_grown))).mono ?_; rintro e w9 ⟨rfl, hk9⟩; have hkw9 : Kept w w9 := Below.trans (by go_grown) (hk9.mono (by (try simp) <;> omega))))
    go_ret
    exact ⟨rfl, hkw9⟩
set_option maxRecDepth 100000 in
set_option maxHeartbeats 1000000 in
theorem jd_width_42 (g0 off n cp : Nat) (w : World) (hT : Tabs w) (hn : 0 < n) (hn' : n ≤ 40) (hwd : n < 10 ∨ 16 < n) (hb : g0 < w.heap.size) (z0 : w.cell? ⟨g0, off, none⟩ = some (.int .u8 42))
    (hdec : Calls Tryd.prog 20 #[.slice (some ⟨g0, off, none⟩) n cp] w fun e w' => e = .returned (.tuple #[.agg #[.int .u8 0, .int .u32 0, .int .u16 0, .int .i64 0], .int .i64 5]) ∧ Kept w w') : Calls Tryd.prog 6 #[.slice (some ⟨g0, off, none⟩) n cp] w fun e w' => e = .returned (.bool true) ∧ Kept w w' := by
  have hn0 : (0 : Int) < (n : Int) := by omega
  have hn40 : (n : Int) ≤ 40 := by omega
  by_cases h1 : n < 10
  · have h1' : (n : Int) < 10 := by omega
    clear hwd
    go_enter Tryd.func6, Tryd.ntmps6
    go_wp2_with (first | (go_at_call 20; refine hdec.mono ?_; rintro e w1 ⟨rfl, hk1⟩; obtain ⟨hc1, hf1⟩ := bcell hk1; have hs1 := hk1.size; have hT1 := hT.kept hk1; have hne1 : g0 ≠ w1.heap.size := (by omega); have hne2 : g0 ≠ w1.heap.size + 1 := (by omega); have hlt1 : g0 < w1.heap.size := (by omega)) | (go_at_call 14; refine (lives_any _ (by exact hT.kept (by go_grown))).mono ?_; rintro e w9 ⟨rfl, hk9⟩; have hkw9 : Kept w w9 := Below.trans (by go_grown) (hk9.mono (by (try simp) <;> omega))))
    go_ret
    exact ⟨rfl, hkw9⟩
  · have h1' : (10 : Int) ≤ (n : Int) := by omega
    have h2' : 16 < (n : Int) := by omega
    clear hwd
    go_enter Tryd.func6, Tryd.ntmps6
    go_wp2_with (first | (go_at_call 20; refine hdec.mono ?_; rintro e w1 ⟨rfl, hk1⟩; obtain ⟨hc1, hf1⟩ := bcell hk1; have hs1 := hk1.size; have hT1 := hT.kept hk1; have hne1 : g0 ≠ w1.heap.size := (by omega); have hne2 : g0 ≠ w1.heap.size + 1 := (by omega); have hlt1 : g0 < w1.heap.size := (by omega)) | (go_at_call 14; refine (lives_any _ (by exact hT.kept (by go_grown))).mono ?_; rintro e w9 ⟨rfl, hk9⟩; have hkw9 : Kept w w9 := Below.trans (by go_grown) (hk9.mono (by (try simp) <;> omega))))
    go_ret
    exact ⟨rfl, hkw9⟩
set_option maxRecDepth 100000 in
set_option maxHeartbeats 1000000 in
theorem jd_width_53 (g0 off n cp : Nat) (w : World) (hT : Tabs w) (hn : 0 < n) (hn' : n ≤ 40) (hwd : n < 10 ∨ 16 < n) (hb : g0 < w.heap.size) (z0 : w.cell? ⟨g0, off, none⟩ = some (.int .u8 53))
    (hdec : Calls Tryd.prog 20 #[.slice (some ⟨g0, off, none⟩) n cp] w fun e w' => e = .returned (.tuple #[.agg #[.int .u8 0, .int .u32 0, .int .u16 0, .int .i64 0], .int .i64 5]) ∧ Kept w w') : Calls Tryd.prog 6 #[.slice (some ⟨g0, off, none⟩) n cp] w fun e w' => e = .returned (.bool true) ∧ Kept w w' := by
  have hn0 : (0 : Int) < (n : Int) := by omega
  have hn40 : (n : Int) ≤ 40 := by omega
  by_cases h1 : n < 10
  · have h1' : (n : Int) < 10 := by omega
    clear hwd
    go_enter Tryd.func6, Tryd.ntmps6
    go_wp2_with (first | (go_at_call 20; refine hdec.mono ?_; rintro e w1 ⟨rfl, hk1⟩; obtain ⟨hc1, hf1⟩ := bcell hk1; have hs1 := hk1.size; have hT1 := hT.kept hk1; have hne1 : g0 ≠ w1.heap.size := (by omega); have hne2 : g0 ≠ w1.heap.size + 1 := (by omega); have hlt1 : g0 < w1.heap.size := (by omega)) | (go_at_call 14; refine (lives_any _ (by exact hT.kept (by go_grown))).mono ?_; rintro e w9 ⟨rfl, hk9⟩; have hkw9 : Kept w w9 := Below.trans (by go_grown) (hk9.mono (by (try simp) <;> omega))))
    go_ret
    exact ⟨rfl, hkw9⟩
  · have h1' : (10 : Int) ≤ (n : Int) := by omega
    have h2' : 16 < (n : Int) := by omega
    clear hwd
    go_enter Tryd.func6, Tryd.ntmps6
    go_wp2_with (first | (go_at_call 20; refine hdec.mono ?_; rintro e w1 ⟨rfl, hk1⟩; obtain ⟨hc1, hf1⟩ := bcell hk1; have hs1 := hk1.size; have hT1 := hT.kept hk1; have hne1 : g0 ≠ w1.heap.size := (by omega); have hne2 : g0 ≠ w1.heap.size + 1 := (by omega); have hlt1 : g0 < w1.heap.size := (by omega)) | (go_at_call 14; refine (lives_any _ (by exact hT.kept (by go_grown))).mono ?_; rintro e w9 ⟨rfl, hk9⟩; have hkw9 : Kept w w9 := Below.trans (by go_grown) (hk9.mono (by (try simp) <;> omega))))
    go_ret
    exact ⟨rfl, hkw9⟩
end Go.Proofs.YtfojemocffelhaaDoor
