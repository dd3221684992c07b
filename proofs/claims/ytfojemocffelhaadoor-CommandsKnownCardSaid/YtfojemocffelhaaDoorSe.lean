
/- Proper: by the form of the operation. -/
import Derived.Test.YtfojemocffelhaaDoorChecked
import Derived.Deep.RegionHeld3
import Derived.Deep.DrawnRows
import Derived.Deep.DeepCutAuto
import Derived.Deep.LoopGhost
import Derived.Outline
import Derived.Handy
import Derived.OwnWalk
import Derived.Test.YtfojemocffelhaaDoorSb
set_option linter.unusedVariables false
set_option linter.unusedSimpArgs false
set_option linter.unusedSectionVars false
namespace Go.Proofs.YtfojemocffelhaaDoor
open Go.RowKit
attribute [local go_sem ↓] Go.wp_at_zero Go.wp_at_succ

def propF (le bl ok : Bool) (b c l : Int) : Bool := ok && decide (0 ≤ l ∧ l ≤ 255) && (le || decide (l = 0)) && (if bl then decide (b + c ≤ 4294967296) else decide (b = 0 ∧ c = 0))
/-- what find answers at an operation -/
def FindsAs (op : Int) (f : Form) (op' : Int) (ok : Bool) : Prop :=
  ∀ w, Tabs w → Calls Tryd.prog 27 #[.int .u8 op] w fun e w' => e = .returned (.tuple #[.agg #[.int .u8 op', .string f.name, .int .i64 f.width, .bool f.len, .bool f.blk, .int .u8 f.dir], .bool ok]) ∧ Kept w w'

set_option maxRecDepth 100000 in
set_option maxHeartbeats 2000000 in
theorem proper_of (op b c l wd dr op' : Int) (nm : ByteArray) (le bl ok : Bool) (w : World) (hT : Tabs w) (hb0 : 0 ≤ b) (hb : b < 4294967296) (hc0 : 0 ≤ c) (hc : c < 65536)
    (hf : ∀ w, Tabs w → Calls Tryd.prog 27 #[.int .u8 op] w fun e w' => e = .returned (.tuple #[.agg #[.int .u8 op', .string nm, .int .i64 wd, .bool le, .bool bl, .int .u8 dr], .bool ok]) ∧ Kept w w') :
    Calls Tryd.prog 12 #[.agg #[.int .u8 op, .int .u32 b, .int .u16 c, .int .i64 l]] w fun e w' => e = .returned (.bool (propF le bl ok b c l)) ∧ Kept w w' := by
  cases ok
  · go_enter Tryd.func12, Tryd.ntmps12
    go_wp2_with (go_at_call 27; refine (hf _ (hT.alloc _)).mono ?_; rintro e w1 ⟨rfl, hk1⟩; obtain ⟨hc1, hf1⟩ := bcell hk1; have hs1 := hk1.size; simp only [World.size_alloc] at hc1 hf1 hs1; have hkw : Below w.heap.size w w1 := ((Below.refl _ w).alloc (Nat.le_refl _) _).trans (hk1.mono (by simp)); have hlt1 : w.heap.size < w1.heap.size := (by omega); have hne1 : w.heap.size ≠ w1.heap.size := (by omega))
    all_goals first
      | (exfalso; omega)
      | (go_ret
         refine ⟨?_, by go_grown⟩
         first
           | (simp [propF, *]; done)
           | (simp [propF, *]; rfl)
           | (simp [propF, *]; omega)
           | (refine ret_bool ?_; unfold propF; rw [Bool.eq_iff_iff]; simp; omega))
  · by_cases h1 : l < 0
    · go_enter Tryd.func12, Tryd.ntmps12
      go_wp2_with (go_at_call 27; refine (hf _ (hT.alloc _)).mono ?_; rintro e w1 ⟨rfl, hk1⟩; obtain ⟨hc1, hf1⟩ := bcell hk1; have hs1 := hk1.size; simp only [World.size_alloc] at hc1 hf1 hs1; have hkw : Below w.heap.size w w1 := ((Below.refl _ w).alloc (Nat.le_refl _) _).trans (hk1.mono (by simp)); have hlt1 : w.heap.size < w1.heap.size := (by omega); have hne1 : w.heap.size ≠ w1.heap.size := (by omega))
      all_goals first
        | (exfalso; omega)
        | (go_ret
           refine ⟨?_, by go_grown⟩
           first
             | (simp [propF, *]; done)
             | (simp [propF, *]; rfl)
             | (simp [propF, *]; omega)
             | (refine ret_bool ?_; unfold propF; rw [Bool.eq_iff_iff]; simp; omega))
    · by_cases h2 : 255 < l
      · go_enter Tryd.func12, Tryd.ntmps12
        go_wp2_with (go_at_call 27; refine (hf _ (hT.alloc _)).mono ?_; rintro e w1 ⟨rfl, hk1⟩; obtain ⟨hc1, hf1⟩ := bcell hk1; have hs1 := hk1.size; simp only [World.size_alloc] at hc1 hf1 hs1; have hkw : Below w.heap.size w w1 := ((Below.refl _ w).alloc (Nat.le_refl _) _).trans (hk1.mono (by simp)); have hlt1 : w.heap.size < w1.heap.size := (by omega); have hne1 : w.heap.size ≠ w1.heap.size := (by omega))
        all_goals first
          | (exfalso; omega)
          | (go_ret
             refine ⟨?_, by go_grown⟩
             first
               | (simp [propF, *]; done)
               | (simp [propF, *]; rfl)
               | (simp [propF, *]; omega)
               | (refine ret_bool ?_; unfold propF; rw [Bool.eq_iff_iff]; simp; omega))
      · by_cases h3 : l = 0
        · subst h3
          cases bl
          · by_cases h4 : b = 0
            · cases le
              · go_enter Tryd.func12, Tryd.ntmps12
                go_wp2_with (go_at_call 27; refine (hf _ (hT.alloc _)).mono ?_; rintro e w1 ⟨rfl, hk1⟩; obtain ⟨hc1, hf1⟩ := bcell hk1; have hs1 := hk1.size; simp only [World.size_alloc] at hc1 hf1 hs1; have hkw : Below w.heap.size w w1 := ((Below.refl _ w).alloc (Nat.le_refl _) _).trans (hk1.mono (by simp)); have hlt1 : w.heap.size < w1.heap.size := (by omega); have hne1 : w.heap.size ≠ w1.heap.size := (by omega))
                all_goals first
                  | (exfalso; omega)
                  | (go_ret
                     refine ⟨?_, by go_grown⟩
                     first
                       | (simp [propF, *]; done)
                       | (simp [propF, *]; rfl)
                       | (simp [propF, *]; omega)
                       | (refine ret_bool ?_; unfold propF; rw [Bool.eq_iff_iff]; simp; omega))
              · go_enter Tryd.func12, Tryd.ntmps12
                go_wp2_with (go_at_call 27; refine (hf _ (hT.alloc _)).mono ?_; rintro e w1 ⟨rfl, hk1⟩; obtain ⟨hc1, hf1⟩ := bcell hk1; have hs1 := hk1.size; simp only [World.size_alloc] at hc1 hf1 hs1; have hkw : Below w.heap.size w w1 := ((Below.refl _ w).alloc (Nat.le_refl _) _).trans (hk1.mono (by simp)); have hlt1 : w.heap.size < w1.heap.size := (by omega); have hne1 : w.heap.size ≠ w1.heap.size := (by omega))
                all_goals first
                  | (exfalso; omega)
                  | (go_ret
                     refine ⟨?_, by go_grown⟩
                     first
                       | (simp [propF, *]; done)
                       | (simp [propF, *]; rfl)
                       | (simp [propF, *]; omega)
                       | (refine ret_bool ?_; unfold propF; rw [Bool.eq_iff_iff]; simp; omega))
            · cases le
              · go_enter Tryd.func12, Tryd.ntmps12
                go_wp2_with (go_at_call 27; refine (hf _ (hT.alloc _)).mono ?_; rintro e w1 ⟨rfl, hk1⟩; obtain ⟨hc1, hf1⟩ := bcell hk1; have hs1 := hk1.size; simp only [World.size_alloc] at hc1 hf1 hs1; have hkw : Below w.heap.size w w1 := ((Below.refl _ w).alloc (Nat.le_refl _) _).trans (hk1.mono (by simp)); have hlt1 : w.heap.size < w1.heap.size := (by omega); have hne1 : w.heap.size ≠ w1.heap.size := (by omega))
                all_goals first
                  | (exfalso; omega)
                  | (go_ret
                     refine ⟨?_, by go_grown⟩
                     first
                       | (simp [propF, *]; done)
                       | (simp [propF, *]; rfl)
                       | (simp [propF, *]; omega)
                       | (refine ret_bool ?_; unfold propF; rw [Bool.eq_iff_iff]; simp; omega))
              · go_enter Tryd.func12, Tryd.ntmps12
                go_wp2_with (go_at_call 27; refine (hf _ (hT.alloc _)).mono ?_; rintro e w1 ⟨rfl, hk1⟩; obtain ⟨hc1, hf1⟩ := bcell hk1; have hs1 := hk1.size; simp only [World.size_alloc] at hc1 hf1 hs1; have hkw : Below w.heap.size w w1 := ((Below.refl _ w).alloc (Nat.le_refl _) _).trans (hk1.mono (by simp)); have hlt1 : w.heap.size < w1.heap.size := (by omega); have hne1 : w.heap.size ≠ w1.heap.size := (by omega))
                all_goals first
                  | (exfalso; omega)
                  | (go_ret
                     refine ⟨?_, by go_grown⟩
                     first
                       | (simp [propF, *]; done)
                       | (simp [propF, *]; rfl)
                       | (simp [propF, *]; omega)
                       | (refine ret_bool ?_; unfold propF; rw [Bool.eq_iff_iff]; simp; omega))
          · cases le
            · go_enter Tryd.func12, Tryd.ntmps12
              go_wp2_with (go_at_call 27; refine (hf _ (hT.alloc _)).mono ?_; rintro e w1 ⟨rfl, hk1⟩; obtain ⟨hc1, hf1⟩ := bcell hk1; have hs1 := hk1.size; simp only [World.size_alloc] at hc1 hf1 hs1; have hkw : Below w.heap.size w w1 := ((Below.refl _ w).alloc (Nat.le_refl _) _).trans (hk1.mono (by simp)); have hlt1 : w.heap.size < w1.heap.size := (by omega); have hne1 : w.heap.size ≠ w1.heap.size := (by omega))
              all_goals first
                | (exfalso; omega)
                | (go_ret
                   refine ⟨?_, by go_grown⟩
                   first
                     | (simp [propF, *]; done)
                     | (simp [propF, *]; rfl)
                     | (simp [propF, *]; omega)
                     | (refine ret_bool ?_; unfold propF; rw [Bool.eq_iff_iff]; simp; omega))
            · go_enter Tryd.func12, Tryd.ntmps12
              go_wp2_with (go_at_call 27; refine (hf _ (hT.alloc _)).mono ?_; rintro e w1 ⟨rfl, hk1⟩; obtain ⟨hc1, hf1⟩ := bcell hk1; have hs1 := hk1.size; simp only [World.size_alloc] at hc1 hf1 hs1; have hkw : Below w.heap.size w w1 := ((Below.refl _ w).alloc (Nat.le_refl _) _).trans (hk1.mono (by simp)); have hlt1 : w.heap.size < w1.heap.size := (by omega); have hne1 : w.heap.size ≠ w1.heap.size := (by omega))
              all_goals first
                | (exfalso; omega)
                | (go_ret
                   refine ⟨?_, by go_grown⟩
                   first
                     | (simp [propF, *]; done)
                     | (simp [propF, *]; rfl)
                     | (simp [propF, *]; omega)
                     | (refine ret_bool ?_; unfold propF; rw [Bool.eq_iff_iff]; simp; omega))
        · have h3' : (l != 0) = true := by simpa using h3
          cases le
          · go_enter Tryd.func12, Tryd.ntmps12
            go_wp2_with (go_at_call 27; refine (hf _ (hT.alloc _)).mono ?_; rintro e w1 ⟨rfl, hk1⟩; obtain ⟨hc1, hf1⟩ := bcell hk1; have hs1 := hk1.size; simp only [World.size_alloc] at hc1 hf1 hs1; have hkw : Below w.heap.size w w1 := ((Below.refl _ w).alloc (Nat.le_refl _) _).trans (hk1.mono (by simp)); have hlt1 : w.heap.size < w1.heap.size := (by omega); have hne1 : w.heap.size ≠ w1.heap.size := (by omega))
            all_goals first
              | (exfalso; omega)
              | (go_ret
                 refine ⟨?_, by go_grown⟩
                 first
                   | (simp [propF, *]; done)
                   | (simp [propF, *]; rfl)
                   | (simp [propF, *]; omega)
                   | (refine ret_bool ?_; unfold propF; rw [Bool.eq_iff_iff]; simp; omega))
          · cases bl
            · by_cases h4 : b = 0
              · go_enter Tryd.func12, Tryd.ntmps12
                go_wp2_with (go_at_call 27; refine (hf _ (hT.alloc _)).mono ?_; rintro e w1 ⟨rfl, hk1⟩; obtain ⟨hc1, hf1⟩ := bcell hk1; have hs1 := hk1.size; simp only [World.size_alloc] at hc1 hf1 hs1; have hkw : Below w.heap.size w w1 := ((Below.refl _ w).alloc (Nat.le_refl _) _).trans (hk1.mono (by simp)); have hlt1 : w.heap.size < w1.heap.size := (by omega); have hne1 : w.heap.size ≠ w1.heap.size := (by omega))
                all_goals first
                  | (exfalso; omega)
                  | (go_ret
                     refine ⟨?_, by go_grown⟩
                     first
                       | (simp [propF, *]; done)
                       | (simp [propF, *]; rfl)
                       | (simp [propF, *]; omega)
                       | (refine ret_bool ?_; unfold propF; rw [Bool.eq_iff_iff]; simp; omega))
              · go_enter Tryd.func12, Tryd.ntmps12
                go_wp2_with (go_at_call 27; refine (hf _ (hT.alloc _)).mono ?_; rintro e w1 ⟨rfl, hk1⟩; obtain ⟨hc1, hf1⟩ := bcell hk1; have hs1 := hk1.size; simp only [World.size_alloc] at hc1 hf1 hs1; have hkw : Below w.heap.size w w1 := ((Below.refl _ w).alloc (Nat.le_refl _) _).trans (hk1.mono (by simp)); have hlt1 : w.heap.size < w1.heap.size := (by omega); have hne1 : w.heap.size ≠ w1.heap.size := (by omega))
                all_goals first
                  | (exfalso; omega)
                  | (go_ret
                     refine ⟨?_, by go_grown⟩
                     first
                       | (simp [propF, *]; done)
                       | (simp [propF, *]; rfl)
                       | (simp [propF, *]; omega)
                       | (refine ret_bool ?_; unfold propF; rw [Bool.eq_iff_iff]; simp; omega))
            · go_enter Tryd.func12, Tryd.ntmps12
              go_wp2_with (go_at_call 27; refine (hf _ (hT.alloc _)).mono ?_; rintro e w1 ⟨rfl, hk1⟩; obtain ⟨hc1, hf1⟩ := bcell hk1; have hs1 := hk1.size; simp only [World.size_alloc] at hc1 hf1 hs1; have hkw : Below w.heap.size w w1 := ((Below.refl _ w).alloc (Nat.le_refl _) _).trans (hk1.mono (by simp)); have hlt1 : w.heap.size < w1.heap.size := (by omega); have hne1 : w.heap.size ≠ w1.heap.size := (by omega))
              all_goals first
                | (exfalso; omega)
                | (go_ret
                   refine ⟨?_, by go_grown⟩
                   first
                     | (simp [propF, *]; done)
                     | (simp [propF, *]; rfl)
                     | (simp [propF, *]; omega)
                     | (refine ret_bool ?_; unfold propF; rw [Bool.eq_iff_iff]; simp; omega))
theorem properZ_none (op : Int) (h : ∀ f ∈ formsL, (f.op : Int) ≠ op) : op ≠ 0 ∧ op ≠ 3 ∧ op ≠ 18 ∧ op ≠ 37 ∧ op ≠ 40 ∧ op ≠ 42 ∧ op ≠ 53 := by
  simp [formsL] at h
  omega
/-- the definition of a proper command -/
def properZ (op b c l : Int) : Bool :=
  if op = 0 ∨ op = 37 then decide (b = 0 ∧ c = 0 ∧ l = 0)
  else if op = 3 ∨ op = 18 then decide (b = 0 ∧ c = 0 ∧ 0 ≤ l ∧ l ≤ 255)
  else if op = 40 ∨ op = 42 ∨ op = 53 then decide (l = 0 ∧ b + c ≤ 4294967296) else false
/-- the seven operations, or none -/
theorem op_cases (op : Int) : op = 0 ∨ op = 3 ∨ op = 18 ∨ op = 37 ∨ op = 40 ∨ op = 42 ∨ op = 53 ∨ ∀ f ∈ formsL, (f.op : Int) ≠ op := by
  by_cases h : op = 0 ∨ op = 3 ∨ op = 18 ∨ op = 37 ∨ op = 40 ∨ op = 42 ∨ op = 53
  · omega
  · refine Or.inr (Or.inr (Or.inr (Or.inr (Or.inr (Or.inr (Or.inr ?_))))))
    simp [formsL]
    omega
theorem proper_any (op b c l : Int) (w : World) (hT : Tabs w) (hb0 : 0 ≤ b) (hb : b < 4294967296) (hc0 : 0 ≤ c) (hc : c < 65536) :
    Calls Tryd.prog 12 #[.agg #[.int .u8 op, .int .u32 b, .int .u16 c, .int .i64 l]] w fun e w' => e = .returned (.bool (properZ op b c l)) ∧ Kept w w' := by
  have hP : ∀ (op : Int) {le bl ok : Bool}, propF le bl ok b c l = properZ op b c l →
      (Calls Tryd.prog 12 #[.agg #[.int .u8 op, .int .u32 b, .int .u16 c, .int .i64 l]] w fun e w' => e = .returned (.bool (propF le bl ok b c l)) ∧ Kept w w') →
      Calls Tryd.prog 12 #[.agg #[.int .u8 op, .int .u32 b, .int .u16 c, .int .i64 l]] w fun e w' => e = .returned (.bool (properZ op b c l)) ∧ Kept w w' := fun op _ _ _ h1 h2 => by rw [← h1]; exact h2
  rcases op_cases op with rfl | rfl | rfl | rfl | rfl | rfl | rfl | h
  · exact hP 0 (by simp [propF, properZ]; rw [Bool.eq_iff_iff]; simp; omega) (proper_of 0 b c l _ _ _ _ _ _ _ w hT hb0 hb hc0 hc find_0)
  · exact hP 3 (by simp [propF, properZ]; rw [Bool.eq_iff_iff]; simp; omega) (proper_of 3 b c l _ _ _ _ _ _ _ w hT hb0 hb hc0 hc find_3)
  · exact hP 18 (by simp [propF, properZ]; rw [Bool.eq_iff_iff]; simp; omega) (proper_of 18 b c l _ _ _ _ _ _ _ w hT hb0 hb hc0 hc find_18)
  · exact hP 37 (by simp [propF, properZ]; rw [Bool.eq_iff_iff]; simp; omega) (proper_of 37 b c l _ _ _ _ _ _ _ w hT hb0 hb hc0 hc find_37)
  · exact hP 40 (by simp [propF, properZ]; rw [Bool.eq_iff_iff]; simp; omega) (proper_of 40 b c l _ _ _ _ _ _ _ w hT hb0 hb hc0 hc find_40)
  · exact hP 42 (by simp [propF, properZ]; rw [Bool.eq_iff_iff]; simp; omega) (proper_of 42 b c l _ _ _ _ _ _ _ w hT hb0 hb hc0 hc find_42)
  · exact hP 53 (by simp [propF, properZ]; rw [Bool.eq_iff_iff]; simp; omega) (proper_of 53 b c l _ _ _ _ _ _ _ w hT hb0 hb hc0 hc find_53)
  · have h' := properZ_none op h
    exact hP op (by simp [propF, properZ, h']) (proper_of op b c l _ _ _ _ _ _ _ w hT hb0 hb hc0 hc (fun w hT => find_no op w hT h))
end Go.Proofs.YtfojemocffelhaaDoor
