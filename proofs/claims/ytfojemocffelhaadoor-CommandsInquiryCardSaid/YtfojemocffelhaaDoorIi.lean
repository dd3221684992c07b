
/- EncodeInquiry, whatever the texts; what the law's tests are. -/
import Derived.Test.YtfojemocffelhaaDoorChecked
import Derived.Deep.RegionHeld3
import Derived.Deep.DrawnRows
import Derived.Deep.DeepCutAuto
import Derived.Deep.LoopGhost
import Derived.Outline
import Derived.Handy
import Derived.OwnWalk
import Derived.Test.YtfojemocffelhaaDoorId
import Derived.Test.YtfojemocffelhaaDoorIf
import Derived.Test.YtfojemocffelhaaDoorIh
set_option linter.unusedVariables false
set_option linter.unusedSimpArgs false
set_option linter.unusedSectionVars false
namespace Go.Proofs.YtfojemocffelhaaDoor
open Go.RowKit Go.Shelf

/-- whether one of the texts is too long -/
def longB (v p r : ByteArray) : Bool := decide ((8 : Int) < v.size) || (decide ((16 : Int) < p.size) || decide ((4 : Int) < r.size))
/-- whether all of them stand in an inquiry -/
def allB (v p r : ByteArray) : Bool := rightL v.data.toList && rightL p.data.toList && rightL r.data.toList
/-- the error of an inquiry -/
def errI (v p r : ByteArray) : Int := if longB v p r then 3 else if allB v p r then 0 else 4
theorem long_iff {v p r : ByteArray} : longB v p r = true ↔ 8 < v.size ∨ 16 < p.size ∨ 4 < r.size := by
  simp only [longB, Bool.or_eq_true, decide_eq_true_eq]
  omega
def EinqF (v p r : ByteArray) (rem : Bool) (w w' : World) (A : Option Addr) (N : Nat) : Prop :=
  (errI v p r = 0 → ∃ g, A = some ⟨g, 0, none⟩ ∧ N = 36 ∧ w.heap.size ≤ g ∧ Bs w' g 0 (inqL v.data.toList p.data.toList r.data.toList rem)) ∧ (errI v p r ≠ 0 → N = 0)
theorem einq_all (v p r : ByteArray) (rem : Bool) (w : World) :
    Calls Tryd.prog 21 #[.agg #[.string v, .string p, .string r, .bool rem]] w fun e w' => ∃ A N, e = .returned (.tuple #[.slice A N N, .int .i64 (errI v p r)]) ∧ EinqF v p r rem w w' A N ∧ Kept w w' := by
  by_cases h : 8 < v.size ∨ 16 < p.size ∨ 4 < r.size
  · have hE : errI v p r = 3 := by rw [errI, if_pos (long_iff.2 h)]
    refine (einq_long v p r rem w h).mono ?_
    rintro e w' ⟨rfl, hk⟩
    exact ⟨none, 0, by rw [hE], ⟨fun h0 => by rw [hE] at h0; omega, fun _ => rfl⟩, hk⟩
  · have hl : longB v p r = false := by rw [← Bool.not_eq_true, long_iff]; exact h
    refine (einq_any v p r rem w (by omega) (by omega) (by omega)).mono ?_
    rintro e w' (⟨ha, rfl, hk⟩ | ⟨ha, g, rfl, hg, hB, hk⟩)
    · have hE : errI v p r = 4 := by
        have ha : allB v p r = false := ha
        simp [errI, hl, ha]
      exact ⟨none, 0, by rw [hE], ⟨fun h0 => by rw [hE] at h0; omega, fun _ => rfl⟩, hk⟩
    · have hE : errI v p r = 0 := by
        have ha : allB v p r = true := ha
        simp [errI, hl, ha]
      exact ⟨_, 36, by rw [hE], ⟨fun _ => ⟨g, rfl, rfl, hg, hB⟩, fun h0 => absurd hE h0⟩, hk⟩
/-- what holds if there is no error -/
theorem err_zero {v p r : ByteArray} (h : errI v p r = 0) : v.size ≤ 8 ∧ p.size ≤ 16 ∧ r.size ≤ 4 ∧ rightL v.data.toList = true ∧ rightL p.data.toList = true ∧ rightL r.data.toList = true := by
  unfold errI at h
  split at h
  · omega
  · rename_i hl
    rw [long_iff] at hl
    split at h
    · rename_i ha
      simp only [allB, Bool.and_eq_true] at ha
      exact ⟨by omega, by omega, by omega, ha.1.1, ha.1.2, ha.2⟩
    · omega
theorem right_parts {l : List UInt8} (h : rightL l = true) : prL l = true ∧ Lib.hasSuffix l [32] = false := by
  simpa [rightL] using h
theorem str_back (s : ByteArray) : (⟨s.data.toList.toArray⟩ : ByteArray) = s := by simp
/-- DecodeInquiry gives the inquiry again -/
theorem dinq_own (v p r : ByteArray) (rem : Bool) (w : World) (g : Nat) (hE : errI v p r = 0) (hB : Bs w g 0 (inqL v.data.toList p.data.toList r.data.toList rem)) :
    Calls Tryd.prog 23 #[.slice (some ⟨g, 0, none⟩) 36 36] w fun e w' => e = .returned (.tuple #[.agg #[.string v, .string p, .string r, .bool rem], .int .i64 0]) ∧ Kept w w' := by
  obtain ⟨h1, h2, h3, h4, h5, h6⟩ := err_zero hE
  have l1 : v.data.toList.length ≤ 8 := by simpa using h1
  have l2 : p.data.toList.length ≤ 16 := by simpa using h2
  have l3 : r.data.toList.length ≤ 4 := by simpa using h3
  have hlen : (inqL v.data.toList p.data.toList r.data.toList rem).length = 36 := inq_len l1 l2 l3
  have h := dinq_ok g 0 36 36 _ (if rem then 128 else 0) w hlen (Nat.le_refl _) (Nat.le_refl _) hB (hB.2 0 0 rfl) rfl (pr_inq hlen (right_parts h4).1 (right_parts h5).1 (right_parts h6).1)
  rw [cut_v l1 (right_parts h4).2, cut_p l1 l2 (right_parts h5).2, cut_r l1 l2 l3 (right_parts h6).2, str_back, str_back, str_back] at h
  cases rem <;> exact h
end Go.Proofs.YtfojemocffelhaaDoor
