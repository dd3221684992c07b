
/- printable, the inner function of DecodeInquiry, DecodeInquiry. -/
import Derived.Test.YtfojemocffelhaaDoorChecked
import Derived.Deep.RegionHeld3
import Derived.Deep.DrawnRows
import Derived.Deep.DeepCutAuto
import Derived.Deep.LoopGhost
import Derived.Outline
import Derived.Handy
import Derived.OwnWalk
import Derived.Laws.BitsAllLaws
import Derived.Deep.QuietTactic
import Derived.BigQuiet
import Derived.Test.YtfojemocffelhaaDoorSo
import Derived.Test.YtfojemocffelhaaDoorIa
import Derived.Test.YtfojemocffelhaaDoorIb
set_option linter.unusedVariables false
set_option linter.unusedSimpArgs false
set_option linter.unusedSectionVars false
namespace Go.Proofs.YtfojemocffelhaaDoor
open Go.RowKit Go.Shelf
attribute [local go_sem ↓] Go.wp_at_zero Go.wp_at_succ

theorem print1 (x : Nat) (w : World) : Calls Tryd.prog 53 #[.int .i32 (x : Int)] w fun e w' => e = .returned (.bool (badR x)) ∧ Kept w w' := by
  by_cases h1 : (x : Int) < 32
  · have hb : badR x = true := by simp [badR, h1]
    replace hb := Lib.hid hb
    go_enter Tryd.func53, Tryd.ntmps53
    go_wp2_with fail
    go_ret
    exact ⟨by rw [hb.out]; rfl, Below.refl _ _⟩
  · have h1' : 32 ≤ (x : Int) := by omega
    by_cases h2 : 126 < (x : Int)
    · have hb : badR x = true := by simp [badR, h2]
      replace hb := Lib.hid hb
      go_enter Tryd.func53, Tryd.ntmps53
      go_wp2_with fail
      go_ret
      exact ⟨by rw [hb.out]; rfl, Below.refl _ _⟩
    · have h2' : (x : Int) ≤ 126 := by omega
      have hb : badR x = false := by simp only [badR, Bool.or_eq_false_iff, decide_eq_false_iff_not]; omega
      replace hb := Lib.hid hb
      go_enter Tryd.func53, Tryd.ntmps53
      go_wp2_with fail
      go_ret
      exact ⟨by rw [hb.out]; rfl, Below.refl _ _⟩
theorem pred1 (w : World) : PredGrows Tryd.prog 53 #[] badR w := fun W x _ _ => print1 x W
theorem printable_any (s : ByteArray) (w : World) : Calls Tryd.prog 35 #[.string s] w fun e w' => e = .returned (.bool (prL s.data.toList)) ∧ Kept w w' := by
  have eg : ∀ args w, (callFunc 53 args).run Tryd.prog w = .ok (.enter 53 args) w := enters_of Tryd.func53 (by kernel_rfl) rfl
  have h : ∀ w, Calls Tryd.prog 52 #[.string s, .func (.func 53) #[] #[]] w fun e w' => e = .returned (.bool (!prL s.data.toList)) ∧ Kept w w' := fun w => by
    rw [← idx_print]
    exact Any.strings_ContainsFunc_grows laysContains 53 #[] eg badR s w (pred1 w)
  obtain ⟨B, hB⟩ : ∃ B, prL s.data.toList = B := ⟨_, rfl⟩
  rw [hB] at h ⊢
  clear hB
  go_enter Tryd.func35, Tryd.ntmps35
  go_wp2_with (go_at_call 52; refine (h _).mono ?_; rintro e w' ⟨rfl, hk⟩)
  go_ret
  exact ⟨by simp, hk⟩
theorem trimR (s : ByteArray) (w : World) (hs : s.size ≤ 100) : Calls Tryd.prog 40 #[.string s, .string ⟨#[32]⟩] w fun e w' => e = .returned (.string ⟨(Lib.trimRightB s.data.toList 32).toArray⟩) ∧ w = w' :=
  (Any.strings_TrimRight_one laysTrimRight s 32 (by decide) w (by omega)).mono fun _ _ ⟨h1, h2⟩ => ⟨h1, h2.symm⟩
set_option maxRecDepth 100000 in
set_option maxHeartbeats 1000000 in
theorem cut_8 (b off n c B : Nat) (bs : List UInt8) (w : World) (hl : bs.length = n) (hn : 36 ≤ n) (hnc : n ≤ c) (hB : Bs w b off bs) (hb : w.cell? ⟨B, 0, none⟩ = some (.slice (some ⟨b, off, none⟩) n c)) (hBw : B < w.heap.size) :
    Calls Tryd.prog 39 #[.int .i64 8, .int .i64 16, .pointer (some ⟨B, 0, none⟩)] w fun e w' => e = .returned (.string (cutS bs 8 8)) ∧ w = w' := by
  have hbw := hB.1
  have hcv : ∀ cap, (convert 32 9 (.slice (some ⟨b, off + 8, none⟩) 8 cap)).run Tryd.prog w = .ok (.string ⟨((bs.drop 8).take 8).toArray⟩) w := fun cap => ((hB.drop 8).take 8).conv 8 cap (by simp; omega)
  have hsz : (⟨((bs.drop 8).take 8).toArray⟩ : ByteArray).size ≤ 100 := by simp [ByteArray.size]; omega
  have hT : ∀ w, _ := fun w => trimR ⟨((bs.drop 8).take 8).toArray⟩ w hsz
  have hT : ∀ w, Calls Tryd.prog 40 #[.string ⟨((bs.drop 8).take 8).toArray⟩, .string ⟨#[32]⟩] w fun e w' => e = .returned (.string (cutS bs 8 8)) ∧ w = w' := hT
  have h1 : (16 : Int) ≤ (n : Int) := by omega
  have h2 : (16 : Int) ≤ (c : Int) := by omega
  have h3 : (8 : Int) < (c : Int) := by omega
  clear hl hB
  generalize (⟨((bs.drop 8).take 8).toArray⟩ : ByteArray) = S at *
  go_enter Tryd.func39, Tryd.ntmps39
  go_wp2_with (go_at_call 40; refine (hT _).mono ?_; rintro e w' ⟨rfl, rfl⟩)
  go_ret
  exact ⟨rfl, rfl⟩
set_option maxRecDepth 100000 in
set_option maxHeartbeats 1000000 in
theorem cut_16 (b off n c B : Nat) (bs : List UInt8) (w : World) (hl : bs.length = n) (hn : 36 ≤ n) (hnc : n ≤ c) (hB : Bs w b off bs) (hb : w.cell? ⟨B, 0, none⟩ = some (.slice (some ⟨b, off, none⟩) n c)) (hBw : B < w.heap.size) :
    Calls Tryd.prog 39 #[.int .i64 16, .int .i64 32, .pointer (some ⟨B, 0, none⟩)] w fun e w' => e = .returned (.string (cutS bs 16 16)) ∧ w = w' := by
  have hbw := hB.1
  have hcv : ∀ cap, (convert 32 9 (.slice (some ⟨b, off + 16, none⟩) 16 cap)).run Tryd.prog w = .ok (.string ⟨((bs.drop 16).take 16).toArray⟩) w := fun cap => ((hB.drop 16).take 16).conv 16 cap (by simp; omega)
  have hsz : (⟨((bs.drop 16).take 16).toArray⟩ : ByteArray).size ≤ 100 := by simp [ByteArray.size]; omega
  have hT : ∀ w, _ := fun w => trimR ⟨((bs.drop 16).take 16).toArray⟩ w hsz
  have hT : ∀ w, Calls Tryd.prog 40 #[.string ⟨((bs.drop 16).take 16).toArray⟩, .string ⟨#[32]⟩] w fun e w' => e = .returned (.string (cutS bs 16 16)) ∧ w = w' := hT
  have h1 : (32 : Int) ≤ (n : Int) := by omega
  have h2 : (32 : Int) ≤ (c : Int) := by omega
  have h3 : (16 : Int) < (c : Int) := by omega
  clear hl hB
  generalize (⟨((bs.drop 16).take 16).toArray⟩ : ByteArray) = S at *
  go_enter Tryd.func39, Tryd.ntmps39
  go_wp2_with (go_at_call 40; refine (hT _).mono ?_; rintro e w' ⟨rfl, rfl⟩)
  go_ret
  exact ⟨rfl, rfl⟩
set_option maxRecDepth 100000 in
set_option maxHeartbeats 1000000 in
theorem cut_32 (b off n c B : Nat) (bs : List UInt8) (w : World) (hl : bs.length = n) (hn : 36 ≤ n) (hnc : n ≤ c) (hB : Bs w b off bs) (hb : w.cell? ⟨B, 0, none⟩ = some (.slice (some ⟨b, off, none⟩) n c)) (hBw : B < w.heap.size) :
    Calls Tryd.prog 39 #[.int .i64 32, .int .i64 36, .pointer (some ⟨B, 0, none⟩)] w fun e w' => e = .returned (.string (cutS bs 32 4)) ∧ w = w' := by
  have hbw := hB.1
  have hcv : ∀ cap, (convert 32 9 (.slice (some ⟨b, off + 32, none⟩) 4 cap)).run Tryd.prog w = .ok (.string ⟨((bs.drop 32).take 4).toArray⟩) w := fun cap => ((hB.drop 32).take 4).conv 4 cap (by simp; omega)
  have hsz : (⟨((bs.drop 32).take 4).toArray⟩ : ByteArray).size ≤ 100 := by simp [ByteArray.size]; omega
  have hT : ∀ w, _ := fun w => trimR ⟨((bs.drop 32).take 4).toArray⟩ w hsz
  have hT : ∀ w, Calls Tryd.prog 40 #[.string ⟨((bs.drop 32).take 4).toArray⟩, .string ⟨#[32]⟩] w fun e w' => e = .returned (.string (cutS bs 32 4)) ∧ w = w' := hT
  have h1 : (36 : Int) ≤ (n : Int) := by omega
  have h2 : (36 : Int) ≤ (c : Int) := by omega
  have h3 : (32 : Int) < (c : Int) := by omega
  clear hl hB
  generalize (⟨((bs.drop 32).take 4).toArray⟩ : ByteArray) = S at *
  go_enter Tryd.func39, Tryd.ntmps39
  go_wp2_with (go_at_call 40; refine (hT _).mono ?_; rintro e w' ⟨rfl, rfl⟩)
  go_ret
  exact ⟨rfl, rfl⟩
end Go.Proofs.YtfojemocffelhaaDoor
