
/- number: the number in bytes. -/
import Derived.Test.YtfojemocffelhaaDoorChecked
import Derived.Deep.RegionHeld3
import Derived.Deep.DrawnRows
import Derived.Deep.DeepCutAuto
import Derived.Deep.LoopGhost
import Derived.Outline
import Derived.Handy
import Derived.OwnWalk
import Derived.Laws.BitsAllLaws
import Derived.Test.YtfojemocffelhaaDoorSi
set_option linter.unusedVariables false
set_option linter.unusedSimpArgs false
set_option linter.unusedSectionVars false
namespace Go.Proofs.YtfojemocffelhaaDoor
open Go.RowKit
attribute [local go_sem ↓] Go.wp_at_zero Go.wp_at_succ

/-- the number in bytes, the highest one first -/
def accN (l : List UInt8) : Nat := l.foldl (fun n x => n * 256 + x.toNat) 0
theorem accN_snoc (l : List UInt8) (x : UInt8) : accN (l ++ [x]) = accN l * 256 + x.toNat := by simp [accN]
theorem fold_lt : ∀ (l : List UInt8) (a m : Nat), a < 256 ^ m → l.foldl (fun n x => n * 256 + x.toNat) a < 256 ^ (m + l.length)
  | [], a, m, h => h
  | x :: l, a, m, h => by
    have hx := x.toNat_lt
    have := fold_lt l (a * 256 + x.toNat) (m + 1) (by rw [Nat.pow_succ]; omega)
    rw [List.length_cons, show m + (l.length + 1) = m + 1 + l.length by omega]
    exact this
theorem accN_lt (l : List UInt8) : accN l < 256 ^ l.length := by
  have := fold_lt l 0 0 (by decide)
  rwa [Nat.zero_add] at this
theorem or_256 (a b : Nat) (hb : b < 256) : a * 256 ||| b = a * 256 + b := by
  have := Nat.shiftLeft_add_eq_or_of_lt (i := 8) (b := b) (by omega) a
  rw [Nat.shiftLeft_eq] at this
  exact this.symm
theorem take_acc {l : List UInt8} {k : Nat} {x : UInt8} (h : l[k]? = some x) : accN (l.take (k + 1)) = accN (l.take k) * 256 + x.toNat := by
  obtain ⟨hk, e⟩ := List.getElem?_eq_some_iff.1 h
  rw [List.take_succ_eq_append_getElem hk, accN_snoc, e]
set_option maxRecDepth 100000 in
set_option maxHeartbeats 1000000 in
theorem number4 (b off c : Nat) (l : List UInt8) (w : World) (hl : l.length = 4) (hc : ∀ j x, l[j]? = some x → w.cell? ⟨b, off + j, none⟩ = some (.int .u8 (x.toNat : Int))) :
    Calls Tryd.prog 32 #[.slice (some ⟨b, off, none⟩) 4 c] w fun e w' => e = .returned (.int .u32 (accN l)) ∧ w' = w := by
  go_enter Tryd.func32, Tryd.ntmps32
  go_wp2_with fail
  go_loopg [3, 8] 4 (fun g s3 s8 wr => ∃ k : Nat, k + g = 4 ∧ s8 = .int .i64 k ∧ s3 = .int .u32 (accN (l.take k)) ∧ wr = w)
  case atStart => exact ⟨0, by omega, by rfl, by rfl, rfl⟩
  case round =>
    obtain ⟨k, hk, rfl, rfl, rfl⟩ := hrel
    by_cases hk4 : k = 4
    · have hk5 : (4 : Int) ≤ (k : Int) := by omega
      have e : l.take k = l := List.take_of_length_le (by omega)
      rw [e]
      clear e
      go_wp2_with fail
      go_ret
      exact ⟨rfl, rfl⟩
    · obtain ⟨x, hx⟩ : ∃ x, l[k]? = some x := ⟨_, List.getElem?_eq_getElem (by omega)⟩
      have hcell := hc k x hx
      have hx0 := x.toNat_lt
      have hacc := take_acc hx
      have hlt : accN (l.take k) < 16777216 := by
        have h1 := accN_lt (l.take k)
        rw [List.length_take] at h1
        have h2 : (256 : Nat) ^ min k l.length ≤ 256 ^ 3 := Nat.pow_le_pow_right (by omega) (by omega)
        omega
      have hA : IntKind.u32.wrap ((accN (l.take k) : Int) * 256) = (accN (l.take k) : Int) * 256 := by rw [IntKind.wrap_u32]; omega
      have hO : bits .or .u32 ((accN (l.take k) : Int) * 256) (x.toNat : Int) = (accN (l.take k) : Int) * 256 + (x.toNat : Int) := by
        have h1 := u32_or_nat (accN (l.take k) * 256) x.toNat (by omega) (by omega)
        rw [or_256 _ _ (by omega)] at h1
        push_cast at h1
        exact h1
      have hk' : (k : Int) < 4 := by omega
      generalize accN (l.take k) = a at *
      go_wp2_with fail
      go_roundg (gk - 1)
      case measure => omega
      case rel => exact ⟨k + 1, by omega, by go_num, by rw [hacc]; push_cast; rfl, rfl⟩
set_option maxRecDepth 100000 in
set_option maxHeartbeats 1000000 in
theorem number2 (b off c : Nat) (l : List UInt8) (w : World) (hl : l.length = 2) (hc : ∀ j x, l[j]? = some x → w.cell? ⟨b, off + j, none⟩ = some (.int .u8 (x.toNat : Int))) :
    Calls Tryd.prog 33 #[.slice (some ⟨b, off, none⟩) 2 c] w fun e w' => e = .returned (.int .u16 (accN l)) ∧ w' = w := by
  go_enter Tryd.func33, Tryd.ntmps33
  go_wp2_with fail
  go_loopg [3, 8] 2 (fun g s3 s8 wr => ∃ k : Nat, k + g = 2 ∧ s8 = .int .i64 k ∧ s3 = .int .u16 (accN (l.take k)) ∧ wr = w)
  case atStart => exact ⟨0, by omega, by rfl, by rfl, rfl⟩
  case round =>
    obtain ⟨k, hk, rfl, rfl, rfl⟩ := hrel
    by_cases hk4 : k = 2
    · have hk5 : (2 : Int) ≤ (k : Int) := by omega
      have e : l.take k = l := List.take_of_length_le (by omega)
      rw [e]
      clear e
      go_wp2_with fail
      go_ret
      exact ⟨rfl, rfl⟩
    · obtain ⟨x, hx⟩ : ∃ x, l[k]? = some x := ⟨_, List.getElem?_eq_getElem (by omega)⟩
      have hcell := hc k x hx
      have hx0 := x.toNat_lt
      have hacc := take_acc hx
      have hlt : accN (l.take k) < 256 := by
        have h1 := accN_lt (l.take k)
        rw [List.length_take] at h1
        have h2 : (256 : Nat) ^ min k l.length ≤ 256 ^ 1 := Nat.pow_le_pow_right (by omega) (by omega)
        omega
      have hA : IntKind.u16.wrap ((accN (l.take k) : Int) * 256) = (accN (l.take k) : Int) * 256 := by rw [IntKind.wrap_u16]; omega
      have hO : bits .or .u16 ((accN (l.take k) : Int) * 256) (x.toNat : Int) = (accN (l.take k) : Int) * 256 + (x.toNat : Int) := by
        have h1 := u16_or_nat (accN (l.take k) * 256) x.toNat (by omega) (by omega)
        rw [or_256 _ _ (by omega)] at h1
        push_cast at h1
        exact h1
      have hk' : (k : Int) < 2 := by omega
      generalize accN (l.take k) = a at *
      go_wp2_with fail
      go_roundg (gk - 1)
      case measure => omega
      case rel => exact ⟨k + 1, by omega, by go_num, by rw [hacc]; push_cast; rfl, rfl⟩
end Go.Proofs.YtfojemocffelhaaDoor
