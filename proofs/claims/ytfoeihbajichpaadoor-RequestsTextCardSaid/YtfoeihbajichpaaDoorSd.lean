
/- The law's own names of the codes. The code lies in its kind. -/
import Derived.Test.YtfoeihbajichpaaDoorChecked
import Derived.Deep.RegionHeld3
import Derived.Deep.DrawnRows
import Derived.Deep.DeepCutAuto
import Derived.Deep.LoopGhost
import Derived.Outline
import Derived.Handy
import Derived.OwnWalk
import Derived.Test.YtfoeihbajichpaaDoorSb
set_option linter.unusedVariables false
set_option linter.unusedSimpArgs false
set_option linter.unusedSectionVars false
namespace Go.Proofs.YtfoeihbajichpaaDoor
open Go.RowKit Go.Lib
theorem nameL_any (c : Int) (w : World) (hc0 : 0 ≤ c) (hc1 : c < 256) :
    Calls Tryd.prog 34 #[.int .u8 c] w fun e w' => e = .returned (.string (B8 (nameW c))) ∧ w = w' := by
  by_cases h0 : c = 0
  · subst h0
    go_enter Tryd.func34, Tryd.ntmps34
    go_wp2
    go_ret
    exact ⟨rfl, rfl⟩
  by_cases h1 : c = 1
  · subst h1
    go_enter Tryd.func34, Tryd.ntmps34
    go_wp2
    go_ret
    exact ⟨rfl, rfl⟩
  by_cases h3 : c = 3
  · subst h3
    go_enter Tryd.func34, Tryd.ntmps34
    go_wp2
    go_ret
    exact ⟨rfl, rfl⟩
  by_cases h5 : c = 5
  · subst h5
    go_enter Tryd.func34, Tryd.ntmps34
    go_wp2
    go_ret
    exact ⟨rfl, rfl⟩
  by_cases h6 : c = 6
  · subst h6
    go_enter Tryd.func34, Tryd.ntmps34
    go_wp2
    go_ret
    exact ⟨rfl, rfl⟩
  by_cases h7 : c = 7
  · subst h7
    go_enter Tryd.func34, Tryd.ntmps34
    go_wp2
    go_ret
    exact ⟨rfl, rfl⟩
  by_cases h8 : c = 8
  · subst h8
    go_enter Tryd.func34, Tryd.ntmps34
    go_wp2
    go_ret
    exact ⟨rfl, rfl⟩
  by_cases h9 : c = 9
  · subst h9
    go_enter Tryd.func34, Tryd.ntmps34
    go_wp2
    go_ret
    exact ⟨rfl, rfl⟩
  by_cases h10 : c = 10
  · subst h10
    go_enter Tryd.func34, Tryd.ntmps34
    go_wp2
    go_ret
    exact ⟨rfl, rfl⟩
  by_cases h11 : c = 11
  · subst h11
    go_enter Tryd.func34, Tryd.ntmps34
    go_wp2
    go_ret
    exact ⟨rfl, rfl⟩
  by_cases h12 : c = 12
  · subst h12
    go_enter Tryd.func34, Tryd.ntmps34
    go_wp2
    go_ret
    exact ⟨rfl, rfl⟩
  have e : nameW c = [] := by
    unfold nameW
    rw [List.getD_eq_getElem?_getD]
    obtain ⟨n, rfl⟩ := Int.eq_ofNat_of_zero_le hc0
    rw [Int.toNat_natCast]
    by_cases hn : n < 13
    · have : n = 2 ∨ n = 4 := by omega
      rcases this with rfl | rfl <;> rfl
    · rw [List.getElem?_eq_none (show namesL.length ≤ n by show 13 ≤ n; omega)]; rfl
  have b0 : (c == 0) = false := by simp; omega
  have b1 : (c == 1) = false := by simp; omega
  have b3 : (c == 3) = false := by simp; omega
  have b5 : (c == 5) = false := by simp; omega
  have b6 : (c == 6) = false := by simp; omega
  have b7 : (c == 7) = false := by simp; omega
  have b8 : (c == 8) = false := by simp; omega
  have b9 : (c == 9) = false := by simp; omega
  have b10 : (c == 10) = false := by simp; omega
  have b11 : (c == 11) = false := by simp; omega
  have b12 : (c == 12) = false := by simp; omega
  rw [e]
  clear e h0 h1 h3 h5 h6 h7 h8 h9 h10 h11 h12
  go_enter Tryd.func34, Tryd.ntmps34
  go_wp2
  go_ret
  exact ⟨rfl, rfl⟩
end Go.Proofs.YtfoeihbajichpaaDoor
