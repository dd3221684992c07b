
/- The comparison of offers, and the greatest of a list. The numbers are numbers; the list reads as offers. -/
import Derived.Test.YtgkhenplbljbbaaChecked
import Derived.Deep.RegionHeld3
import Derived.Deep.DrawnRows
import Derived.Deep.DeepCutAuto
import Derived.Deep.LoopGhost
import Derived.Outline
import Derived.Handy
import Derived.Deep.RegionLaw
import Derived.Test.YtgkhenplbljbbaaEa
import Derived.Test.YtgkhenplbljbbaaPc
set_option linter.unusedVariables false
set_option linter.unusedSimpArgs false
set_option linter.unusedSectionVars false
namespace Go.Proofs.Ytgkhenplbljbbaa
open Go.RowKit
attribute [local go_sem ↓] Go.wp_at_zero Go.wp_at_succ

def cmpI (a b : Int) : Int := if a < b then -1 else if b < a then 1 else 0
def orI (a b : Int) : Int := if a = 0 then b else a
theorem more_cmp (a b : Ofr) : decide (0 < orI (cmpI a.many b.many) (cmpI a.sum b.sum)) = moreB a b := by
  unfold orI cmpI moreB
  rcases Int.lt_trichotomy a.many b.many with h | h | h
  · rw [if_pos h, decide_eq_false (by omega : ¬ b.many < a.many), beq_eq_false_iff_ne.2 (by omega : a.many ≠ b.many)]; rfl
  · rw [if_neg (by omega : ¬ a.many < b.many), if_neg (by omega : ¬ b.many < a.many), decide_eq_false (by omega : ¬ b.many < a.many), if_pos rfl, h]
    rcases Int.lt_trichotomy a.sum b.sum with g | g | g
    · rw [if_pos g, decide_eq_false (by omega : ¬ b.sum < a.sum)]; simp
    · rw [if_neg (by omega), if_neg (by omega), decide_eq_false (by omega : ¬ b.sum < a.sum)]; simp
    · rw [if_neg (by omega), if_pos g, decide_eq_true g]; simp
  · rw [if_neg (by omega : ¬ a.many < b.many), if_pos h, decide_eq_true h]; rfl

theorem nan_any (a : Int) (w : World) : Calls Try.prog 48 #[.int .i64 a] w fun e w' => e = .returned (.bool false) ∧ w' = w := by
  go_enter Try.func48, Try.ntmps48
  go_wp2
  all_goals (go_ret; exact ⟨by simp, rfl⟩)

theorem cmp_any (a b : Int) (w : World) : Calls Try.prog 37 #[.int .i64 a, .int .i64 b] w fun e w' => e = .returned (.int .i64 (cmpI a b)) ∧ w' = w := by
  by_cases h1 : a < b
  · have hr := hide (show cmpI a b = -1 by simp [cmpI, h1])
    go_enter Try.func37, Try.ntmps37
    go_wp2_with (go_at_call 48; refine (nan_any _ _).mono ?_; rintro e w1 ⟨rfl, rfl⟩)
    go_ret
    exact ⟨by rw [hr.out]; rfl, rfl⟩
  · by_cases h2 : b < a
    · have hr := hide (show cmpI a b = 1 by simp [cmpI, h1, h2])
      go_enter Try.func37, Try.ntmps37
      go_wp2_with (go_at_call 48; refine (nan_any _ _).mono ?_; rintro e w1 ⟨rfl, rfl⟩)
      go_ret
      exact ⟨by rw [hr.out]; rfl, rfl⟩
    · have hr := hide (show cmpI a b = 0 by simp [cmpI, h1, h2])
      go_enter Try.func37, Try.ntmps37
      go_wp2_with (go_at_call 48; refine (nan_any _ _).mono ?_; rintro e w1 ⟨rfl, rfl⟩)
      go_ret
      exact ⟨by rw [hr.out]; rfl, rfl⟩

theorem or_any (b o : Nat) (x y : Int) (w : World) (h0 : w.cell? ⟨b, o, none⟩ = some (.int .i64 x)) (h1 : w.cell? ⟨b, o + 1, none⟩ = some (.int .i64 y)) (hb : b < w.heap.size) :
    Calls Try.prog 36 #[.slice (some ⟨b, o, none⟩) 2 2] w fun e w' => e = .returned (.int .i64 (orI x y)) ∧ w' = w := by
  by_cases hx : x = 0
  · have hr := hide (show orI x y = y by simp [orI, hx])
    go_enter Try.func36, Try.ntmps36
    go_wp2_with fail
    go_loopg [8] 2 (fun g s8 wr => ∃ k : Nat, k + g = 2 ∧ s8 = .int .i64 k ∧ (1 < k → y = 0) ∧ w = wr)
    case atStart => exact ⟨0, by omega, rfl, by omega, rfl⟩
    case round =>
      obtain ⟨k, hk, rfl, hy, rfl⟩ := hrel
      have hk' := hide hk
      rcases (by omega : k = 0 ∨ k = 1 ∨ k = 2) with rfl | rfl | rfl
      · clear hk hy
        go_wp2
        go_roundg (gk - 1)
        case measure => have := hk'.out; omega
        case rel => exact ⟨1, by have := hk'.out; omega, rfl, by omega, rfl⟩
      · clear hk hy
        by_cases hy0 : y = 0
        · go_wp2
          go_roundg (gk - 1)
          case measure => have := hk'.out; omega
          case rel => exact ⟨2, by have := hk'.out; omega, rfl, fun _ => hy0, rfl⟩
        · go_wp2
          go_ret
          exact ⟨by rw [hr.out]; rfl, rfl⟩
      · have hy0 := hide (hy (by omega))
        clear hk hy
        go_wp2
        go_ret
        exact ⟨by rw [hr.out, hy0.out]; rfl, rfl⟩
  · have hr := hide (show orI x y = x by simp [orI, hx])
    go_enter Try.func36, Try.ntmps36
    go_wp2_with fail
    go_loopg [8] 2 (fun g s8 wr => s8 = .int .i64 0 ∧ w = wr)
    case atStart => exact ⟨rfl, rfl⟩
    case round =>
      obtain ⟨rfl, rfl⟩ := hrel
      go_wp2
      go_ret
      exact ⟨by rw [hr.out]; rfl, rfl⟩
end Go.Proofs.Ytgkhenplbljbbaa
