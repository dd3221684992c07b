
/- The law's comparison of bindings. The slices read as lists. -/
import Derived.Test.YtgkhenplbljbbaaChecked
import Derived.Deep.RegionHeld3
import Derived.Deep.DrawnRows
import Derived.Deep.DeepCutAuto
import Derived.Deep.LoopGhost
import Derived.Outline
import Derived.Handy
import Derived.OwnWalk
import Derived.BigQuiet
import Derived.Test.YtgkhenplbljbbaaHs
set_option linter.unusedVariables false
set_option linter.unusedSimpArgs false
set_option linter.unusedSectionVars false
namespace Go.Proofs.Ytgkhenplbljbbaa
open Go.RowKit
attribute [local go_sem ↓] Go.wp_at_zero Go.wp_at_succ

set_option maxRecDepth 100000 in
set_option maxHeartbeats 1000000 in
theorem equal_any (A B : Option Addr) (n c : Nat) (l : List Bind) (w : World) (hn : n ≤ maxLen) (h1 : Sl bdT w (low w.heap.size) A n l) (h2 : Sl bdT w (low w.heap.size) B n l) :
    Calls Try.prog 24 #[.slice A n n, .slice B n c] w fun e w' => e = .returned (.bool true) ∧ Kept w w' := by
  unfold maxLen at hn
  go_enter Try.func24, Try.ntmps24
  go_wp2_with fail
  go_loopg [5] n (fun g s5 wr => ∃ k : Nat, k + g = n ∧ s5 = .int .i64 k ∧ Kept w wr)
  case atStart => exact ⟨0, by omega, rfl, Below.refl _ _⟩
  case round =>
    obtain ⟨k, hk, rfl, hkw⟩ := hrel
    have Hk := hide hk
    clear hk
    by_cases hlt : k < n
    · have hlt' : (k : Int) < (n : Int) := by omega
      have hk0 : (0 : Int) ≤ (k : Int) := by omega
      obtain ⟨x, b, off, hx, rfl, hb, hbr, hxl, x0, x1, x2⟩ := bd_at h1 hkw hlt
      obtain ⟨y, b2, off2, hy, rfl, hb2, hb2r, hyl, y0, y1, y2⟩ := bd_at h2 hkw hlt
      rw [hx] at hy
      injection hy with hy
      subst hy
      clear hx
      go_upto_region 6 with (fail)
      go_quiet (fail)
      go_wp2_with fail
      go_roundg (gk - 1)
      case measure => have := Hk.out; omega
      case rel => exact ⟨k + 1, by have := Hk.out; omega, by go_num, below_drewN hkw _⟩
    · have hlt' : (n : Int) ≤ (k : Int) := by omega
      go_wp2_with fail
      go_ret
      exact ⟨rfl, hkw⟩
end Go.Proofs.Ytgkhenplbljbbaa
