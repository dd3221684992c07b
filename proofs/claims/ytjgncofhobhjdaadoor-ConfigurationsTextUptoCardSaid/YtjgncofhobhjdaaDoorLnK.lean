/- number and named (the law's). The library's table of powers is as the program lays it. -/
import Derived.Test.YtjgncofhobhjdaaDoorChecked
import Derived.Deep.RegionHeld3
import Derived.Deep.DrawnRows
import Derived.Deep.DeepCutAuto
import Derived.Deep.LoopGhost
import Derived.Outline
import Derived.Handy
import Derived.OwnWalk
import Derived.BigQuiet
import Derived.Laws.Concat
import Derived.Test.YtjgncofhobhjdaaDoorZpK
set_option linter.unusedVariables false
set_option linter.unusedSimpArgs false
set_option linter.unusedSectionVars false
namespace Go.Proofs.YtjgncofhobhjdaaDoor
open Go.RowKit
attribute [local go_sem ↓] Go.wp_at_zero Go.wp_at_succ

theorem B8_app (a b : List UInt8) : B8 a ++ B8 b = B8 (a ++ b) := B8_inj (by simp [B8])
theorem number_any (n : Int) (w : World) (h0 : -9223372036854775808 ≤ n) (h1 : n ≤ 9223372036854775807) (hT : Tabs w) :
    Calls Tryd.prog 23 #[.int .i64 n] w fun e w' => e = .returned (.string (B8 (Lib.itoa n))) ∧ Kept w w' := by
  have h := itoa_any n w h0 h1 hT
  go_enter Tryd.func23, Tryd.ntmps23
  go_wp2_with (go_at_call 55; refine h.mono ?_; rintro e w1 ⟨rfl, hk1⟩)
  go_ret
  exact ⟨rfl, hk1⟩
theorem numberw_any (n : Int) (w : World) (h0 : 0 ≤ n) (h1 : n ≤ 1000000) (hT : Tabs w) :
    Calls Tryd.prog 23 #[.int .i64 (IntKind.i64.wrap n)] w fun e w' => e = .returned (.string (B8 (Lib.itoa n))) ∧ Kept w w' := by
  have hw : IntKind.i64.wrap n = n := by rw [IntKind.wrap_i64]; omega
  rw [hw]
  exact number_any n w (by omega) (by omega) hT
theorem named_any (n : Int) (w : World) (hn : u8k n) (hT : Tabs w) :
    Calls Tryd.prog 24 #[.int .u8 n] w fun e w' => e = .returned (.string (B8 (namedW n))) ∧ Kept w w' := by
  obtain ⟨n0, n1⟩ := hn
  by_cases h0 : n = 0
  · subst h0
    go_enter Tryd.func24, Tryd.ntmps24
    go_wp2_with fail
    go_ret
    exact ⟨rfl, Below.refl _ _⟩
  · have hq : (n == 0) = false := by simpa using h0
    have hw : IntKind.i64.wrap n = n := by rw [IntKind.wrap_i64]; omega
    have h := number_any n w (by omega) (by omega) hT
    have hl := itoa_30 (n := n) ⟨n0, n1⟩
    obtain ⟨S, hS⟩ : ∃ S, B8 (Lib.itoa n) = S := ⟨_, rfl⟩
    have hsz : S.size ≤ 30 := by rw [← hS]; exact hl
    rw [hS] at h
    have hf : ¬ 9223372036854775807 < 6 + S.size := by omega
    have hr : B8 (namedW n) = B8 sXText ++ S := by
      rw [← hS, B8_app]
      unfold namedW
      rw [if_neg h0]
    rw [hr]
    clear hS hr hl h0
    go_enter Tryd.func24, Tryd.ntmps24
    go_wp2_with (go_at_call 23; refine h.mono ?_; rintro e w1 ⟨rfl, hk1⟩)
    go_ret
    exact ⟨rfl, hk1⟩
end Go.Proofs.YtjgncofhobhjdaaDoor
