
/- window: the iterator's value. -/
import Derived.Test.YtdkinfglpnajmaaChecked
import Derived.Deep.RegionHeld3
import Derived.Deep.DrawnRows
import Derived.Deep.DeepCutAuto
import Derived.Deep.LoopGhost
import Derived.Outline
import Derived.Handy
import Derived.OwnWalk
import Derived.IntWalk
import Derived.Test.YtdkinfglpnajmaaGb
set_option linter.unusedVariables false
set_option linter.unusedSimpArgs false
set_option linter.unusedSectionVars false
namespace Go.Proofs.Ytdkinfglpnajmaa
open Go.RowKit
attribute [local go_sem ↓] Go.wp_at_zero Go.wp_at_succ

/-- the world with the three boxes of a window -/
def boxes (w : World) (A : Option Addr) (n c : Nat) (f t : Int) : World := ((w.alloc (.cells #[.slice A n c] 25)).alloc (.cells #[.int .i64 f] 3)).alloc (.cells #[.int .i64 t] 3)
theorem window_any (A : Option Addr) (n c : Nat) (f t : Int) (w : World) :
    Calls Try.prog 28 #[.slice A n c, .int .i64 f, .int .i64 t] w fun e w' => e = .returned (.func (.func 32) #[] #[.pointer (some ⟨w.heap.size, 0, none⟩), .pointer (some ⟨w.heap.size + 1, 0, none⟩), .pointer (some ⟨w.heap.size + 1 + 1, 0, none⟩)]) ∧ boxes w A n c f t = w' := by
  go_enter Try.func28, Try.ntmps28
  go_wp2_with fail
  go_ret
  exact ⟨rfl, rfl⟩
end Go.Proofs.Ytdkinfglpnajmaa
