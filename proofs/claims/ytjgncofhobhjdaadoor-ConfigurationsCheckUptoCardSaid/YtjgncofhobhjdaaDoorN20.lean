/- Arguments that are bytes. -/
import Derived.Test.YtjgncofhobhjdaaDoorChecked
import Derived.Deep.RegionHeld3
import Derived.Deep.DrawnRows
import Derived.Deep.DeepCutAuto
import Derived.Deep.LoopGhost
import Derived.Outline
import Derived.Handy
import Derived.OwnWalk
import Derived.BigQuiet
import Derived.Test.YtjgncofhobhjdaaDoorN15
set_option linter.unusedVariables false
set_option linter.unusedSimpArgs false
set_option linter.unusedSectionVars false
/- Arguments that are bytes. No condition. -/
namespace Go.Proofs.YtjgncofhobhjdaaDoor
open Go.RowKit
theorem opens_8 : Opens Tryd.prog 5 u8T u8k := by
  intro H enc W fuel cs x hx
  obtain ⟨m, hm, _, hw⟩ := DataW.trod_int Tryd.underlying5 hx
  exact ⟨m, ⟨hm, u8_of hw⟩, u8_of hw⟩
theorem opensL8 : Opens Tryd.prog 34 u8T.slice (fun xs => ∀ x ∈ xs, u8k x) := opens_slice Tryd.underlying34 cells_u8 (by decide) opens_8
end Go.Proofs.YtjgncofhobhjdaaDoor
