/- The law Text: the line of an endpoint. Printed by gen_lv.py. -/
import Derived.Test.YtjgncofhobhjdaaDoorChecked
import Derived.Deep.RegionHeld3
import Derived.Deep.DrawnRows
import Derived.Deep.DeepCutAuto
import Derived.Deep.LoopGhost
import Derived.Outline
import Derived.Handy
import Derived.OwnWalk
import Derived.BigQuiet
import Derived.Deep.CutBlock
import Derived.Test.YtjgncofhobhjdaaDoorLnK
import Derived.Test.YtjgncofhobhjdaaDoorN1
set_option linter.unusedVariables false
set_option linter.unusedSimpArgs false
set_option linter.unusedSectionVars false
namespace Go.Proofs.YtjgncofhobhjdaaDoor
open Go.RowKit
attribute [local go_sem ↓] Go.wp_at_zero Go.wp_at_succ

noncomputable def code25t : Code := (Tryd.f8.body.bind (findR 25)).getD .skip
noncomputable def code29t : Code := (Tryd.f8.body.bind (findR 29)).getD .skip
noncomputable def ops29 : Array Oper := opsOf (headC code29t)
end Go.Proofs.YtjgncofhobhjdaaDoor
