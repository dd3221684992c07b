
/- Two requests apart: the law, whole. The library's variables are as the program lays them. -/
import Derived.Test.YtfoeihbajichpaaDoorVb
import Derived.Test.YtfoeihbajichpaaDoorSq
set_option linter.unusedVariables false
set_option linter.unusedSimpArgs false
set_option linter.unusedSectionVars false
namespace Go.Proofs.YtfoeihbajichpaaDoor
open Go.RowKit Go.Lib
theorem lawapart_any (t c v x l t2 c2 v2 x2 l2 : Int) (w : World) (hT : Tabs w) (hr : Rq.ok ⟨t, c, v, x, l⟩) (hq : Rq.ok ⟨t2, c2, v2, x2, l2⟩) :
    Calls Tryd.prog 7 #[.agg #[.int .u8 (t), .int .u8 (c), .int .u16 (v), .int .u16 (x), .int .u16 (l)], .agg #[.int .u8 (t2), .int .u8 (c2), .int .u16 (v2), .int .u16 (x2), .int .u16 (l2)]] w fun e w' => e = .returned (.bool true) ∧ Kept w w' := by
  by_cases h : (⟨t, c, v, x, l⟩ : Rq) = ⟨t2, c2, v2, x2, l2⟩
  · injection h with h1 h2 h3 h4 h5
    subst h1 h2 h3 h4 h5
    exact apart_eq lives_any t c v x l w hT hr
  · exact apart_ne lives_any t c v x l t2 c2 v2 x2 l2 w hT hr hq h
end Go.Proofs.YtfoeihbajichpaaDoor
