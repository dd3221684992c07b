/- Arguments that are two bytes. No condition. -/
import Derived.Test.YtjgncofhobhjdaaDoorChecked
import Derived.Deep.RegionHeld3
import Derived.Deep.DrawnRows
import Derived.Deep.DeepCutAuto
import Derived.Deep.LoopGhost
import Derived.Outline
import Derived.Handy
import Derived.OwnWalk
import Derived.BigQuiet
import Derived.Test.YtjgncofhobhjdaaDoorN15
set_option linter.unusedVariables false
set_option linter.unusedSimpArgs false
set_option linter.unusedSectionVars false
namespace Go.Proofs.YtjgncofhobhjdaaDoor
open Go.RowKit
theorem arr_int {H : Type} {enc : TypeId × Value → H} {P : Program} {W : World} {base : Nat} {sp : Nat → Bool} {hd : Bool} {fuel : Nat} {t e : TypeId} {n : Nat} {cs : List Value} {x : DataW H × List MemPlace} {k : IntKind}
    (ht : P.underlying t = some (.array n e)) (h : DataW.trod enc P W base sp hd fuel t cs = some x) (i : Nat) (hi : i < n) (hk : P.underlying e = some (.int k)) (h1 : P.cellsOf e = 1) :
    ∃ m, cs[i]? = some (.int k m) ∧ (Lit.int k m).wf = true := by
  obtain ⟨xs, m, _, _, hl, hxl, hall⟩ := DataW.trod_array ht h
  have h2 := hall i hi
  rw [List.getElem?_eq_getElem (show i < xs.length by omega)] at h2
  obtain ⟨u, hu, _, hw⟩ := DataW.trod_int hk h2
  refine ⟨u, ?_, hw⟩
  rw [h1, Nat.mul_one] at hu
  have h3 := congrArg (fun l => l[0]?) hu
  simpa using h3
theorem okWide_array {P : Program} {w : World} {r : Reach} {b : Nat} {t : TypeId} {n : Nat} {e : TypeId} {v : Value} (hs : P.underlying t = some (.array n e)) (h : Value.okWide P w r b t v) : ∃ cs, v = .agg cs ∧ cs.size = P.cellsOf t := by
  simp only [Value.okWide, hs] at h
  obtain ⟨cs, h1, h2, _⟩ := h
  exact ⟨cs, h1, h2⟩
theorem arr2 {c : Array Value} {x0 x1 : Value} (hs : c.size = 2) (e0 : c.toList[0]? = some x0) (e1 : c.toList[1]? = some x1) : c = #[x0, x1] := by
  obtain ⟨l⟩ := c
  match l, hs with
  | [y0, y1], _ =>
    simp at e0 e1
    simp [e0, e1]
theorem cells_how : Tryd.prog.cellsOf 44 = 2 := by kernel_rfl
set_option maxRecDepth 100000 in
/-- two bytes that come in -/
theorem arg_two {H : Type} {enc : TypeId × Value → H} {W : World} {B : Nat} {v : Value} {base : Nat} {sp : Nat → Bool} {hd : Bool} {fuel : Nat} {x : DataW H × List MemPlace}
    (hv : Value.okWide Tryd.prog W .any B 44 v) (h : DataW.trod enc Tryd.prog W base sp hd fuel 44 v.cells.toList = some x) :
    ∃ k r : Int, v = .agg #[.int .u8 k, .int .u8 r] ∧ (0 ≤ k ∧ k < 256) ∧ (0 ≤ r ∧ r < 256) := by
  obtain ⟨c0, rfl, hs0⟩ := okWide_array Tryd.underlying44 hv
  obtain ⟨k, e0, w0⟩ := arr_int Tryd.underlying44 h 0 (by decide) Tryd.underlying5 cells_u8
  obtain ⟨r, e1, w1⟩ := arr_int Tryd.underlying44 h 1 (by decide) Tryd.underlying5 cells_u8
  have a0 := arr2 (hs0.trans cells_how) e0 e1
  subst a0
  exact ⟨k, r, rfl, u8_of w0, u8_of w1⟩
end Go.Proofs.YtjgncofhobhjdaaDoor
