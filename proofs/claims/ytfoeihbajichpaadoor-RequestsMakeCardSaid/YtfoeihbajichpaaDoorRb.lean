/- The frame of the chapter's laws, continued: arguments. No condition. -/
import Derived.Test.YtfoeihbajichpaaDoorRa
import Derived.Test.YtfoeihbajichpaaDoorOp
set_option linter.unusedVariables false
set_option linter.unusedSimpArgs false
set_option linter.unusedSectionVars false
namespace Go.Proofs.YtfoeihbajichpaaDoor
open Go.ChangeShapes Go.WideShapes Go.ChangeAt Go.RowKit Go.Shelf Go.Lib

theorem arr_int {H : Type} {enc : TypeId × Value → H} {P : Program} {W : World} {base : Nat} {sp : Nat → Bool} {hd : Bool} {fuel : Nat} {t e : TypeId} {n : Nat} {cs : List Value} {x : DataW H × List MemPlace} {k : IntKind}
    (ht : P.underlying t = some (.array n e)) (h : DataW.trod enc P W base sp hd fuel t cs = some x) (i : Nat) (hi : i < n) (hk : P.underlying e = some (.int k)) (h1 : P.cellsOf e = 1) :
    ∃ m, cs[i]? = some (.int k m) ∧ (Lit.int k m).wf = true := by
  obtain ⟨xs, m, _, _, hl, hxl, hall⟩ := DataW.trod_array ht h
  have h2 := hall i hi
  rw [List.getElem?_eq_getElem (show i < xs.length by omega)] at h2
  obtain ⟨u, hu, _, hw⟩ := DataW.trod_int hk h2
  refine ⟨u, ?_, hw⟩
  rw [h1, Nat.mul_one] at hu
  have h3 := congrArg (fun l => l[0]?) hu
  simpa using h3
theorem okWide_array {P : Program} {w : World} {r : Reach} {b : Nat} {t : TypeId} {n : Nat} {e : TypeId} {v : Value} (hs : P.underlying t = some (.array n e)) (h : Value.okWide P w r b t v) : ∃ cs, v = .agg cs ∧ cs.size = P.cellsOf t := by
  simp only [Value.okWide, hs] at h
  obtain ⟨cs, h1, h2, _⟩ := h
  exact ⟨cs, h1, h2⟩
theorem cells5 : Tryd.prog.cellsOf 5 = 1 := by kernel_rfl
theorem cells23 : Tryd.prog.cellsOf 23 = 1 := by kernel_rfl
theorem cells22 : Tryd.prog.cellsOf 22 = 2 := by kernel_rfl
theorem cells25 : Tryd.prog.cellsOf 25 = 5 := by kernel_rfl
theorem arr2 {c : Array Value} {x0 x1 : Value} (hs : c.size = 2) (e0 : c.toList[0]? = some x0) (e1 : c.toList[1]? = some x1) : c = #[x0, x1] := by
  obtain ⟨l⟩ := c
  match l, hs with
  | [y0, y1], _ =>
    simp at e0 e1
    simp [e0, e1]
theorem arr5 {c : Array Value} {x0 x1 x2 x3 x4 : Value} (hs : c.size = 5) (e0 : c.toList[0]? = some x0) (e1 : c.toList[1]? = some x1) (e2 : c.toList[2]? = some x2) (e3 : c.toList[3]? = some x3) (e4 : c.toList[4]? = some x4) : c = #[x0, x1, x2, x3, x4] := by
  obtain ⟨l⟩ := c
  match l, hs with
  | [y0, y1, y2, y3, y4], _ =>
    simp at e0 e1 e2 e3 e4
    simp [e0, e1, e2, e3, e4]
set_option maxRecDepth 100000 in
/-- a request that comes in -/
theorem arg_rq {H : Type} {enc : TypeId × Value → H} {W : World} {B : Nat} {v : Value} {base : Nat} {sp : Nat → Bool} {hd : Bool} {fuel : Nat} {x : DataW H × List MemPlace}
    (hv : Value.okWide Tryd.prog W .any B 25 v) (h : DataW.trod enc Tryd.prog W base sp hd fuel 25 v.cells.toList = some x) :
    ∃ t c a i l : Int, v = .agg #[.int .u8 t, .int .u8 c, .int .u16 a, .int .u16 i, .int .u16 l] ∧ Rq.ok ⟨t, c, a, i, l⟩ := by
  obtain ⟨c0, rfl, hs0⟩ := okWide_struct Tryd.underlying25 hv
  obtain ⟨t, e0, w0⟩ := field_int Tryd.underlying25 h 0 _ rfl Tryd.underlying5 cells5
  obtain ⟨c, e1, w1⟩ := field_int Tryd.underlying25 h 1 _ rfl Tryd.underlying5 cells5
  obtain ⟨a, e2, w2⟩ := field_int Tryd.underlying25 h 2 _ rfl Tryd.underlying23 cells23
  obtain ⟨i, e3, w3⟩ := field_int Tryd.underlying25 h 3 _ rfl Tryd.underlying23 cells23
  obtain ⟨l, e4, w4⟩ := field_int Tryd.underlying25 h 4 _ rfl Tryd.underlying23 cells23
  have a0 := arr5 (hs0.trans cells25) e0 e1 e2 e3 e4
  subst a0
  exact ⟨t, c, a, i, l, rfl, u8_of w0, u8_of w1, u16_of w2, u16_of w3, u16_of w4⟩
set_option maxRecDepth 100000 in
/-- two bytes that come in -/
theorem arg_two {H : Type} {enc : TypeId × Value → H} {W : World} {B : Nat} {v : Value} {base : Nat} {sp : Nat → Bool} {hd : Bool} {fuel : Nat} {x : DataW H × List MemPlace}
    (hv : Value.okWide Tryd.prog W .any B 22 v) (h : DataW.trod enc Tryd.prog W base sp hd fuel 22 v.cells.toList = some x) :
    ∃ k r : Int, v = .agg #[.int .u8 k, .int .u8 r] ∧ (0 ≤ k ∧ k < 256) ∧ (0 ≤ r ∧ r < 256) := by
  obtain ⟨c0, rfl, hs0⟩ := okWide_array Tryd.underlying22 hv
  obtain ⟨k, e0, w0⟩ := arr_int Tryd.underlying22 h 0 (by decide) Tryd.underlying5 cells5
  obtain ⟨r, e1, w1⟩ := arr_int Tryd.underlying22 h 1 (by decide) Tryd.underlying5 cells5
  have a0 := arr2 (hs0.trans cells22) e0 e1
  subst a0
  exact ⟨k, r, rfl, u8_of w0, u8_of w1⟩
end Go.Proofs.YtfoeihbajichpaaDoor
