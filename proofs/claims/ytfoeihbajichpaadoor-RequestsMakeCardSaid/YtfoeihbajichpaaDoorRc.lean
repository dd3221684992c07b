/- The frame of the chapter's laws, continued: more arguments. No condition. -/
import Derived.Test.YtfoeihbajichpaaDoorRb
import Derived.Test.YtfoeihbajichpaaDoorKg
set_option linter.unusedVariables false
set_option linter.unusedSimpArgs false
set_option linter.unusedSectionVars false
namespace Go.Proofs.YtfoeihbajichpaaDoor
open Go.ChangeShapes Go.WideShapes Go.ChangeAt Go.RowKit Go.Shelf Go.Lib

theorem field_bool {H : Type} {enc : TypeId × Value → H} {P : Program} {W : World} {base : Nat} {sp : Nat → Bool} {hd : Bool} {fuel : Nat} {t : TypeId} {cs : List Value} {x : DataW H × List MemPlace} {fs : Array Field}
    (ht : P.underlying t = some (.struct fs)) (h : DataW.trod enc P W base sp hd fuel t cs = some x) (i : Nat) (f : Field) (hf : fs[i]? = some f) (hk : P.underlying f.type = some .bool) (h1 : P.cellsOf f.type = 1) :
    ∃ b : Bool, cs[f.offset]? = some (.bool b) := by
  obtain ⟨xs, n, _, _, _, hl, hg⟩ := DataW.trod_struct ht h
  have hi : i < fs.size := (Array.getElem?_eq_some_iff.1 hf).1
  have h2 := hg i f hf
  rw [h1, List.getElem?_eq_getElem (by omega)] at h2
  obtain ⟨s, hm, _⟩ := DataW.trod_bool hk h2
  refine ⟨s, ?_⟩
  have h3 := congrArg (fun l => l[0]?) hm
  simpa using h3
theorem cells4 : Tryd.prog.cellsOf 4 = 1 := by kernel_rfl
theorem cells39 : Tryd.prog.cellsOf 39 = 5 := by kernel_rfl
theorem cells49 : Tryd.prog.cellsOf 49 = 8 := by kernel_rfl
theorem arr8 {c : Array Value} {x0 x1 x2 x3 x4 x5 x6 x7 : Value} (hs : c.size = 8) (e0 : c.toList[0]? = some x0) (e1 : c.toList[1]? = some x1) (e2 : c.toList[2]? = some x2) (e3 : c.toList[3]? = some x3) (e4 : c.toList[4]? = some x4) (e5 : c.toList[5]? = some x5) (e6 : c.toList[6]? = some x6) (e7 : c.toList[7]? = some x7) : c = #[x0, x1, x2, x3, x4, x5, x6, x7] := by
  obtain ⟨l⟩ := c
  match l, hs with
  | [y0, y1, y2, y3, y4, y5, y6, y7], _ =>
    simp at e0 e1 e2 e3 e4 e5 e6 e7
    simp [e0, e1, e2, e3, e4, e5, e6, e7]
theorem arg_u8 {H : Type} {enc : TypeId × Value → H} {W : World} {n : Int} {d : DataW H} {p : List MemPlace} (h : DataW.Trod enc Tryd.prog W 0 (fun _ => true) true 5 (.int .u8 n) d p) : 0 ≤ n ∧ n < 256 := by
  obtain ⟨fuel, hf⟩ := h
  obtain ⟨m, hm, _, hw⟩ := DataW.trod_int Tryd.underlying5 hf
  have e : n = m := by simpa [Value.cells] using hm
  subst e
  exact u8_of hw
set_option maxRecDepth 100000 in
/-- a row of the table that comes in -/
theorem arg_row {H : Type} {enc : TypeId × Value → H} {W : World} {B : Nat} {v : Value} {base : Nat} {sp : Nat → Bool} {hd : Bool} {fuel : Nat} {x : DataW H × List MemPlace}
    (hv : Value.okWide Tryd.prog W .any B 39 v) (h : DataW.trod enc Tryd.prog W base sp hd fuel 39 v.cells.toList = some x) :
    ∃ (a q i l : Int) (b : Bool), v = .agg #[.int .u8 a, .int .u16 q, .int .u8 i, .bool b, .int .u16 l] ∧ (0 ≤ a ∧ a < 256) ∧ (0 ≤ q ∧ q < 65536) ∧ (0 ≤ i ∧ i < 256) ∧ (0 ≤ l ∧ l < 65536) := by
  obtain ⟨c0, rfl, hs0⟩ := okWide_struct Tryd.underlying39 hv
  obtain ⟨a, e0, w0⟩ := field_int Tryd.underlying39 h 0 _ rfl Tryd.underlying5 cells5
  obtain ⟨q, e1, w1⟩ := field_int Tryd.underlying39 h 1 _ rfl Tryd.underlying23 cells23
  obtain ⟨i, e2, w2⟩ := field_int Tryd.underlying39 h 2 _ rfl Tryd.underlying5 cells5
  obtain ⟨b, e3⟩ := field_bool Tryd.underlying39 h 3 _ rfl Tryd.underlying4 cells4
  obtain ⟨l, e4, w4⟩ := field_int Tryd.underlying39 h 4 _ rfl Tryd.underlying23 cells23
  have a0 := arr5 (hs0.trans cells39) e0 e1 e2 e3 e4
  subst a0
  exact ⟨a, q, i, l, b, rfl, u8_of w0, u16_of w1, u8_of w2, u16_of w4⟩
set_option maxRecDepth 100000 in
/-- what requests are made of, as it comes in -/
theorem arg_make {H : Type} {enc : TypeId × Value → H} {W : World} {B : Nat} {v : Value} {base : Nat} {sp : Nat → Bool} {hd : Bool} {fuel : Nat} {x : DataW H × List MemPlace}
    (hv : Value.okWide Tryd.prog W .any B 49 v) (h : DataW.trod enc Tryd.prog W base sp hd fuel 49 v.cells.toList = some x) :
    ∃ (s : Bool) (r a b p q l n : Int), v = .agg #[.bool s, .int .u8 r, .int .u8 a, .int .u8 b, .int .u16 p, .int .u16 q, .int .u16 l, .int .u16 n] ∧ (0 ≤ r ∧ r < 256) ∧ (0 ≤ a ∧ a < 256) ∧ (0 ≤ b ∧ b < 256) ∧ (0 ≤ p ∧ p < 65536) ∧ (0 ≤ q ∧ q < 65536) ∧ (0 ≤ l ∧ l < 65536) ∧ (0 ≤ n ∧ n < 65536) := by
  obtain ⟨c0, rfl, hs0⟩ := okWide_struct Tryd.underlying49 hv
  obtain ⟨s, e0⟩ := field_bool Tryd.underlying49 h 0 _ rfl Tryd.underlying4 cells4
  obtain ⟨r, e1, w1⟩ := field_int Tryd.underlying49 h 1 _ rfl Tryd.underlying5 cells5
  obtain ⟨a, e2, w2⟩ := field_int Tryd.underlying49 h 2 _ rfl Tryd.underlying5 cells5
  obtain ⟨b, e3, w3⟩ := field_int Tryd.underlying49 h 3 _ rfl Tryd.underlying5 cells5
  obtain ⟨p, e4, w4⟩ := field_int Tryd.underlying49 h 4 _ rfl Tryd.underlying23 cells23
  obtain ⟨q, e5, w5⟩ := field_int Tryd.underlying49 h 5 _ rfl Tryd.underlying23 cells23
  obtain ⟨l, e6, w6⟩ := field_int Tryd.underlying49 h 6 _ rfl Tryd.underlying23 cells23
  obtain ⟨n, e7, w7⟩ := field_int Tryd.underlying49 h 7 _ rfl Tryd.underlying23 cells23
  have a0 := arr8 (hs0.trans cells49) e0 e1 e2 e3 e4 e5 e6 e7
  subst a0
  exact ⟨s, r, a, b, p, q, l, n, rfl, u8_of w1, u8_of w2, u8_of w3, u16_of w4, u16_of w5, u16_of w6, u16_of w7⟩
theorem toNat_of {m : Nat} (h : m < 256) : (UInt8.ofNat m).toNat = m := by rw [UInt8.toNat_ofNat']; omega
theorem opens8 : Opens Tryd.prog 5 u8T (fun _ => True) := by
  intro H enc W fuel cs x hx
  obtain ⟨m, rfl, _, hw⟩ := DataW.trod_int Tryd.underlying5 hx
  have h := u8_of hw
  refine ⟨UInt8.ofNat m.toNat, ⟨?_, trivial⟩, trivial⟩
  show _ = [Value.int .u8 ((UInt8.ofNat m.toNat).toNat : Int)]
  rw [toNat_of (by omega), show ((m.toNat : Nat) : Int) = m by omega]
theorem opensL8 : Opens Tryd.prog 43 u8T.slice (fun xs => ∀ x ∈ xs, True) := opens_slice Tryd.underlying43 cells5 (by decide) opens8
end Go.Proofs.YtfoeihbajichpaaDoor
