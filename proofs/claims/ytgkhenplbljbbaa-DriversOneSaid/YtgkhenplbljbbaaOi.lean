/- The arguments of DriversOne: changes. No condition. -/
import Derived.Test.YtgkhenplbljbbaaOh
import Derived.Test.YtgkhenplbljbbaaHx
set_option linter.unusedVariables false
set_option linter.unusedSimpArgs false
set_option linter.unusedSectionVars false
namespace Go.Proofs.Ytgkhenplbljbbaa
open Go.RowKit Go.ChangeShapes Go.WideShapes
theorem field_bool {H : Type} {enc : TypeId × Value → H} {P : Program} {W : World} {base : Nat} {sp : Nat → Bool} {hd : Bool} {fuel : Nat} {t : TypeId} {cs : List Value} {x : DataW H × List MemPlace} {fs : Array Field}
    (ht : P.underlying t = some (.struct fs)) (h : DataW.trod enc P W base sp hd fuel t cs = some x) (i : Nat) (f : Field) (hf : fs[i]? = some f) (hk : P.underlying f.type = some .bool) (h1 : P.cellsOf f.type = 1) :
    ∃ b : Bool, cs[f.offset]? = some (.bool b) := by
  obtain ⟨xs, n, _, _, _, hl, hg⟩ := DataW.trod_struct ht h
  have hi : i < fs.size := (Array.getElem?_eq_some_iff.1 hf).1
  have h2 := hg i f hf
  rw [h1, List.getElem?_eq_getElem (by omega)] at h2
  obtain ⟨s, hm, _⟩ := DataW.trod_bool hk h2
  refine ⟨s, ?_⟩
  have h3 := congrArg (fun l => l[0]?) hm
  simpa using h3
/-- a field that is a struct itself -/
theorem field_part {H : Type} {enc : TypeId × Value → H} {P : Program} {W : World} {base : Nat} {sp : Nat → Bool} {hd : Bool} {fuel : Nat} {t : TypeId} {cs : List Value} {x : DataW H × List MemPlace} {fs : Array Field}
    (ht : P.underlying t = some (.struct fs)) (h : DataW.trod enc P W base sp hd fuel t cs = some x) (i : Nat) (f : Field) (hf : fs[i]? = some f) :
    ∃ n y, DataW.trod enc P W base sp hd n f.type ((cs.drop f.offset).take (P.cellsOf f.type)) = some y := by
  obtain ⟨xs, n, _, _, _, hl, hg⟩ := DataW.trod_struct ht h
  have hi : i < fs.size := (Array.getElem?_eq_some_iff.1 hf).1
  have h2 := hg i f hf
  rw [List.getElem?_eq_getElem (by omega)] at h2
  exact ⟨n, _, h2⟩
theorem cells76 : Try.prog.cellsOf 76 = 5 := by kernel_rfl
theorem cells4 : Try.prog.cellsOf 4 = 1 := by kernel_rfl
set_option maxRecDepth 100000 in
theorem opensAct : Opens Try.prog 76 acT (fun _ => True) := by
  intro H enc W fuel cs x hx
  obtain ⟨n0, e0, w0⟩ := field_int Try.underlying76 hx 0 _ rfl Try.underlying5 cells5
  obtain ⟨b1, e1⟩ := field_bool Try.underlying76 hx 1 _ rfl Try.underlying4 cells4
  obtain ⟨m, y, hy⟩ := field_part Try.underlying76 hx 2 _ rfl
  obtain ⟨n4, e4, w4⟩ := field_int Try.underlying76 hx 3 _ rfl Try.underlying29 cells16
  obtain ⟨xs, n, _, _, hl, _, _⟩ := DataW.trod_struct Try.underlying76 hx
  rw [cells76] at hl
  match cs, hl with
  | [c0, c1, c2, c3, c4], _ =>
    obtain ⟨n2, e2, w2⟩ := field_int Try.underlying37 hy 0 _ rfl Try.underlying5 cells5
    obtain ⟨c3', a, e3, ha, _⟩ := field_opens Try.underlying37 hy 1 _ rfl cells35 rfl opens35
    have a0 : c0 = .int .u8 n0 := by simpa using e0
    have a1 : c1 = .bool b1 := by simpa using e1
    have a2 : c2 = .int .u8 n2 := by simpa [cells37] using e2
    have a3 : c3 = c3' := by simpa [cells37] using e3
    have a4 : c4 = .int .u16 n4 := by simpa using e4
    subst a0 a1 a2 a3 a4
    obtain ⟨A, c, e, h1, h2, h3⟩ := ha
    injection e with e _
    subst e
    exact ⟨⟨n0, b1, n2, a, n4⟩, ⟨A, c, rfl, h1, h2, u8_of w0, u8_of w2, u16_of w4, h3⟩, trivial⟩
theorem opens68 : Opens Try.prog 68 acT.slice (fun _ => True) := by
  intro H enc W fuel cs x hx
  obtain ⟨a, ha, _⟩ := opens_slice Try.underlying68 cells76 (by decide) opensAct hx
  exact ⟨a, ha, trivial⟩
end Go.Proofs.Ytgkhenplbljbbaa
