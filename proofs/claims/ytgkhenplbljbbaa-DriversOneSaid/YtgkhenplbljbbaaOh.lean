/- The arguments of DriversCheck and DriversOne: drivers; configurations of plain data. No condition. -/
import Derived.Test.YtgkhenplbljbbaaChecked
import Derived.Test.YtgkhenplbljbbaaOp
import Derived.Test.YtgkhenplbljbbaaOd
import Derived.Test.YtgkhenplbljbbaaEa
set_option linter.unusedVariables false
set_option linter.unusedSimpArgs false
set_option linter.unusedSectionVars false
namespace Go.Proofs.Ytgkhenplbljbbaa
open Go.RowKit Go.ChangeShapes Go.WideShapes
theorem field_opens {α : Type} {T : Ty α} {ok : α → Prop} {H : Type} {enc : TypeId × Value → H} {P : Program} {W : World} {fuel : Nat} {t : TypeId} {cs : List Value} {x : DataW H × List MemPlace} {fs : Array Field}
    (ht : P.underlying t = some (.struct fs)) (h : DataW.trod enc P W 0 (fun _ => true) true fuel t cs = some x) (i : Nat) (f : Field) (hf : fs[i]? = some f) (h1 : P.cellsOf f.type = 1) (hs : T.size = 1) (ho : Opens P f.type T ok) :
    ∃ c a, cs[f.offset]? = some c ∧ T.rel W (low W.heap.size) a [c] ∧ ok a := by
  obtain ⟨xs, n, _, _, _, hl, hg⟩ := DataW.trod_struct ht h
  have hi : i < fs.size := (Array.getElem?_eq_some_iff.1 hf).1
  have h2 := hg i f hf
  rw [h1, List.getElem?_eq_getElem (by omega)] at h2
  obtain ⟨a, ha, hok⟩ := ho h2
  have hT := (T.len ha).trans hs
  cases hc : cs[f.offset]? with
  | none =>
    rw [List.getElem?_eq_none_iff] at hc
    rw [List.drop_of_length_le hc] at hT
    simp at hT
  | some c =>
    obtain ⟨hlt, e⟩ := List.getElem?_eq_some_iff.1 hc
    rw [List.drop_eq_getElem_cons hlt, e] at ha
    exact ⟨c, a, rfl, by simpa using ha, hok⟩
theorem arr2 {c : Array Value} {x0 x1 : Value} (hs : c.size = 2) (e0 : c.toList[0]? = some x0) (e1 : c.toList[1]? = some x1) : c = #[x0, x1] := by
  obtain ⟨l⟩ := c
  match l, hs with
  | [y0, y1], _ =>
    simp at e0 e1
    simp [e0, e1]
theorem opens8 : Opens Try.prog 5 u8T (fun _ => True) := by
  intro H enc W fuel cs x hx
  obtain ⟨m, hm, _, hw⟩ := DataW.trod_int Try.underlying5 hx
  exact ⟨m, ⟨hm, u8_of hw⟩, trivial⟩
theorem cells98 : Try.prog.cellsOf 98 = 2 := by kernel_rfl
theorem cells26 : Try.prog.cellsOf 26 = 1 := by kernel_rfl
theorem cells35 : Try.prog.cellsOf 35 = 1 := by kernel_rfl
theorem cells37 : Try.prog.cellsOf 37 = 2 := by kernel_rfl
theorem opens26 : Opens Try.prog 26 u8T.slice (fun _ => True) := by
  intro H enc W fuel cs x hx
  obtain ⟨a, ha, _⟩ := opens_slice Try.underlying26 cells5 (by decide) opens8 hx
  exact ⟨a, ha, trivial⟩
set_option maxRecDepth 100000 in
theorem opensC : Opens Try.prog 98 cpT (fun _ => True) := by
  intro H enc W fuel cs x hx
  obtain ⟨n0, e0, w0⟩ := field_int Try.underlying98 hx 0 _ rfl Try.underlying5 cells5
  obtain ⟨c1', a, e1, ha, _⟩ := field_opens Try.underlying98 hx 1 _ rfl cells26 rfl opens26
  obtain ⟨xs, n, _, _, hl, _, _⟩ := DataW.trod_struct Try.underlying98 hx
  rw [cells98] at hl
  match cs, hl with
  | [c0, c1], _ =>
    have a0 : c0 = .int .u8 n0 := by simpa using e0
    have a1 : c1 = c1' := by simpa using e1
    subst a0 a1
    obtain ⟨A, c, e, h1, h2, h3⟩ := ha
    injection e with e _
    subst e
    exact ⟨⟨n0, a⟩, ⟨A, c, rfl, h1, h2, u8_of w0, h3⟩, trivial⟩
theorem opens35 : Opens Try.prog 35 cpT.slice (fun _ => True) := by
  intro H enc W fuel cs x hx
  obtain ⟨a, ha, _⟩ := opens_slice Try.underlying35 cells98 (by decide) opensC hx
  exact ⟨a, ha, trivial⟩
theorem field_string {H : Type} {enc : TypeId × Value → H} {P : Program} {W : World} {base : Nat} {sp : Nat → Bool} {hd : Bool} {fuel : Nat} {t : TypeId} {cs : List Value} {x : DataW H × List MemPlace} {fs : Array Field}
    (ht : P.underlying t = some (.struct fs)) (h : DataW.trod enc P W base sp hd fuel t cs = some x) (i : Nat) (f : Field) (hf : fs[i]? = some f) (hk : P.underlying f.type = some .string) (h1 : P.cellsOf f.type = 1) :
    ∃ s : ByteArray, cs[f.offset]? = some (.string s) ∧ s.size ≤ maxLen := by
  obtain ⟨xs, n, _, _, _, hl, hg⟩ := DataW.trod_struct ht h
  have hi : i < fs.size := (Array.getElem?_eq_some_iff.1 hf).1
  have h2 := hg i f hf
  rw [h1, List.getElem?_eq_getElem (by omega)] at h2
  obtain ⟨s, hm, _, hw⟩ := DataW.trod_string hk h2
  refine ⟨s, ?_, hw⟩
  have h3 := congrArg (fun l => l[0]?) hm
  simpa using h3
theorem cells43 : Try.prog.cellsOf 43 = 6 := by kernel_rfl
theorem cells16 : Try.prog.cellsOf 29 = 1 := by kernel_rfl
theorem cells9 : Try.prog.cellsOf 9 = 1 := by kernel_rfl
theorem cells39 : Try.prog.cellsOf 39 = 1 := by kernel_rfl
theorem cells41 : Try.prog.cellsOf 41 = 2 := by kernel_rfl
set_option maxRecDepth 100000 in
theorem opensRule : Opens Try.prog 43 ruleT (fun _ => True) := by
  intro H enc W fuel cs x hx
  obtain ⟨n0, e0, w0⟩ := field_int Try.underlying43 hx 0 _ rfl Try.underlying5 cells5
  obtain ⟨n1, e1, w1⟩ := field_int Try.underlying43 hx 1 _ rfl Try.underlying29 cells16
  obtain ⟨n2, e2, w2⟩ := field_int Try.underlying43 hx 2 _ rfl Try.underlying29 cells16
  obtain ⟨n3, e3, w3⟩ := field_int Try.underlying43 hx 3 _ rfl Try.underlying5 cells5
  obtain ⟨n4, e4, w4⟩ := field_int Try.underlying43 hx 4 _ rfl Try.underlying5 cells5
  obtain ⟨n5, e5, w5⟩ := field_int Try.underlying43 hx 5 _ rfl Try.underlying5 cells5
  obtain ⟨xs, n, _, _, hl, _, _⟩ := DataW.trod_struct Try.underlying43 hx
  rw [cells43] at hl
  match cs, hl with
  | [c0, c1, c2, c3, c4, c5], _ =>
    have a0 : c0 = .int .u8 n0 := by simpa using e0
    have a1 : c1 = .int .u16 n1 := by simpa using e1
    have a2 : c2 = .int .u16 n2 := by simpa using e2
    have a3 : c3 = .int .u8 n3 := by simpa using e3
    have a4 : c4 = .int .u8 n4 := by simpa using e4
    have a5 : c5 = .int .u8 n5 := by simpa using e5
    subst a0 a1 a2 a3 a4 a5
    exact ⟨⟨n0, n1, n2, n3, n4, n5⟩, ⟨rfl, u8_of w0⟩, trivial⟩
theorem opens39 : Opens Try.prog 39 ruleT.slice (fun _ => True) := by
  intro H enc W fuel cs x hx
  obtain ⟨a, ha, _⟩ := opens_slice Try.underlying39 cells43 (by decide) opensRule hx
  exact ⟨a, ha, trivial⟩
set_option maxRecDepth 100000 in
theorem opensDrv : Opens Try.prog 41 drvT (fun _ => True) := by
  intro H enc W fuel cs x hx
  obtain ⟨s, e0, w0⟩ := field_string Try.underlying41 hx 0 _ rfl Try.underlying9 cells9
  obtain ⟨c1', a, e1, ha, _⟩ := field_opens Try.underlying41 hx 1 _ rfl cells39 rfl opens39
  obtain ⟨xs, n, _, _, hl, _, _⟩ := DataW.trod_struct Try.underlying41 hx
  rw [cells41] at hl
  match cs, hl with
  | [c0, c1], _ =>
    have a0 : c0 = .string s := by simpa using e0
    have a1 : c1 = c1' := by simpa using e1
    subst a0 a1
    obtain ⟨A, c, e, h1, h2, h3⟩ := ha
    injection e with e _
    subst e
    exact ⟨⟨s, a⟩, ⟨A, c, rfl, h1, h2, w0, h3⟩, trivial⟩
theorem opens24 : Opens Try.prog 24 drvT.slice (fun _ => True) := by
  intro H enc W fuel cs x hx
  obtain ⟨a, ha, _⟩ := opens_slice Try.underlying24 cells41 (by decide) opensDrv hx
  exact ⟨a, ha, trivial⟩
end Go.Proofs.Ytgkhenplbljbbaa
