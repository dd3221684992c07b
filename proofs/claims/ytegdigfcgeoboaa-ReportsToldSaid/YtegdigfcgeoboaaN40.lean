/- The arguments of the law Told. -/
import Derived.Test.YtegdigfcgeoboaaChecked
import Derived.Test.YtegdigfcgeoboaaN1
import Derived.Test.YtegdigfcgeoboaaN2
import Derived.Test.YtegdigfcgeoboaaZcK
set_option linter.unusedVariables false
set_option linter.unusedSimpArgs false
set_option linter.unusedSectionVars false
/- The arguments of the laws on reports: items and bytes of plain data. No condition. -/
namespace Go.Proofs.Ytegdigfcgeoboaa
open Go.RowKit Go.ChangeShapes Go.WideShapes

theorem cells29 : Try.prog.cellsOf 29 = 4 := by kernel_rfl
theorem cells5 : Try.prog.cellsOf 5 = 1 := by kernel_rfl
theorem cells3 : Try.prog.cellsOf 3 = 1 := by kernel_rfl
theorem cells27 : Try.prog.cellsOf 27 = 1 := by kernel_rfl
theorem i64_wf {n : Int} (h : (Lit.int .i64 n).wf = true) : i64k n := by
  have : -9223372036854775808 ≤ n ∧ n ≤ 9223372036854775807 := by simpa [Lit.wf, IntKind.min, IntKind.max, IntKind.signed, IntKind.bits] using h
  unfold i64k
  omega
theorem u32_wf {n : Int} (h : (Lit.int .u32 n).wf = true) : u32k n := by
  have : 0 ≤ n ∧ n ≤ 4294967295 := by simpa [Lit.wf, IntKind.min, IntKind.max, IntKind.signed, IntKind.bits] using h
  unfold u32k
  omega
set_option maxRecDepth 100000 in
theorem opensIt : Opens Try.prog 29 itT It.ok := by
  intro H enc W fuel cs x hx
  obtain ⟨n0, e0, w0⟩ := field_int Try.underlying29 hx 0 _ rfl Try.underlying5 cells5
  obtain ⟨n1, e1, w1⟩ := field_int Try.underlying29 hx 1 _ rfl Try.underlying5 cells5
  obtain ⟨n2, e2, w2⟩ := field_int Try.underlying29 hx 2 _ rfl Try.underlying3 cells3
  obtain ⟨n3, e3, w3⟩ := field_int Try.underlying29 hx 3 _ rfl Try.underlying27 cells27
  obtain ⟨xs, n, _, _, hl, _, _⟩ := DataW.trod_struct Try.underlying29 hx
  rw [cells29] at hl
  match cs, hl with
  | [c0, c1, c2, c3], _ =>
    have a0 : c0 = .int .u8 n0 := by simpa using e0
    have a1 : c1 = .int .u8 n1 := by simpa using e1
    have a2 : c2 = .int .i64 n2 := by simpa using e2
    have a3 : c3 = .int .u32 n3 := by simpa using e3
    subst a0 a1 a2 a3
    have hok : It.ok ⟨n0, n1, n2, n3⟩ := ⟨u8_of w0, u8_of w1, i64_wf w2, u32_wf w3⟩
    exact ⟨⟨n0, n1, n2, n3⟩, ⟨rfl, hok⟩, hok⟩
theorem opensL : Opens Try.prog 22 itT.slice (fun xs => ∀ x ∈ xs, x.ok) := opens_slice Try.underlying22 cells29 (by decide) opensIt
theorem opens5 : Opens Try.prog 5 u8T u8k := by
  intro H enc W fuel cs x hx
  obtain ⟨m, hm, _, hw⟩ := DataW.trod_int Try.underlying5 hx
  exact ⟨m, ⟨hm, u8_of hw⟩, u8_of hw⟩
theorem opensB : Opens Try.prog 23 u8T.slice (fun xs => ∀ x ∈ xs, u8k x) := opens_slice Try.underlying23 cells5 (by decide) opens5
end Go.Proofs.Ytegdigfcgeoboaa
/- The arguments of the law Told: a descriptor of plain data. No condition. -/
namespace Go.Proofs.Ytegdigfcgeoboaa
open Go.RowKit Go.ChangeShapes Go.WideShapes Go.Deep Go.ChangeAt
theorem field_bool {H : Type} {enc : TypeId × Value → H} {P : Program} {W : World} {base : Nat} {sp : Nat → Bool} {hd : Bool} {fuel : Nat} {t : TypeId} {cs : List Value} {x : DataW H × List MemPlace} {fs : Array Field}
    (ht : P.underlying t = some (.struct fs)) (h : DataW.trod enc P W base sp hd fuel t cs = some x) (i : Nat) (f : Field) (hf : fs[i]? = some f) (hk : P.underlying f.type = some .bool) (h1 : P.cellsOf f.type = 1) :
    ∃ b : Bool, cs[f.offset]? = some (.bool b) := by
  obtain ⟨xs, n, _, _, _, hl, hg⟩ := DataW.trod_struct ht h
  have hi : i < fs.size := (Array.getElem?_eq_some_iff.1 hf).1
  have h2 := hg i f hf
  rw [h1, List.getElem?_eq_getElem (by omega)] at h2
  obtain ⟨s, hm, _⟩ := DataW.trod_bool hk h2
  refine ⟨s, ?_⟩
  have h3 := congrArg (fun l => l[0]?) hm
  simpa using h3
/-- a field that is opened -/
theorem field_opens {α : Type} {H : Type} {enc : TypeId × Value → H} {P : Program} {W : World} {fuel : Nat} {t : TypeId} {cs : List Value} {x : DataW H × List MemPlace} {fs : Array Field} {T : Ty α} {ok : α → Prop}
    (ht : P.underlying t = some (.struct fs)) (h : DataW.trod enc P W 0 (fun _ => true) true fuel t cs = some x) (i : Nat) (f : Field) (hf : fs[i]? = some f) (h1 : P.cellsOf f.type = 1) (hs : T.size = 1) (ho : Opens P f.type T ok) :
    ∃ v a, cs[f.offset]? = some v ∧ T.rel W (low W.heap.size) a [v] ∧ ok a := by
  obtain ⟨xs, n, _, _, _, hl, hg⟩ := DataW.trod_struct ht h
  have hi : i < fs.size := (Array.getElem?_eq_some_iff.1 hf).1
  have h2 := hg i f hf
  rw [h1, List.getElem?_eq_getElem (by omega)] at h2
  obtain ⟨a, hr, hok⟩ := ho h2
  cases hc : cs[f.offset]? with
  | none =>
    rw [List.getElem?_eq_none_iff] at hc
    rw [List.drop_of_length_le hc] at hr
    have hT := (T.len hr).trans hs
    simp at hT
  | some v =>
    have hd : (cs.drop f.offset).take 1 = [v] := by
      obtain ⟨g1, g2⟩ := List.getElem?_eq_some_iff.1 hc
      rw [List.drop_eq_getElem_cons g1, g2]
      rfl
    rw [hd] at hr
    exact ⟨v, a, rfl, hr, hok⟩
theorem i16_of {n : Int} (h : (Lit.int .i16 n).wf = true) : -32768 ≤ n ∧ n ≤ 32767 := by
  have : -32768 ≤ n ∧ n ≤ 32767 := by simpa [Lit.wf, IntKind.min, IntKind.max, IntKind.signed, IntKind.bits] using h
  exact this
theorem cells65 : Try.prog.cellsOf 65 = 8 := by kernel_rfl
theorem cells62 : Try.prog.cellsOf 62 = 1 := by kernel_rfl
theorem cells63 : Try.prog.cellsOf 63 = 1 := by kernel_rfl
theorem cells50 : Try.prog.cellsOf 50 = 1 := by kernel_rfl
theorem cells4 : Try.prog.cellsOf 4 = 1 := by kernel_rfl
theorem cells52 : Try.prog.cellsOf 52 = 2 := by kernel_rfl
set_option maxRecDepth 100000 in
theorem opens65 : Opens Try.prog 65 pfT PF.ok := by
  intro H enc W fuel cs x hx
  obtain ⟨n0, e0, w0⟩ := field_int Try.underlying65 hx 0 _ rfl Try.underlying5 cells5
  obtain ⟨n1, e1, w1⟩ := field_int Try.underlying65 hx 1 _ rfl Try.underlying5 cells5
  obtain ⟨n2, e2, w2⟩ := field_int Try.underlying65 hx 2 _ rfl Try.underlying5 cells5
  obtain ⟨n3, e3, w3⟩ := field_int Try.underlying65 hx 3 _ rfl Try.underlying5 cells5
  obtain ⟨n4, e4, w4⟩ := field_int Try.underlying65 hx 4 _ rfl Try.underlying62 cells62
  obtain ⟨n5, e5, w5⟩ := field_int Try.underlying65 hx 5 _ rfl Try.underlying63 cells63
  obtain ⟨n6, e6, w6⟩ := field_int Try.underlying65 hx 6 _ rfl Try.underlying5 cells5
  obtain ⟨n7, e7, w7⟩ := field_int Try.underlying65 hx 7 _ rfl Try.underlying5 cells5
  obtain ⟨xs, n, _, _, hl, _, _⟩ := DataW.trod_struct Try.underlying65 hx
  rw [cells65] at hl
  match cs, hl with
  | [c0, c1, c2, c3, c4, c5, c6, c7], _ =>
    have a0 : c0 = .int .u8 n0 := by simpa using e0
    have a1 : c1 = .int .u8 n1 := by simpa using e1
    have a2 : c2 = .int .u8 n2 := by simpa using e2
    have a3 : c3 = .int .u8 n3 := by simpa using e3
    have a4 : c4 = .int .i16 n4 := by simpa using e4
    have a5 : c5 = .int .u16 n5 := by simpa using e5
    have a6 : c6 = .int .u8 n6 := by simpa using e6
    have a7 : c7 = .int .u8 n7 := by simpa using e7
    subst a0 a1 a2 a3 a4 a5 a6 a7
    have h5 := u16_of w5
    have hok : PF.ok ⟨n0, n1, n2, n3, n4, n5, n6, n7⟩ := ⟨u8_of w0, u8_of w1, u8_of w2, u8_of w3, i16_of w4, ⟨h5.1, by show n5 ≤ 65535; omega⟩, u8_of w6, u8_of w7⟩
    exact ⟨⟨n0, n1, n2, n3, n4, n5, n6, n7⟩, ⟨rfl, hok⟩, hok⟩
set_option maxRecDepth 100000 in
theorem opens50 : Opens Try.prog 50 pfT.slice (fun xs => ∀ x ∈ xs, x.ok) := opens_slice Try.underlying50 cells65 (by decide) opens65
set_option maxRecDepth 100000 in
/-- a descriptor that comes in -/
theorem arg_pd {H : Type} {enc : TypeId × Value → H} {W : World} {B : Nat} {v : Value} {d : DataW H} {p : List MemPlace}
    (hv : Value.okWide Try.prog W .any B 52 v) (h : DataW.Trod enc Try.prog W 0 (fun _ => true) true 52 v d p) :
    ∃ (x : PD) (A : Option Addr) (cap : Nat), v = .agg #[.bool x.numbers, .slice A x.fields.length cap] ∧ PdIs W x A cap ∧ ∀ f ∈ x.fields, f.ok := by
  obtain ⟨c0, rfl, hs0⟩ := okWide_struct Try.underlying52 hv
  obtain ⟨fuel, hx⟩ := h
  obtain ⟨n0, e0⟩ := field_bool Try.underlying52 hx 0 _ rfl Try.underlying4 cells4
  obtain ⟨v1, l1, e1, ⟨A, cap, r1, q1, q2, q3⟩, k1⟩ := field_opens Try.underlying52 hx 1 _ rfl cells50 rfl opens50
  injection r1 with r1 _
  subst r1
  rw [cells52] at hs0
  obtain ⟨l⟩ := c0
  match l, hs0 with
  | [y0, y1], _ =>
    have a0 : y0 = .bool n0 := by simpa [Value.cells] using e0
    have a1 : y1 = .slice A l1.length cap := by simpa [Value.cells] using e1
    subst a0 a1
    exact ⟨⟨n0, l1⟩, A, cap, rfl, ⟨q1, q2, q3⟩, k1⟩
set_option maxRecDepth 100000 in
theorem arg_u8 {H : Type} {enc : TypeId × Value → H} {W : World} {B : Nat} {v : Value} {d : DataW H} {p : List MemPlace}
    (hv : Value.okWide Try.prog W .any B 5 v) (h : DataW.Trod enc Try.prog W 0 (fun _ => true) true 5 v d p) : ∃ n, v = .int .u8 n ∧ u8k n := by
  obtain ⟨n, rfl⟩ := okWide_int Try.underlying5 hv
  obtain ⟨f0, t0⟩ := h
  obtain ⟨m, hm, _, hw⟩ := DataW.trod_int Try.underlying5 t0
  have e : n = m := by simpa [Value.cells] using hm
  subst e
  exact ⟨n, rfl, u8_of hw⟩
end Go.Proofs.Ytegdigfcgeoboaa
