/- The arguments of the laws on drivers: rules and rows of rules of plain data. No condition. -/
import Derived.Test.YtgkhenplbljbbaaChecked
import Derived.Test.YtgkhenplbljbbaaOp
import Derived.Test.YtgkhenplbljbbaaDc
set_option linter.unusedVariables false
set_option linter.unusedSimpArgs false
set_option linter.unusedSectionVars false
namespace Go.Proofs.Ytgkhenplbljbbaa
open Go.RowKit Go.ChangeShapes Go.WideShapes

theorem cells58 : Try.prog.cellsOf 58 = 4 := by kernel_rfl
theorem cells5 : Try.prog.cellsOf 5 = 1 := by kernel_rfl
theorem cells56 : Try.prog.cellsOf 56 = 1 := by kernel_rfl
set_option maxRecDepth 100000 in
theorem opensR : Opens Try.prog 58 rpT Rp.ok := by
  intro H enc W fuel cs x hx
  obtain ⟨n0, e0, w0⟩ := field_int Try.underlying58 hx 0 _ rfl Try.underlying5 cells5
  obtain ⟨n1, e1, w1⟩ := field_int Try.underlying58 hx 1 _ rfl Try.underlying5 cells5
  obtain ⟨n2, e2, w2⟩ := field_int Try.underlying58 hx 2 _ rfl Try.underlying5 cells5
  obtain ⟨n3, e3, w3⟩ := field_int Try.underlying58 hx 3 _ rfl Try.underlying5 cells5
  obtain ⟨xs, n, _, _, hl, _, _⟩ := DataW.trod_struct Try.underlying58 hx
  rw [cells58] at hl
  match cs, hl with
  | [c0, c1, c2, c3], _ =>
    have a0 : c0 = .int .u8 n0 := by simpa using e0
    have a1 : c1 = .int .u8 n1 := by simpa using e1
    have a2 : c2 = .int .u8 n2 := by simpa using e2
    have a3 : c3 = .int .u8 n3 := by simpa using e3
    subst a0 a1 a2 a3
    exact ⟨⟨n0, n1, n2, n3⟩, ⟨rfl, u8_of w0, u8_of w1, u8_of w2, u8_of w3⟩, u8_of w0, u8_of w1, u8_of w2, u8_of w3⟩
theorem opensRow : Opens Try.prog 56 rpT.slice (fun xs => ∀ x ∈ xs, x.ok) := opens_slice Try.underlying56 cells58 (by decide) opensR
theorem opensD : Opens Try.prog 23 rpT.slice.slice rowsOk := opens_slice Try.underlying23 cells56 (by decide) opensRow
end Go.Proofs.Ytgkhenplbljbbaa
