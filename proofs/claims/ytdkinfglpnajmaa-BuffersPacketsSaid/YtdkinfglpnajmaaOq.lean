/- The arguments of the laws on buffers: lists of pieces of plain data, and bytes. No condition. -/
import Derived.Test.YtdkinfglpnajmaaChecked
import Derived.Test.YtdkinfglpnajmaaOp
import Derived.Test.YtdkinfglpnajmaaGe
import Derived.Test.YtdkinfglpnajmaaGs
set_option linter.unusedVariables false
set_option linter.unusedSimpArgs false
set_option linter.unusedSectionVars false
namespace Go.Proofs.Ytdkinfglpnajmaa
open Go.RowKit Go.ChangeShapes Go.WideShapes

theorem cells57 : Try.prog.cellsOf 58 = 2 := by kernel_rfl
theorem cells5 : Try.prog.cellsOf 5 = 1 := by kernel_rfl
theorem u8_is {n : Int} (h : (Lit.int .u8 n).wf = true) : ∃ u : UInt8, n = (u.toNat : Int) := by
  have h1 := u8_of h
  refine ⟨UInt8.ofNat n.toNat, ?_⟩
  rw [UInt8.toNat_ofNat']
  omega
theorem i64_wf {n : Int} (h : (Lit.int .i64 n).wf = true) : i64 n := by
  have : -9223372036854775808 ≤ n ∧ n ≤ 9223372036854775807 := by simpa [Lit.wf, IntKind.min, IntKind.max, IntKind.signed, IntKind.bits] using h
  unfold i64
  omega
set_option maxRecDepth 100000 in
theorem opensPp : Opens Try.prog 58 ppT (fun _ => True) := by
  intro H enc W fuel cs x hx
  obtain ⟨n0, e0, w0⟩ := field_int Try.underlying58 hx 0 _ rfl Try.underlying5 cells5
  obtain ⟨n1, e1, w1⟩ := field_int Try.underlying58 hx 1 _ rfl Try.underlying5 cells5
  obtain ⟨xs, n, _, _, hl, _, _⟩ := DataW.trod_struct Try.underlying58 hx
  rw [cells57] at hl
  match cs, hl with
  | [c0, c1], _ =>
    have a0 : c0 = .int .u8 n0 := by simpa using e0
    have a1 : c1 = .int .u8 n1 := by simpa using e1
    subst a0 a1
    obtain ⟨u0, rfl⟩ := u8_is w0
    obtain ⟨u1, rfl⟩ := u8_is w1
    exact ⟨(u0, u1), ⟨rfl, trivial⟩, trivial⟩
theorem opensL : Opens Try.prog 23 ppT.slice (fun xs => ∀ x ∈ xs, True) := opens_slice Try.underlying23 cells57 (by decide) opensPp
theorem opens5 : Opens Try.prog 5 u8T (fun _ => True) := by
  intro H enc W fuel cs x hx
  obtain ⟨m, hm, _, hw⟩ := DataW.trod_int Try.underlying5 hx
  obtain ⟨u, rfl⟩ := u8_is hw
  exact ⟨u, ⟨hm, trivial⟩, trivial⟩
theorem opensB : Opens Try.prog 29 u8T.slice (fun xs => ∀ x ∈ xs, True) := opens_slice Try.underlying29 cells5 (by decide) opens5
end Go.Proofs.Ytdkinfglpnajmaa
