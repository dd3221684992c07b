/- A frame of 136 slots as a function of their numbers. No condition; nothing of the program. -/
import Derived.Test.YtgkhenplbljbbaaCt
set_option linter.unusedVariables false
set_option linter.unusedSimpArgs false
set_option linter.unusedSectionVars false
namespace Go.Proofs.Ytgkhenplbljbbaa
open Go Go.RowKit
theorem list_fn (l : List Value) (n : Nat) (hl : l.length = n) : l = List.ofFn (n := n) (fun i => l.getD i.val undef) := by
  apply List.ext_getElem
  · simp [hl]
  · intro i h1 h2
    simp [List.getD_eq_getElem?_getD, h1]
set_option maxRecDepth 100000 in
theorem ofFn136 (g : Nat → Value) : List.ofFn (n := 136) (fun i => g i.val) = [g 0, g 1, g 2, g 3, g 4, g 5, g 6, g 7, g 8, g 9, g 10, g 11, g 12, g 13, g 14, g 15, g 16, g 17, g 18, g 19, g 20, g 21, g 22, g 23, g 24, g 25, g 26, g 27, g 28, g 29, g 30, g 31, g 32, g 33, g 34, g 35, g 36, g 37, g 38, g 39, g 40, g 41, g 42, g 43, g 44, g 45, g 46, g 47, g 48, g 49, g 50, g 51, g 52, g 53, g 54, g 55, g 56, g 57, g 58, g 59, g 60, g 61, g 62, g 63, g 64, g 65, g 66, g 67, g 68, g 69, g 70, g 71, g 72, g 73, g 74, g 75, g 76, g 77, g 78, g 79, g 80, g 81, g 82, g 83, g 84, g 85, g 86, g 87, g 88, g 89, g 90, g 91, g 92, g 93, g 94, g 95, g 96, g 97, g 98, g 99, g 100, g 101, g 102, g 103, g 104, g 105, g 106, g 107, g 108, g 109, g 110, g 111, g 112, g 113, g 114, g 115, g 116, g 117, g 118, g 119, g 120, g 121, g 122, g 123, g 124, g 125, g 126, g 127, g 128, g 129, g 130, g 131, g 132, g 133, g 134, g 135] := by kernel_rfl
theorem frame136 (a : Act) (h : a.tmps.size = 136) : ∃ g : Nat → Value, a = ⟨([g 0, g 1, g 2, g 3, g 4, g 5, g 6, g 7, g 8, g 9, g 10, g 11, g 12, g 13, g 14, g 15, g 16, g 17, g 18, g 19, g 20, g 21, g 22, g 23, g 24, g 25, g 26, g 27, g 28, g 29, g 30, g 31, g 32, g 33, g 34, g 35, g 36, g 37, g 38, g 39, g 40, g 41, g 42, g 43, g 44, g 45, g 46, g 47, g 48, g 49, g 50, g 51, g 52, g 53, g 54, g 55, g 56, g 57, g 58, g 59, g 60, g 61, g 62, g 63, g 64, g 65, g 66, g 67, g 68, g 69, g 70, g 71, g 72, g 73, g 74, g 75, g 76, g 77, g 78, g 79, g 80, g 81, g 82, g 83, g 84, g 85, g 86, g 87, g 88, g 89, g 90, g 91, g 92, g 93, g 94, g 95, g 96, g 97, g 98, g 99, g 100, g 101, g 102, g 103, g 104, g 105, g 106, g 107, g 108, g 109, g 110, g 111, g 112, g 113, g 114, g 115, g 116, g 117, g 118, g 119, g 120, g 121, g 122, g 123, g 124, g 125, g 126, g 127, g 128, g 129, g 130, g 131, g 132, g 133, g 134, g 135] : List Value).toArray, a.defers⟩ ∧ ∀ j v, a.tmps[j]? = some v → g j = v := by
  obtain ⟨⟨l⟩, df⟩ := a
  refine ⟨fun j => l.getD j undef, ?_, fun j v hv => ?_⟩
  · have hl : l.length = 136 := h
    have e := list_fn l 136 hl
    rw [ofFn136 (fun j => l.getD j undef)] at e
    show (⟨l.toArray, df⟩ : Act) = ⟨_, df⟩
    exact congrArg (fun z : List Value => (⟨z.toArray, df⟩ : Act)) e
  · have hv' : l[j]? = some v := by simpa using hv
    simp [List.getD_eq_getElem?_getD, hv']
set_option maxRecDepth 100000 in
theorem frame57 (a : Act) (pre post : List Value) (h : a.tmps.size = 136) (hp : a.tmps.toList.take 57 = pre) (hq : a.tmps.toList.drop 124 = post) : ∃ g : Nat → Value, a = ⟨(pre ++ (([g 57, g 58, g 59, g 60, g 61, g 62, g 63, g 64, g 65, g 66, g 67, g 68, g 69, g 70, g 71, g 72, g 73, g 74, g 75, g 76, g 77, g 78, g 79, g 80, g 81, g 82, g 83, g 84, g 85, g 86, g 87, g 88, g 89, g 90, g 91, g 92, g 93, g 94, g 95, g 96, g 97, g 98, g 99, g 100, g 101, g 102, g 103, g 104, g 105, g 106, g 107, g 108, g 109, g 110, g 111, g 112, g 113, g 114, g 115, g 116, g 117, g 118, g 119, g 120, g 121, g 122, g 123] : List Value) ++ post)).toArray, a.defers⟩ ∧ ∀ j v, a.tmps[j]? = some v → g j = v := by
  obtain ⟨g, hg, hgs⟩ := frame136 a h
  refine ⟨g, ?_, hgs⟩
  have e : a.tmps.toList = pre ++ ((a.tmps.toList.drop 57).take 67 ++ post) := by
    rw [← hp, ← hq, show a.tmps.toList.drop 124 = (a.tmps.toList.drop 57).drop 67 by rw [List.drop_drop], List.take_append_drop, List.take_append_drop]
  have e2 : (a.tmps.toList.drop 57).take 67 = [g 57, g 58, g 59, g 60, g 61, g 62, g 63, g 64, g 65, g 66, g 67, g 68, g 69, g 70, g 71, g 72, g 73, g 74, g 75, g 76, g 77, g 78, g 79, g 80, g 81, g 82, g 83, g 84, g 85, g 86, g 87, g 88, g 89, g 90, g 91, g 92, g 93, g 94, g 95, g 96, g 97, g 98, g 99, g 100, g 101, g 102, g 103, g 104, g 105, g 106, g 107, g 108, g 109, g 110, g 111, g 112, g 113, g 114, g 115, g 116, g 117, g 118, g 119, g 120, g 121, g 122, g 123] := by
    have e3 := congrArg (fun x : Act => (x.tmps.toList.drop 57).take 67) hg
    exact e3
  rw [e2] at e
  conv => lhs; rw [show a = ⟨a.tmps, a.defers⟩ from rfl]
  congr 1
  exact Array.toList_inj.1 (by simpa using e)
end Go.Proofs.Ytgkhenplbljbbaa
