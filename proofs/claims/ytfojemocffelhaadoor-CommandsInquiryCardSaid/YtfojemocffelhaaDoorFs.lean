/- The frame of the chapter's laws that reach unicode/utf8: a world that meets the rows' condition on the six tables. -/
import Derived.Test.YtfojemocffelhaaDoorFr
import Derived.Test.YtfojemocffelhaaDoorSm
import Derived.LaidLaws
import Derived.Lib.LaidIn
import Derived.Lib.LaidU8T
import Derived.PinnedBridge
set_option linter.unusedVariables false
set_option linter.unusedSimpArgs false
set_option linter.unusedSectionVars false
namespace Go.Proofs.YtfojemocffelhaaDoor
open Go.ChangeShapes Go.WideShapes Go.ChangeAt Go.RowKit Go.Shelf

/-- a world in which the tables lie -/
noncomputable def laidWorld6 (os : Os) : World :=
  let w0 := World.holding Tryd.prog os ⟨#[], #[], []⟩
  let put (h : Array Obj) (g : Nat) (cs : Array Value) : Array Obj := h.modify g fun
    | .cells _ t frozen => .cells cs t frozen
    | o => o
  let h1 := put w0.heap 0 (formsL.flatMap encF).toArray
  let h2 := put h1 1 (litsOf Rows.laid_internal_strconv_uint64pow10).toArray
  let h3 := put h2 5 (litsOf Rows.laid_math_bits_deBruijn32tab).toArray
  let h4 := put h3 6 (litsOf Rows.laid_math_bits_deBruijn64tab).toArray
  let h5 := put h4 2 (Lib.firstTab.map fun z => Value.int .u8 z).toArray
  let h6 := put h5 3 ((List.range 16).flatMap fun i => [Value.int .u8 (Lib.accLo i), Value.int .u8 (Lib.accHi i)]).toArray
  { w0 with heap := h6 }
theorem laid_met6 (os : Os) (args : Array Value) : laidMetH Tryd.prog Rows.commandsBackRow.laid ((laidWorld6 os).forCall (fun _ _ => 0) ⟨#[], args, []⟩).memory :=
  (LaidIn.of_run (l := Rows.commandsBackRow.laid) [0, 1, 2, 3, 5, 6] 8 (by kernel_rfl) (by kernel_rfl) (by kernel_rfl) (by kernel_rfl)).met
theorem tabs_of6 {W : World} (h : laidMetH Tryd.prog Rows.commandsBackRow.laid W) : Tabs W := by
  have hL : laidMet Tryd.prog Rows.commandsBackRow.laid W := h
  have m2 : (Rows.commandsBackRow.laid[2]'(by decide)) ∈ Rows.commandsBackRow.laid := List.getElem_mem _
  have m3 : (Rows.commandsBackRow.laid[4]'(by decide)) ∈ Rows.commandsBackRow.laid := List.getElem_mem _
  exact tabs_reads (by kernel_rfl) (by kernel_rfl) (Lib.laidMet.reads hL m2) (Lib.laidMet.reads hL m3)
end Go.Proofs.YtfojemocffelhaaDoor
