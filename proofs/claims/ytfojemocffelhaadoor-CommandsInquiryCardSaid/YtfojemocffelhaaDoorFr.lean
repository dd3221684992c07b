/- The frame of the chapter's laws: a world that meets the rows' condition on the tables; the arguments. -/
import Derived.Test.YtfojemocffelhaaDoorFa
import Derived.Test.YtfojemocffelhaaDoorOp
import Derived.Test.YtfojemocffelhaaDoorSc
import Derived.ChangeSame
import Derived.ChangeVars
import Derived.JoinedOf
import Derived.RowKitTokens
import Derived.LaidHandle
import Derived.Stop.Joined
set_option linter.unusedVariables false
set_option linter.unusedSimpArgs false
set_option linter.unusedSectionVars false
namespace Go.Proofs.YtfojemocffelhaaDoor
open Go.ChangeShapes Go.WideShapes Go.ChangeAt Go.RowKit Go.Shelf

theorem own : ownKnob Tryd.prog.godebug = none := by kernel_rfl
theorem laidOut : laidOutB Tryd.prog = true := by kernel_rfl
def litsOf : DataW Unit → List Value
  | .agg ds => ds.map fun | .lit l => l.value | _ => .bool false
  | _ => []
theorem tab32 : Tryd.prog.globalNamed (Rows.commandsSenseRow.laid[0]'(by decide)).1 = some 5 := by kernel_rfl
theorem tab64 : Tryd.prog.globalNamed (Rows.commandsSenseRow.laid[1]'(by decide)).1 = some 6 := by kernel_rfl
/-- a world in which the tables lie -/
noncomputable def laidWorld (os : Os) : World :=
  let w0 := World.holding Tryd.prog os ⟨#[], #[], []⟩
  let put (h : Array Obj) (g : Nat) (cs : Array Value) : Array Obj := h.modify g fun
    | .cells _ t frozen => .cells cs t frozen
    | o => o
  let h1 := put w0.heap 0 (formsL.flatMap encF).toArray
  let h2 := put h1 1 (litsOf Rows.laid_internal_strconv_uint64pow10).toArray
  let h3 := put h2 5 (litsOf Rows.laid_math_bits_deBruijn32tab).toArray
  let h4 := put h3 6 (litsOf Rows.laid_math_bits_deBruijn64tab).toArray
  { w0 with heap := h4 }
theorem laid_met (os : Os) (args : Array Value) : laidMetH Tryd.prog Rows.commandsSenseRow.laid ((laidWorld os).forCall (fun _ _ => 0) ⟨#[], args, []⟩).memory :=
  (LaidIn.of_run (l := Rows.commandsSenseRow.laid) [0, 1, 5, 6] 8 (by kernel_rfl) (by kernel_rfl) (by kernel_rfl) (by kernel_rfl)).met
theorem cells5 : Tryd.prog.cellsOf 5 = 1 := by kernel_rfl
theorem toNat_of {m : Nat} (h : m < 256) : (UInt8.ofNat m).toNat = m := by rw [UInt8.toNat_ofNat']; omega
theorem opens8 : Opens Tryd.prog 5 byT (fun _ => True) := by
  intro H enc W fuel cs x hx
  obtain ⟨m, rfl, _, hw⟩ := DataW.trod_int Tryd.underlying5 hx
  have h := u8_of hw
  refine ⟨UInt8.ofNat m.toNat, ⟨?_, trivial⟩, trivial⟩
  show _ = [Value.int .u8 ((UInt8.ofNat m.toNat).toNat : Int)]
  rw [toNat_of (by omega), show ((m.toNat : Nat) : Int) = m by omega]
theorem opensL8 : Opens Tryd.prog 32 byT.slice (fun xs => ∀ x ∈ xs, True) := opens_slice Tryd.underlying32 cells5 (by decide) opens8
end Go.Proofs.YtfojemocffelhaaDoor
