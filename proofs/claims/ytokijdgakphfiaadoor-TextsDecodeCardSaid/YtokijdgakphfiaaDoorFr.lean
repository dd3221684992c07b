/- The frame of the chapter's laws: a world that meets the rows' condition on the two tables; what that condition gives a walk; the arguments. -/
import Derived.Test.YtokijdgakphfiaaDoorRows
import Derived.Test.YtokijdgakphfiaaDoorSp
import Derived.Test.YtokijdgakphfiaaDoorOp
import Derived.ProofKit
import Derived.ChangeSame
import Derived.ChangeVars
import Derived.JoinedOf
import Derived.RowKitTokens
import Derived.LaidLaws
import Derived.LaidHandle
import Derived.Stop.Joined
import Derived.Lib.LaidIn
import Derived.Lib.LaidU8T
import Derived.PinnedBridge
namespace Go.Proofs.YtokijdgakphfiaaDoor
open Go.ChangeShapes Go.WideShapes Go.ChangeAt Go.RowKit Go.Shelf

theorem own : ownKnob Tryd.prog.godebug = none := by kernel_rfl
theorem laidOut : laidOutB Tryd.prog = true := by kernel_rfl
/-- a world in which the two tables lie -/
noncomputable def laidWorld (os : Os) : World :=
  let w0 := World.holding Tryd.prog os ⟨#[], #[], []⟩
  let put (h : Array Obj) (g : Nat) (cs : Array Value) : Array Obj := h.modify g fun
    | .cells _ t frozen => .cells cs t frozen
    | o => o
  let h1 := put w0.heap 0 (Lib.firstTab.map fun z => Value.int .u8 z).toArray
  let h2 := put h1 1 ((List.range 16).flatMap fun i => [Value.int .u8 (Lib.accLo i), Value.int .u8 (Lib.accHi i)]).toArray
  { w0 with heap := h2 }
theorem laid_met (os : Os) (args : Array Value) : laidMetH Tryd.prog Rows.textsBackRow.laid ((laidWorld os).forCall (fun _ _ => 0) ⟨#[], args, []⟩).memory :=
  (LaidIn.of_run (l := Rows.textsBackRow.laid) [0, 1] 8 (by kernel_rfl) (by kernel_rfl) (by kernel_rfl) (by kernel_rfl)).met
theorem tabs_of {W : World} (h : laidMetH Tryd.prog Rows.textsBackRow.laid W) : Tabs W := by
  have hL : laidMet Tryd.prog Rows.textsBackRow.laid W := h
  have m4 : (Rows.textsBackRow.laid[0]'(by decide)) ∈ Rows.textsBackRow.laid := List.getElem_mem _
  have m3 : (Rows.textsBackRow.laid[1]'(by decide)) ∈ Rows.textsBackRow.laid := List.getElem_mem _
  have e3 : Rows.laid_unicode_utf8_first = Lib.firstData := Pinned.utf8First_eq
  have h3 : Lib.VarReads Tryd.prog W _ Rows.laid_unicode_utf8_first := Lib.laidMet.reads hL m3
  have h4 : Lib.VarReads Tryd.prog W _ Rows.laid_unicode_utf8_acceptRanges := Lib.laidMet.reads hL m4
  rw [e3] at h3
  exact utf8Tabs_of_readsT (U8Types.of196 laysValid) ⟨by kernel_rfl, by kernel_rfl, by kernel_rfl, by kernel_rfl, by kernel_rfl, by kernel_rfl, by kernel_rfl⟩ h3 h4

theorem cells40 : Tryd.prog.cellsOf 40 = 1 := by kernel_rfl
theorem cells5 : Tryd.prog.cellsOf 5 = 1 := by kernel_rfl
theorem cells53 : Tryd.prog.cellsOf 53 = 1 := by kernel_rfl
theorem opens32 : Opens Tryd.prog 53 u32T (fun _ => True) := by
  intro H enc W fuel cs x hx
  obtain ⟨m, rfl, _, hw⟩ := DataW.trod_int Tryd.underlying53 hx
  have h : 0 ≤ m ∧ m ≤ 4294967295 := by simpa [Lit.wf, IntKind.min, IntKind.max, IntKind.signed, IntKind.bits] using hw
  exact ⟨m.toNat, ⟨by show _ = [Value.int .u32 ((m.toNat : Nat) : Int)]; rw [show ((m.toNat : Nat) : Int) = m by omega], by omega⟩, trivial⟩
theorem opens16 : Opens Tryd.prog 40 u16T (fun _ => True) := by
  intro H enc W fuel cs x hx
  obtain ⟨m, rfl, _, hw⟩ := DataW.trod_int Tryd.underlying40 hx
  have h := u16_of hw
  exact ⟨m.toNat, ⟨by show _ = [Value.int .u16 ((m.toNat : Nat) : Int)]; rw [show ((m.toNat : Nat) : Int) = m by omega], by omega⟩, trivial⟩
theorem opens8 : Opens Tryd.prog 5 byT (fun _ => True) := by
  intro H enc W fuel cs x hx
  obtain ⟨m, rfl, _, hw⟩ := DataW.trod_int Tryd.underlying5 hx
  have h := u8_of hw
  refine ⟨UInt8.ofNat m.toNat, ⟨?_, trivial⟩, trivial⟩
  show _ = [Value.int .u8 ((UInt8.ofNat m.toNat).toNat : Int)]
  rw [toNat_of (by omega), show ((m.toNat : Nat) : Int) = m by omega]
theorem opensL32 : Opens Tryd.prog 22 u32T.slice (fun xs => ∀ x ∈ xs, True) := opens_slice Tryd.underlying22 cells53 (by decide) opens32
theorem opensL16 : Opens Tryd.prog 24 u16T.slice (fun xs => ∀ x ∈ xs, True) := opens_slice Tryd.underlying24 cells40 (by decide) opens16
theorem opensL8 : Opens Tryd.prog 30 byT.slice (fun xs => ∀ x ∈ xs, True) := opens_slice Tryd.underlying30 cells5 (by decide) opens8
end Go.Proofs.YtokijdgakphfiaaDoor
