/- The frame of the chapter's laws: the library's variables from the rows' condition and from the world's shape; a world that meets it. -/
import Derived.Test.YtfoeihbajichpaaDoorRows
import Derived.Test.YtfoeihbajichpaaDoorSb
import Derived.Test.YtfoeihbajichpaaDoorHw
import Derived.ProofKit
import Derived.LaidLaws
import Derived.Lib.LaidIn
import Derived.Lib.LaidU8T
import Derived.Lib.LaidTab
import Derived.Shelf.Vars
import Derived.ChangeSame
import Derived.ChangeVars
import Derived.JoinedOf
import Derived.RowKitTokens
import Derived.LaidHandle
import Derived.Stop.Joined
import Derived.PinnedBridge
set_option linter.unusedVariables false
set_option linter.unusedSimpArgs false
set_option linter.unusedSectionVars false
namespace Go.Proofs.YtfoeihbajichpaaDoor
open Go.ChangeShapes Go.WideShapes Go.ChangeAt Go.RowKit Go.Shelf Go.Lib

theorem heap_of_var {W : World} {n : String} {g : Nat} {cs : Array Value} (hg : Tryd.prog.globalNamed n = some g) (h : W.var? Tryd.prog n = some cs) : ∃ t fr, W.heap[g]? = some (.cells cs t fr) := by
  unfold World.var? at h
  rw [hg] at h
  simp only [Option.bind_some] at h
  split at h
  · rename_i cs' t fr e
    injection h with h
    subst h
    exact ⟨t, fr, e⟩
  · cases h
theorem err_reads {W : World} {n nm : String} {g : Nat} {d : DataW Unit} (e : Tryd.prog.globalNamed n = some g) (ht : (Tryd.prog.globals[g]?).map (·.type) = some 70) (h : Lib.VarReads Tryd.prog W n (.iface nm d)) : ∃ te pe, W.cell? ⟨g, 0, none⟩ = some (.iface te pe) := by
  obtain ⟨g', t, cs, fuel, p, hg, hty, hvar, hd⟩ := h
  obtain rfl := Option.some.inj (e.symm.trans hg)
  obtain rfl := Option.some.inj (ht.symm.trans hty)
  obtain ⟨f', u, v, hcs, _, _⟩ := iface_of_trod Tryd.underlying70 hd
  refine ⟨u, v, ?_⟩
  have hc := World.var?_cell hg hvar 0
  obtain ⟨l⟩ := cs
  simp only at hcs
  subst hcs
  simpa using hc
set_option maxRecDepth 100000 in
theorem pow_reads {W : World} {n : String} (e : Tryd.prog.globalNamed n = some 3) (h : Lib.VarReads Tryd.prog W n Rows.laid_internal_strconv_uint64pow10) : ∃ t fr, W.heap[3]? = some (.cells (Lib.pow10Tab.map fun z => Value.int .u64 z).toArray t fr) := by
  obtain ⟨g, t, cs, fuel, p, hg, hty, hvar, hd⟩ := h
  obtain rfl := Option.some.inj (e.symm.trans hg)
  obtain rfl := Option.some.inj ((show _ = some 128 by kernel_rfl).symm.trans hty)
  obtain ⟨t', fr, hh⟩ := heap_of_var hg hvar
  have hcs : cs.toList = Lib.pow10Tab.map fun z => Value.int .u64 z := Lib.cells_of_tab Tryd.underlying128 Tryd.underlying57 (by kernel_rfl) (by kernel_rfl) hd
  refine ⟨t', fr, ?_⟩
  rw [hh, ← hcs]
theorem tabs_of {W : World} (h : laidMetH Tryd.prog Rows.requestsTypeRow.laid W) (hsh : W.ShapedOpen Tryd.prog) : Tabs W := by
  have hL : laidMet Tryd.prog Rows.requestsTypeRow.laid W := h
  have m2 : (Rows.requestsTypeRow.laid[2]'(by decide)) ∈ Rows.requestsTypeRow.laid := List.getElem_mem _
  have m4 : (Rows.requestsTypeRow.laid[4]'(by decide)) ∈ Rows.requestsTypeRow.laid := List.getElem_mem _
  have m5 : (Rows.requestsTypeRow.laid[5]'(by decide)) ∈ Rows.requestsTypeRow.laid := List.getElem_mem _
  exact ⟨err_reads (g := 0) (by kernel_rfl) (by kernel_rfl) (Lib.laidMet.reads hL m5), err_reads (g := 1) (by kernel_rfl) (by kernel_rfl) (Lib.laidMet.reads hL m4),
    cell_of_shapedOpen_int (P := Tryd.prog) (g := 2) (t := 3) (zero := #[.int .i64 0]) hsh (of_decide_eq_true (by kernel_rfl)) (by kernel_rfl) rfl (by kernel_rfl) (by kernel_rfl) Tryd.underlying3,
    pow_reads (by kernel_rfl) (Lib.laidMet.reads hL m2)⟩
theorem own : ownKnob Tryd.prog.godebug = none := by kernel_rfl
theorem laidOut : laidOutB Tryd.prog = true := by kernel_rfl
def litsOf : DataW Unit → List Value
  | .agg ds => ds.map fun | .lit l => l.value | _ => .bool false
  | _ => []
noncomputable def lowB : Nat := (World.holding Tryd.prog default ⟨#[], #[], []⟩).heap.size
/-- a world in which the tables lie -/
noncomputable def laidWorld (os : Os) : World :=
  let w0 := World.holding Tryd.prog os ⟨#[.cells #[.string ⟨#[105, 110, 118, 97, 108, 105, 100, 32, 115, 121, 110, 116, 97, 120]⟩] 126, .cells #[.string ⟨#[118, 97, 108, 117, 101, 32, 111, 117, 116, 32, 111, 102, 32, 114, 97, 110, 103, 101]⟩] 126], #[], []⟩
  let put (h : Array Obj) (g : Nat) (cs : Array Value) : Array Obj := h.modify g fun
    | .cells _ t frozen => .cells cs t frozen
    | o => o
  let h0 := put w0.heap 0 #[.iface 124 (.pointer (some ⟨lowB, 0, none⟩))]
  let h1 := put h0 1 #[.iface 124 (.pointer (some ⟨lowB + 1, 0, none⟩))]
  let h2 := put h1 3 (litsOf Rows.laid_internal_strconv_uint64pow10).toArray
  let h3 := put h2 6 (litsOf Rows.laid_math_bits_deBruijn32tab).toArray
  let h4 := put h3 7 (litsOf Rows.laid_math_bits_deBruijn64tab).toArray
  let h5 := put h4 4 (Lib.firstTab.map fun z => Value.int .u8 z).toArray
  let h6 := put h5 5 ((List.range 16).flatMap fun i => [Value.int .u8 (Lib.accLo i), Value.int .u8 (Lib.accHi i)]).toArray
  { w0 with heap := h6 }
theorem laid_met (os : Os) (args : Array Value) : laidMetH Tryd.prog Rows.requestsTypeRow.laid ((laidWorld os).forCall (fun _ _ => 0) ⟨#[], args, []⟩).memory :=
  (LaidIn.of_run (l := Rows.requestsTypeRow.laid) [0, 1, 3, 4, 5, 6, 7, lowB, lowB + 1] 8 (by kernel_rfl) (by kernel_rfl) (by kernel_rfl) (by kernel_rfl)).met
end Go.Proofs.YtfoeihbajichpaaDoor
