/- The frame of the chapter's laws. -/
import Derived.Test.YtfojemocffelhaaDoorRows
import Derived.Test.YtfojemocffelhaaDoorSb
import Derived.ProofKit
import Derived.LaidLaws
import Derived.Lib.LaidIn
import Derived.Lib.LaidU8T
import Derived.Lib.LaidTab
import Derived.Test.YtfojemocffelhaaDoorOp
import Derived.Test.YtfojemocffelhaaDoorSc
import Derived.ChangeSame
import Derived.ChangeVars
import Derived.JoinedOf
import Derived.RowKitTokens
import Derived.LaidHandle
import Derived.Stop.Joined
import Derived.Test.YtfojemocffelhaaDoorSm
import Derived.PinnedBridge
set_option linter.unusedVariables false
set_option linter.unusedSimpArgs false
set_option linter.unusedSectionVars false
/- What the rows' condition on the laid tables gives a walk. -/
namespace Go.Proofs.YtfojemocffelhaaDoor
open Go.RowKit Go.Shelf Go.Lib

theorem six_of {α : Type} : ∀ {l : List α}, l.length = 6 → ∃ a b c d e f, l = [a, b, c, d, e, f]
  | [a, b, c, d, e, f], _ => ⟨a, b, c, d, e, f, rfl⟩
set_option maxRecDepth 100000 in
theorem form_cells {H : Type} {enc : TypeId × Value → H} {W : World} {base : Nat} {sp : Nat → Bool} {held : Bool} {fuel : Nat} {cs : List Value} {p : List MemPlace} {a wd d : Int} {s : List UInt8} {le bl : Bool}
    (h : DataW.trod enc Tryd.prog W base sp held fuel 69 cs = some (.agg [.lit (.int .u8 a), .lit (.string s), .lit (.int .i64 wd), .lit (.bool le), .lit (.bool bl), .lit (.int .u8 d)], p)) :
    cs = [.int .u8 a, .string ⟨s.toArray⟩, .int .i64 wd, .bool le, .bool bl, .int .u8 d] := by
  obtain ⟨xs, n, rfl, hx, hl, hxl, hall⟩ := DataW.trod_struct Tryd.underlying69 h
  have hxs : xs.map (·.1) = [.lit (.int .u8 a), .lit (.string s), .lit (.int .i64 wd), .lit (.bool le), .lit (.bool bl), .lit (.int .u8 d)] := by
    have := congrArg Prod.fst hx
    simpa using this.symm
  have h6 : cs.length = 6 := hl.trans (by kernel_rfl)
  obtain ⟨c0, c1, c2, c3, c4, c5, rfl⟩ : ∃ c0 c1 c2 c3 c4 c5, cs = [c0, c1, c2, c3, c4, c5] := by
    exact six_of h6
  obtain ⟨x0, x1, x2, x3, x4, x5, rfl⟩ : ∃ x0 x1 x2 x3 x4 x5, xs = [x0, x1, x2, x3, x4, x5] := by
    have h7 : xs.length = 6 := by have := congrArg List.length hxs; simpa using this
    exact six_of h7
  simp only [List.map_cons, List.map_nil, List.cons.injEq, and_true] at hxs
  obtain ⟨q0, q1, q2, q3, q4, q5⟩ := hxs
  have e0 : DataW.trod enc Tryd.prog W base sp held n 22 [c0] = some x0 := hall 0 _ rfl
  have e1 : DataW.trod enc Tryd.prog W base sp held n 9 [c1] = some x1 := hall 1 _ rfl
  have e2 : DataW.trod enc Tryd.prog W base sp held n 3 [c2] = some x2 := hall 2 _ rfl
  have e3 : DataW.trod enc Tryd.prog W base sp held n 4 [c3] = some x3 := hall 3 _ rfl
  have e4 : DataW.trod enc Tryd.prog W base sp held n 4 [c4] = some x4 := hall 4 _ rfl
  have e5 : DataW.trod enc Tryd.prog W base sp held n 27 [c5] = some x5 := hall 5 _ rfl
  obtain ⟨m0, k0, rfl, _⟩ := DataW.trod_int Tryd.underlying22 e0
  obtain ⟨m1, k1, rfl, _⟩ := DataW.trod_string Tryd.underlying9 e1
  obtain ⟨m2, k2, rfl, _⟩ := DataW.trod_int Tryd.underlying3 e2
  obtain ⟨m3, k3, rfl⟩ := DataW.trod_bool Tryd.underlying4 e3
  obtain ⟨m4, k4, rfl⟩ := DataW.trod_bool Tryd.underlying4 e4
  obtain ⟨m5, k5, rfl, _⟩ := DataW.trod_int Tryd.underlying27 e5
  simp only [List.cons.injEq, and_true, DataW.lit.injEq, Lit.int.injEq, Lit.string.injEq, Lit.bool.injEq, true_and] at *
  subst k0 k1 k2 k3 k4 k5 q0 q1 q2 q3 q4 q5
  simp

theorem heap_of_var {W : World} {n : String} {g : Nat} {cs : Array Value} (hg : Tryd.prog.globalNamed n = some g) (h : W.var? Tryd.prog n = some cs) : ∃ t fr, W.heap[g]? = some (.cells cs t fr) := by
  unfold World.var? at h
  rw [hg] at h
  simp only [Option.bind_some] at h
  split at h
  · rename_i cs' t fr e
    injection h with h
    subst h
    exact ⟨t, fr, e⟩
  · cases h
theorem cut6 {α : Type} {l : List α} {F : List (List α)} (n : Nat) (hF : F.length = n) (hl : l.length = n * 6) (h : ∀ i c, F[i]? = some c → (l.drop (i * 6)).take 6 = c) : l = F.flatten := by
  induction n generalizing l F with
  | zero =>
    have : F = [] := List.eq_nil_of_length_eq_zero hF
    subst this
    simpa using hl
  | succ n ih =>
    cases F with
    | nil => simp at hF
    | cons c F =>
      have h0 := h 0 c rfl
      simp only [Nat.zero_mul, List.drop_zero] at h0
      have hr := ih (l := l.drop 6) (F := F) (by simpa using hF) (by simp; omega) (fun i d hd => by
        have := h (i + 1) d (by simpa using hd)
        rw [List.drop_drop, show 6 + i * 6 = (i + 1) * 6 by omega]
        exact this)
      rw [List.flatten_cons, ← hr, ← h0, List.take_append_drop]
set_option maxRecDepth 100000 in
theorem tabs_reads {W : World} {n2 n3 : String} (e2 : Tryd.prog.globalNamed n2 = some 1) (e3 : Tryd.prog.globalNamed n3 = some 0) (h2 : Lib.VarReads Tryd.prog W n2 Rows.laid_internal_strconv_uint64pow10) (h3 : Lib.VarReads Tryd.prog W n3 Rows.laid_plugboard_commands_forms) : Tabs W := by
  constructor
  · obtain ⟨g, t, cs, fuel, p, hg, hty, hvar, hd⟩ := h3
    obtain rfl := Option.some.inj (e3.symm.trans hg)
    obtain rfl := Option.some.inj ((show _ = some 87 by kernel_rfl).symm.trans hty)
    obtain ⟨t', fr, hh⟩ := heap_of_var hg hvar
    refine ⟨t', fr, ?_⟩
    rw [hh]
    obtain ⟨xs, m, rfl, hx, hl, hxl, hall⟩ := DataW.trod_array Tryd.underlying87 hd
    have hcs : cs.toList = (formsL.map encF).flatten := by
      refine cut6 7 rfl (by rw [hl]; kernel_rfl) ?_
      intro i c hc
      obtain ⟨fuel', d, q, hdi, he⟩ := array_elem Tryd.underlying87 hd i (by have := (List.getElem?_eq_some_iff.1 hc).1; exact this)
      have hi7 : i < 7 := by have := (List.getElem?_eq_some_iff.1 hc).1; exact this
      rw [show Tryd.prog.cellsOf 69 = 6 by kernel_rfl] at he
      clear hall hx hl hxl hd
      match i, hi7 with
      | 0, _ =>
        obtain rfl := Option.some.inj (show some (encF formsL[0]!) = some c from hc)
        cases hdi
        exact form_cells he
      | 1, _ =>
        obtain rfl := Option.some.inj (show some (encF formsL[1]!) = some c from hc)
        cases hdi
        exact form_cells he
      | 2, _ =>
        obtain rfl := Option.some.inj (show some (encF formsL[2]!) = some c from hc)
        cases hdi
        exact form_cells he
      | 3, _ =>
        obtain rfl := Option.some.inj (show some (encF formsL[3]!) = some c from hc)
        cases hdi
        exact form_cells he
      | 4, _ =>
        obtain rfl := Option.some.inj (show some (encF formsL[4]!) = some c from hc)
        cases hdi
        exact form_cells he
      | 5, _ =>
        obtain rfl := Option.some.inj (show some (encF formsL[5]!) = some c from hc)
        cases hdi
        exact form_cells he
      | 6, _ =>
        obtain rfl := Option.some.inj (show some (encF formsL[6]!) = some c from hc)
        cases hdi
        exact form_cells he
    have : cs = (formsL.flatMap encF).toArray := by
      rw [← Array.toArray_toList (xs := cs), hcs, List.flatMap_def]
    rw [this]
  · obtain ⟨g, t, cs, fuel, p, hg, hty, hvar, hd⟩ := h2
    obtain rfl := Option.some.inj (e2.symm.trans hg)
    obtain rfl := Option.some.inj ((show _ = some 128 by kernel_rfl).symm.trans hty)
    obtain ⟨t', fr, hh⟩ := heap_of_var hg hvar
    have hcs : cs.toList = Lib.pow10Tab.map fun z => Value.int .u64 z := Lib.cells_of_tab Tryd.underlying128 Tryd.underlying38 (by kernel_rfl) (by kernel_rfl) hd
    refine ⟨t', fr, ?_⟩
    rw [hh, ← hcs]
theorem tabs_of {W : World} (h : laidMetH Tryd.prog Rows.commandsSenseRow.laid W) : Tabs W := by
  have hL : laidMet Tryd.prog Rows.commandsSenseRow.laid W := h
  have m2 : (Rows.commandsSenseRow.laid[2]'(by decide)) ∈ Rows.commandsSenseRow.laid := List.getElem_mem _
  have m3 : (Rows.commandsSenseRow.laid[3]'(by decide)) ∈ Rows.commandsSenseRow.laid := List.getElem_mem _
  exact tabs_reads (by kernel_rfl) (by kernel_rfl) (Lib.laidMet.reads hL m2) (Lib.laidMet.reads hL m3)
end Go.Proofs.YtfojemocffelhaaDoor
/- The frame of the chapter's laws: a world that meets the rows' condition on the tables; the arguments. -/
namespace Go.Proofs.YtfojemocffelhaaDoor
open Go.ChangeShapes Go.WideShapes Go.ChangeAt Go.RowKit Go.Shelf

theorem own : ownKnob Tryd.prog.godebug = none := by kernel_rfl
theorem laidOut : laidOutB Tryd.prog = true := by kernel_rfl
def litsOf : DataW Unit → List Value
  | .agg ds => ds.map fun | .lit l => l.value | _ => .bool false
  | _ => []
theorem tab32 : Tryd.prog.globalNamed (Rows.commandsSenseRow.laid[0]'(by decide)).1 = some 5 := by kernel_rfl
theorem tab64 : Tryd.prog.globalNamed (Rows.commandsSenseRow.laid[1]'(by decide)).1 = some 6 := by kernel_rfl
/-- a world in which the tables lie -/
noncomputable def laidWorld (os : Os) : World :=
  let w0 := World.holding Tryd.prog os ⟨#[], #[], []⟩
  let put (h : Array Obj) (g : Nat) (cs : Array Value) : Array Obj := h.modify g fun
    | .cells _ t frozen => .cells cs t frozen
    | o => o
  let h1 := put w0.heap 0 (formsL.flatMap encF).toArray
  let h2 := put h1 1 (litsOf Rows.laid_internal_strconv_uint64pow10).toArray
  let h3 := put h2 5 (litsOf Rows.laid_math_bits_deBruijn32tab).toArray
  let h4 := put h3 6 (litsOf Rows.laid_math_bits_deBruijn64tab).toArray
  { w0 with heap := h4 }
theorem laid_met (os : Os) (args : Array Value) : laidMetH Tryd.prog Rows.commandsSenseRow.laid ((laidWorld os).forCall (fun _ _ => 0) ⟨#[], args, []⟩).memory :=
  (LaidIn.of_run (l := Rows.commandsSenseRow.laid) [0, 1, 5, 6] 8 (by kernel_rfl) (by kernel_rfl) (by kernel_rfl) (by kernel_rfl)).met
theorem cells5 : Tryd.prog.cellsOf 5 = 1 := by kernel_rfl
theorem toNat_of {m : Nat} (h : m < 256) : (UInt8.ofNat m).toNat = m := by rw [UInt8.toNat_ofNat']; omega
theorem opens8 : Opens Tryd.prog 5 byT (fun _ => True) := by
  intro H enc W fuel cs x hx
  obtain ⟨m, rfl, _, hw⟩ := DataW.trod_int Tryd.underlying5 hx
  have h := u8_of hw
  refine ⟨UInt8.ofNat m.toNat, ⟨?_, trivial⟩, trivial⟩
  show _ = [Value.int .u8 ((UInt8.ofNat m.toNat).toNat : Int)]
  rw [toNat_of (by omega), show ((m.toNat : Nat) : Int) = m by omega]
theorem opensL8 : Opens Tryd.prog 32 byT.slice (fun xs => ∀ x ∈ xs, True) := opens_slice Tryd.underlying32 cells5 (by decide) opens8
end Go.Proofs.YtfojemocffelhaaDoor
/- The frame of the chapter's laws that reach unicode/utf8: a world that meets the rows' condition on the six tables. -/
namespace Go.Proofs.YtfojemocffelhaaDoor
open Go.ChangeShapes Go.WideShapes Go.ChangeAt Go.RowKit Go.Shelf

/-- a world in which the tables lie -/
noncomputable def laidWorld6 (os : Os) : World :=
  let w0 := World.holding Tryd.prog os ⟨#[], #[], []⟩
  let put (h : Array Obj) (g : Nat) (cs : Array Value) : Array Obj := h.modify g fun
    | .cells _ t frozen => .cells cs t frozen
    | o => o
  let h1 := put w0.heap 0 (formsL.flatMap encF).toArray
  let h2 := put h1 1 (litsOf Rows.laid_internal_strconv_uint64pow10).toArray
  let h3 := put h2 5 (litsOf Rows.laid_math_bits_deBruijn32tab).toArray
  let h4 := put h3 6 (litsOf Rows.laid_math_bits_deBruijn64tab).toArray
  let h5 := put h4 2 (Lib.firstTab.map fun z => Value.int .u8 z).toArray
  let h6 := put h5 3 ((List.range 16).flatMap fun i => [Value.int .u8 (Lib.accLo i), Value.int .u8 (Lib.accHi i)]).toArray
  { w0 with heap := h6 }
theorem laid_met6 (os : Os) (args : Array Value) : laidMetH Tryd.prog Rows.commandsBackRow.laid ((laidWorld6 os).forCall (fun _ _ => 0) ⟨#[], args, []⟩).memory :=
  (LaidIn.of_run (l := Rows.commandsBackRow.laid) [0, 1, 2, 3, 5, 6] 8 (by kernel_rfl) (by kernel_rfl) (by kernel_rfl) (by kernel_rfl)).met
theorem tabs_of6 {W : World} (h : laidMetH Tryd.prog Rows.commandsBackRow.laid W) : Tabs W := by
  have hL : laidMet Tryd.prog Rows.commandsBackRow.laid W := h
  have m2 : (Rows.commandsBackRow.laid[2]'(by decide)) ∈ Rows.commandsBackRow.laid := List.getElem_mem _
  have m3 : (Rows.commandsBackRow.laid[4]'(by decide)) ∈ Rows.commandsBackRow.laid := List.getElem_mem _
  exact tabs_reads (by kernel_rfl) (by kernel_rfl) (Lib.laidMet.reads hL m2) (Lib.laidMet.reads hL m3)
end Go.Proofs.YtfojemocffelhaaDoor
