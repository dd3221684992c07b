
/- The table of the standard requests, continued: every operation of its literal keeps the state. No condition. -/
import Derived.Test.YtfoeihbajichpaaDoorChecked
import Derived.Deep.RegionHeld3
import Derived.Deep.DrawnRows
import Derived.Deep.DeepCutAuto
import Derived.Deep.LoopGhost
import Derived.Outline
import Derived.Handy
import Derived.OwnWalk
import Derived.Laws.EntriesVeiled
import Derived.Test.YtfoeihbajichpaaDoorSf
set_option linter.unusedVariables false
set_option linter.unusedSimpArgs false
set_option linter.unusedSectionVars false
namespace Go.Proofs.YtfoeihbajichpaaDoor
open Go.RowKit Go.Lib Go.Maps Go.WideShapes
attribute [local go_sem ↓] Go.wp_at_zero Go.wp_at_succ

theorem callF (a : Act) (w : World) (t : Nat) (f : FuncId) (x : Value) (h : a.eval (.tmp t) = .func (.func f) #[] #[]) (hen : ∀ args w, (callFunc f args).run Tryd.prog w = .ok (.enter f args) w) (d : Option Tmp) (pos : String) (ty : TypeId) (ts : Array TypeId) (af : Array Edge) :
    (execOp a.eval { dst := d, op := .call { callee := .value (.tmp t), args := #[.const x], argTypes := ts }, type := ty, pos := pos, after := af, guard := none }).run Tryd.prog w = .ok (.enter f #[x]) w := by
  have hc : a.eval (.const x) = x := rfl
  simp [execOp, resolve, invoke, h, hc, hen, Deferred.ofValue]
theorem buildF (a : Act) (w : World) (t : Operand) (b : Bool) (n : Int) (f : FuncId) (caps : Array Value) (h : a.eval t = .func (.func f) #[] caps) (d : Option Tmp) (pos : String) (ty : TypeId) (af : Array Edge) :
    (execOp a.eval { dst := d, op := .build 60 #[(0, .const (.bool b)), (1, .const (.int .i64 n)), (2, t)], type := ty, pos := pos, after := af, guard := none }).run Tryd.prog w = .ok (.value (.agg #[.bool b, .int .i64 n, .func (.func f) #[] caps])) w := by
  have hb : ∀ w, (Instr.build 60 #[(0, .bool b), (1, .int .i64 n), (2, .func (.func f) #[] caps)]).run Tryd.prog w = .ok (.agg #[.bool b, .int .i64 n, .func (.func f) #[] caps]) w := fun w => by kernel_rfl
  have hc : ∀ x, a.eval (.const x) = x := fun _ => rfl
  simp [execOp, h, hc, hb, Result.andThen]
theorem loadT (a : Act) (w : World) (t ty : Nat) (v : Value) (p : Nat) (h : a.eval (.tmp t) = .pointer (some ⟨p, 0, none⟩)) (hl : (Instr.loadAt ty (.pointer (some ⟨p, 0, none⟩))).run Tryd.prog w = .ok v w) (d : Option Tmp) (pos : String) (ty2 : TypeId) (af : Array Edge) :
    (execOp a.eval { dst := d, op := .load ty (.tmp t), type := ty2, pos := pos, after := af, guard := none }).run Tryd.prog w = .ok (.value v) w := by
  simp [execOp, h, hl, Result.andThen]
theorem load83 (p : Nat) (v : Value) (w : World) (h : w.cell? ⟨p, 0, none⟩ = some v) : (Instr.loadAt 83 (.pointer (some ⟨p, 0, none⟩))).run Tryd.prog w = .ok v w := by
  have := Tryd.isAgg83
  have := Tryd.sizeOf83
  simp [go_sem, h, *]
theorem load84 (p : Nat) (v : Value) (w : World) (h : w.cell? ⟨p, 0, none⟩ = some v) : (Instr.loadAt 84 (.pointer (some ⟨p, 0, none⟩))).run Tryd.prog w = .ok v w := by
  have := Tryd.isAgg84
  have := Tryd.sizeOf84
  simp [go_sem, h, *]
theorem load58 (p : Nat) (v : Value) (w : World) (h : w.cell? ⟨p, 0, none⟩ = some v) : (Instr.loadAt 58 (.pointer (some ⟨p, 0, none⟩))).run Tryd.prog w = .ok v w := by
  have := Tryd.isAgg58
  have := Tryd.sizeOf58
  simp [go_sem, h, *]
theorem insT (a : Act) (w w' : World) (k m v : Value) (m' v' : Operand) (h1 : a.eval m' = m) (h2 : a.eval v' = v) (hr : (Instr.mapUpdate 62 m k v).run Tryd.prog w = .ok () w') (d : Option Tmp) (pos : String) (ty : TypeId) (af : Array Edge) :
    (execOp a.eval { dst := d, op := .insert 62 m' (.const k) v', type := ty, pos := pos, after := af, guard := none }).run Tryd.prog w = .ok .skip w' := by
  have hc : ∀ x, a.eval (.const x) = x := fun _ => rfl
  simp [execOp, h1, h2, hc, hr, Result.andThen]
theorem mkT (a : Act) (w : World) (d : Option Tmp) (pos : String) (ty : TypeId) (af : Array Edge) :
    (execOp a.eval { dst := d, op := .makeMap 62 none, type := ty, pos := pos, after := af, guard := none }).run Tryd.prog w = .ok (.value (.map (some w.heap.size))) (w.alloc (.map #[] 0)) := by
  simp [execOp, run_makeMap, Result.andThen]

section
variable {ops : Array Oper} {Q : Exit → Act → World → Prop} {W0 w : World} {p1 p2 p4 fuel i : Nat} {L : Nat → Bool} {a : Act} {o : Oper} {d t : Nat} {pos : String} {ty ty2 : TypeId} {af : Array Edge} {ts : Array TypeId}
abbrev Keep (W0 : World) (p1 p2 p4 : Nat) (fuel : Nat) (L : Nat → Bool) (a : Act) (w : World) : Prop := fuel ≤ 39 ∧ Inv W0 p1 p2 p4 fuel L a w
theorem st_move {x : Value} (ho : ops[i]? = some { dst := some d, op := .move (.tmp t), type := ty, pos := pos, after := af, guard := none }) (hI : Keep W0 p1 p2 p4 (fuel + 1) L a w) (hd : dstOf i = some d) (ht : a.tmps[t]? = some x) (hh : Holds i w x) :
    wpOp Tryd.prog ops Q i (fun a' w' => Keep W0 p1 p2 p4 fuel (setL L i) a' w') a w := by
  refine op_val (v := a.eval (.tmp t)) ho rfl rfl ?_
  rw [eval_tmp ht]
  exact ⟨by have := hI.1; omega, hI.2.value hd (Below.refl _ _) hh⟩
theorem st_build {b : Bool} {n : Int} {k : FK} {x : Value} {tt : Operand} (ho : ops[i]? = some { dst := some d, op := .build 60 #[(0, .const (.bool b)), (1, .const (.int .i64 n)), (2, tt)], type := ty, pos := pos, after := af, guard := none }) (hI : Keep W0 p1 p2 p4 (fuel + 1) L a w) (hd : dstOf i = some d) (ht : a.eval tt = x) (hx : FnIs k w x)
    (hh : ∀ v, RowIs (b, n, k) w v → Holds i w v) : wpOp Tryd.prog ops Q i (fun a' w' => Keep W0 p1 p2 p4 fuel (setL L i) a' w') a w := by
  obtain ⟨f, caps, rfl⟩ := hx.func
  refine op_val ho rfl (buildF a w tt b n f caps ht _ _ _ _) ?_
  exact ⟨by have := hI.1; omega, hI.2.value hd (Below.refl _ _) (hh _ ⟨_, rfl, hx⟩)⟩
theorem st_load {x : Value} {p : Nat} (ho : ops[i]? = some { dst := some d, op := .load ty (.tmp t), type := ty2, pos := pos, after := af, guard := none }) (hI : Keep W0 p1 p2 p4 (fuel + 1) L a w) (hd : dstOf i = some d) (ht : a.tmps[t]? = some (.pointer (some ⟨p, 0, none⟩)))
    (hl : (Instr.loadAt ty (.pointer (some ⟨p, 0, none⟩))).run Tryd.prog w = .ok x w) (hh : Holds i w x) : wpOp Tryd.prog ops Q i (fun a' w' => Keep W0 p1 p2 p4 fuel (setL L i) a' w') a w := by
  refine op_val ho rfl (loadT a w t ty x p (eval_tmp ht) hl _ _ _ _) ?_
  exact ⟨by have := hI.1; omega, hI.2.value hd (Below.refl _ _) hh⟩
theorem st_call {x : Value} {f : FuncId} (ho : ops[i]? = some { dst := some d, op := .call { callee := .value (.tmp t), args := #[.const x], argTypes := ts }, type := ty, pos := pos, after := af, guard := none }) (hI : Keep W0 p1 p2 p4 (fuel + 1) L a w) (hd : dstOf i = some d) (ht : a.tmps[t]? = some (.func (.func f) #[] #[]))
    (hen : ∀ args w, (callFunc f args).run Tryd.prog w = .ok (.enter f args) w) (hc : Calls Tryd.prog f #[x] w fun e w' => ∃ v, e = .returned v ∧ Kept w w' ∧ Holds i w' v) : wpOp Tryd.prog ops Q i (fun a' w' => Keep W0 p1 p2 p4 fuel (setL L i) a' w') a w := by
  refine op_call ho rfl (callF a w t f x (eval_tmp ht) hen _ _ _ _ _) (hc.mono fun e w' ⟨v, he, hk, hh⟩ => ⟨v, he, ?_⟩)
  exact ⟨by have := hI.1; omega, hI.2.value hd hk hh⟩
theorem st_ins {c : Int} {r : Bool × Int × FK} (ho : ops[i]? = some { dst := none, op := .insert 62 (.tmp 7) (.const (.int .u8 c)) (.tmp t), type := ty, pos := pos, after := af, guard := none }) (hI : Keep W0 p1 p2 p4 (fuel + 1) L a w) (hLi : L i = false) (hc : insOf c = some i) (hr : rowF c = some r) (h0 : L 0 = true) (hw : (Lit.int .u8 c).wf = true)
    {j : Nat} (hj : L j = true) (hd : dstOf j = some t) (hh : ∀ v, Holds j w v → RowIs r w v) : wpOp Tryd.prog ops Q i (fun a' w' => Keep W0 p1 p2 p4 fuel (setL L i) a' w') a w := by
  obtain ⟨b, n, f, e1, e2, e3, e4, e5⟩ := hI.2.map h0
  obtain ⟨v, hv, hR⟩ := hI.2.vals j t hd hj
  have hkey : keyOf Tryd.prog 5 (.int .u8 c) = some (.int .u8 c) := keyOf_int_mk Tryd.underlying5 hw
  obtain ⟨w', hrun, hm, hg⟩ := e3.update (int_keyed Tryd.underlying5) Tryd.underlying62 (by unfold maxLen; omega) v hkey
  refine op_skip ho rfl (insT a w w' _ _ _ _ _ (eval_tmp e1) (eval_tmp hv) hrun _ _ _ _) ?_
  refine ⟨by have := hI.1; omega, hI.2.insert hc hLi h0 hr (hh v hR) e1 e2 e4 e5 (fun cs t fr e => ?_) hm hg⟩
  obtain ⟨D, ⟨es, clock, hb, _⟩, _⟩ := e3
  rw [hb] at e; cases e
end
theorem dev_call (i : Nat) (m : Int) (hh : ∀ w v, FnIs (.device m) w v → Holds i w v) (w : World) : Calls Tryd.prog 48 #[.int .i64 m] w fun e w' => ∃ v, e = .returned v ∧ Kept w w' ∧ Holds i w' v :=
  (devm_any m w).mono fun e w' ⟨he, hw⟩ => ⟨_, he, hw ▸ (Below.refl _ _).alloc (Nat.le_refl _) _, hh _ _ ⟨_, rfl, by rw [hw]; exact heap_at _ rfl⟩⟩
theorem set_call (i : Nat) (m : Int) (hh : ∀ w v, FnIs (.setting m) w v → Holds i w v) (w : World) : Calls Tryd.prog 50 #[.int .u16 m] w fun e w' => ∃ v, e = .returned v ∧ Kept w w' ∧ Holds i w' v :=
  (setm_any m w).mono fun e w' ⟨he, hw⟩ => ⟨_, he, hw ▸ (Below.refl _ _).alloc (Nat.le_refl _) _, hh _ _ ⟨_, rfl, by rw [hw]; exact heap_at _ rfl⟩⟩
/-- what table returns -/
def TableIs (w : World) (v : Value) : Prop := ∃ b n f, v = .map (some b) ∧ MapIs Tryd.prog 5 w b n f ∧ ∀ c : Int, match rowF c with | some r => ∃ u, f (.int .u8 c) = some u ∧ RowIs r w u | none => f (.int .u8 c) = none
theorem ins_row {c : Int} {r : Bool × Int × FK} (h : rowF c = some r) : ∃ j, insOf c = some j := by
  cases hj : insOf c with
  | some j => exact ⟨j, rfl⟩
  | none =>
    exfalso
    unfold insOf at hj
    unfold rowF at h
    by_cases h0 : c = 0
    · rw [if_pos h0] at hj; cases hj
    rw [if_neg h0] at h hj
    by_cases h1 : c = 1
    · rw [if_pos h1] at hj; cases hj
    rw [if_neg h1] at h hj
    by_cases h3 : c = 3
    · rw [if_pos h3] at hj; cases hj
    rw [if_neg h3] at h hj
    by_cases h5 : c = 5
    · rw [if_pos h5] at hj; cases hj
    rw [if_neg h5] at h hj
    by_cases h6 : c = 6
    · rw [if_pos h6] at hj; cases hj
    rw [if_neg h6] at h hj
    by_cases h7 : c = 7
    · rw [if_pos h7] at hj; cases hj
    rw [if_neg h7] at h hj
    by_cases h8 : c = 8
    · rw [if_pos h8] at hj; cases hj
    rw [if_neg h8] at h hj
    by_cases h9 : c = 9
    · rw [if_pos h9] at hj; cases hj
    rw [if_neg h9] at h hj
    by_cases h10 : c = 10
    · rw [if_pos h10] at hj; cases hj
    rw [if_neg h10] at h hj
    by_cases h11 : c = 11
    · rw [if_pos h11] at hj; cases hj
    rw [if_neg h11] at h hj
    by_cases h12 : c = 12
    · rw [if_pos h12] at hj; cases hj
    rw [if_neg h12] at h
    cases h
theorem row_none {c : Int} (h : rowF c = none) : insOf c = none := by
  cases hj : insOf c with
  | none => rfl
  | some j =>
    exfalso
    rcases insOf_val hj with ⟨rfl, rfl⟩ | ⟨rfl, rfl⟩ | ⟨rfl, rfl⟩ | ⟨rfl, rfl⟩ | ⟨rfl, rfl⟩ | ⟨rfl, rfl⟩ | ⟨rfl, rfl⟩ | ⟨rfl, rfl⟩ | ⟨rfl, rfl⟩ | ⟨rfl, rfl⟩ | ⟨rfl, rfl⟩ <;> cases h

set_option maxRecDepth 100000 in
set_option maxHeartbeats 4000000 in
theorem table_any (w : World) : Calls Tryd.prog 33 #[] w fun e w' => ∃ v, e = .returned v ∧ TableIs w' v ∧ Kept w w' := by
  go_enter Tryd.func33, Tryd.ntmps33
  go_upto_region 6 with (fail)
  refine wp_at (fun W => W.heap[w.heap.size]? = some (.cells #[.func (.func 48) #[] #[]] 83 (0, 0)) ∧ W.heap[w.heap.size + 1]? = some (.cells #[.func (.func 50) #[] #[]] 84 (0, 0)) ∧ W.heap[w.heap.size + 1 + 1]? = some (.cells #[.func (.func 54) #[] #[]] 58 (0, 0)) ∧ Kept w W) ⟨?_, ?_, ?_, ?_⟩ (fun W hW => ?_)
  · exact heap_past (heap_past (heap_at _ rfl))
  · exact heap_past (heap_at _ (by simp))
  · exact heap_at _ (by simp)
  · go_grown
  obtain ⟨H1, H2, H4, hkW⟩ := hW
  generalize w.heap.size + 1 + 1 = p4 at *
  generalize w.heap.size + 1 = p2 at *
  generalize hp1 : w.heap.size = p1 at *
  clear hp1
  refine wp_region_inv rfl (by kernel_rfl) (Keep W.drew p1 p2 p4) ?start ?step ?ext ?done
  case start =>
    refine ⟨by decide, rfl, rfl, rfl, rfl, rfl, rfl, rfl, Below.refl _ _, fun j d hd hj => (by cases hj), fun c j hc hj => (by cases hj), fun h => (by cases h), fun h => (by cases h), fun h => (by cases h)⟩
  case ext => exact fun fuel L L' a w hL h => ⟨h.1, h.2.ext hL⟩
  case step =>
    intro fuel L a wr i o ho hLi hdeps _ hI
    have hi : i < 39 := (Array.getElem?_eq_some_iff.1 ho).1
    have K1 := heap_kept hI.2.kept (show W.drew.heap[p1]? = _ from H1)
    have K2 := heap_kept hI.2.kept (show W.drew.heap[p2]? = _ from H2)
    have K4 := heap_kept hI.2.kept (show W.drew.heap[p4]? = _ from H4)
    match i, hi, ho, hLi with
    | 0, _, ho, hLi =>
      simp only [List.getElem?_toArray, List.getElem?_cons_succ, List.getElem?_cons_zero, Option.some.injEq] at ho
      subst ho
      refine op_val rfl rfl (mkT a wr _ _ _ _) ?_
      exact ⟨by have := hI.1; omega, hI.2.make hI.1 hLi⟩
    | 1, _, ho, hLi =>
      simp only [List.getElem?_toArray, List.getElem?_cons_succ, List.getElem?_cons_zero, Option.some.injEq] at ho
      subst ho
      exact st_move rfl hI rfl hI.2.s5 ⟨_, _, _, rfl, K1, K2, K4⟩
    | 2, _, ho, hLi =>
      simp only [List.getElem?_toArray, List.getElem?_cons_succ, List.getElem?_cons_zero, Option.some.injEq] at ho
      subst ho
      obtain ⟨v1, hv1, hR1⟩ := hI.2.vals 1 8 rfl (hdeps ⟨1, .data⟩ (by simp) rfl)
      exact st_build (k := .status) rfl hI rfl (eval_tmp hv1) hR1 (fun _ h => h)
    | 3, _, ho, hLi =>
      simp only [List.getElem?_toArray, List.getElem?_cons_succ, List.getElem?_cons_zero, Option.some.injEq] at ho
      subst ho
      exact st_ins (j := 2) rfl hI hLi rfl rfl (hdeps ⟨0, .data⟩ (by simp) rfl) rfl (hdeps ⟨2, .data⟩ (by simp) rfl) rfl (fun _ h => h)
    | 4, _, ho, hLi =>
      simp only [List.getElem?_toArray, List.getElem?_cons_succ, List.getElem?_cons_zero, Option.some.injEq] at ho
      subst ho
      exact st_move rfl hI rfl hI.2.s3 rfl
    | 5, _, ho, hLi =>
      simp only [List.getElem?_toArray, List.getElem?_cons_succ, List.getElem?_cons_zero, Option.some.injEq] at ho
      subst ho
      obtain ⟨v4, hv4, hR4⟩ := hI.2.vals 4 10 rfl (hdeps ⟨4, .data⟩ (by simp) rfl)
      exact st_build (k := .feature) rfl hI rfl (eval_tmp hv4) hR4 (fun _ h => h)
    | 6, _, ho, hLi =>
      simp only [List.getElem?_toArray, List.getElem?_cons_succ, List.getElem?_cons_zero, Option.some.injEq] at ho
      subst ho
      exact st_ins (j := 5) rfl hI hLi rfl rfl (hdeps ⟨0, .data⟩ (by simp) rfl) rfl (hdeps ⟨5, .data⟩ (by simp) rfl) rfl (fun _ h => h)
    | 7, _, ho, hLi =>
      simp only [List.getElem?_toArray, List.getElem?_cons_succ, List.getElem?_cons_zero, Option.some.injEq] at ho
      subst ho
      exact st_move rfl hI rfl hI.2.s3 rfl
    | 8, _, ho, hLi =>
      simp only [List.getElem?_toArray, List.getElem?_cons_succ, List.getElem?_cons_zero, Option.some.injEq] at ho
      subst ho
      obtain ⟨v7, hv7, hR7⟩ := hI.2.vals 7 12 rfl (hdeps ⟨7, .data⟩ (by simp) rfl)
      exact st_build (k := .feature) rfl hI rfl (eval_tmp hv7) hR7 (fun _ h => h)
    | 9, _, ho, hLi =>
      simp only [List.getElem?_toArray, List.getElem?_cons_succ, List.getElem?_cons_zero, Option.some.injEq] at ho
      subst ho
      exact st_ins (j := 8) rfl hI hLi rfl rfl (hdeps ⟨0, .data⟩ (by simp) rfl) rfl (hdeps ⟨8, .data⟩ (by simp) rfl) rfl (fun _ h => h)
    | 10, _, ho, hLi =>
      simp only [List.getElem?_toArray, List.getElem?_cons_succ, List.getElem?_cons_zero, Option.some.injEq] at ho
      subst ho
      exact st_load rfl hI rfl hI.2.s1 (load83 _ _ _ (cell_heap K1 rfl)) rfl
    | 11, _, ho, hLi =>
      simp only [List.getElem?_toArray, List.getElem?_cons_succ, List.getElem?_cons_zero, Option.some.injEq] at ho
      subst ho
      obtain ⟨v10, hv10, hR10⟩ := hI.2.vals 10 14 rfl (hdeps ⟨10, .data⟩ (by simp) rfl)
      obtain rfl : v10 = _ := hR10
      exact st_call rfl hI rfl hv10 (enters_of Tryd.func48 (by kernel_rfl) rfl) (dev_call 11 127 (fun _ _ h => h) wr)
    | 12, _, ho, hLi =>
      simp only [List.getElem?_toArray, List.getElem?_cons_succ, List.getElem?_cons_zero, Option.some.injEq] at ho
      subst ho
      obtain ⟨v11, hv11, hR11⟩ := hI.2.vals 11 15 rfl (hdeps ⟨11, .data⟩ (by simp) rfl)
      exact st_build (k := .device 127) rfl hI rfl (eval_tmp hv11) hR11 (fun _ h => h)
    | 13, _, ho, hLi =>
      simp only [List.getElem?_toArray, List.getElem?_cons_succ, List.getElem?_cons_zero, Option.some.injEq] at ho
      subst ho
      exact st_ins (j := 12) rfl hI hLi rfl rfl (hdeps ⟨0, .data⟩ (by simp) rfl) rfl (hdeps ⟨12, .data⟩ (by simp) rfl) rfl (fun _ h => h)
    | 14, _, ho, hLi =>
      simp only [List.getElem?_toArray, List.getElem?_cons_succ, List.getElem?_cons_zero, Option.some.injEq] at ho
      subst ho
      exact st_build (k := .most1) rfl hI rfl rfl rfl (fun _ h => h)
    | 15, _, ho, hLi =>
      simp only [List.getElem?_toArray, List.getElem?_cons_succ, List.getElem?_cons_zero, Option.some.injEq] at ho
      subst ho
      exact st_ins (j := 14) rfl hI hLi rfl rfl (hdeps ⟨0, .data⟩ (by simp) rfl) rfl (hdeps ⟨14, .data⟩ (by simp) rfl) rfl (fun _ h => h)
    | 16, _, ho, hLi =>
      simp only [List.getElem?_toArray, List.getElem?_cons_succ, List.getElem?_cons_zero, Option.some.injEq] at ho
      subst ho
      exact st_build (k := .only0) rfl hI rfl rfl rfl (fun _ h => h)
    | 17, _, ho, hLi =>
      simp only [List.getElem?_toArray, List.getElem?_cons_succ, List.getElem?_cons_zero, Option.some.injEq] at ho
      subst ho
      exact st_ins (j := 16) rfl hI hLi rfl rfl (hdeps ⟨0, .data⟩ (by simp) rfl) rfl (hdeps ⟨16, .data⟩ (by simp) rfl) rfl (fun _ h => h)
    | 18, _, ho, hLi =>
      simp only [List.getElem?_toArray, List.getElem?_cons_succ, List.getElem?_cons_zero, Option.some.injEq] at ho
      subst ho
      exact st_load rfl hI rfl hI.2.s1 (load83 _ _ _ (cell_heap K1 rfl)) rfl
    | 19, _, ho, hLi =>
      simp only [List.getElem?_toArray, List.getElem?_cons_succ, List.getElem?_cons_zero, Option.some.injEq] at ho
      subst ho
      obtain ⟨v18, hv18, hR18⟩ := hI.2.vals 18 19 rfl (hdeps ⟨18, .data⟩ (by simp) rfl)
      obtain rfl : v18 = _ := hR18
      exact st_call rfl hI rfl hv18 (enters_of Tryd.func48 (by kernel_rfl) rfl) (dev_call 19 0 (fun _ _ h => h) wr)
    | 20, _, ho, hLi =>
      simp only [List.getElem?_toArray, List.getElem?_cons_succ, List.getElem?_cons_zero, Option.some.injEq] at ho
      subst ho
      obtain ⟨v19, hv19, hR19⟩ := hI.2.vals 19 20 rfl (hdeps ⟨19, .data⟩ (by simp) rfl)
      exact st_build (k := .device 0) rfl hI rfl (eval_tmp hv19) hR19 (fun _ h => h)
    | 21, _, ho, hLi =>
      simp only [List.getElem?_toArray, List.getElem?_cons_succ, List.getElem?_cons_zero, Option.some.injEq] at ho
      subst ho
      exact st_ins (j := 20) rfl hI hLi rfl rfl (hdeps ⟨0, .data⟩ (by simp) rfl) rfl (hdeps ⟨20, .data⟩ (by simp) rfl) rfl (fun _ h => h)
    | 22, _, ho, hLi =>
      simp only [List.getElem?_toArray, List.getElem?_cons_succ, List.getElem?_cons_zero, Option.some.injEq] at ho
      subst ho
      exact st_load rfl hI rfl hI.2.s1 (load83 _ _ _ (cell_heap K1 rfl)) rfl
    | 23, _, ho, hLi =>
      simp only [List.getElem?_toArray, List.getElem?_cons_succ, List.getElem?_cons_zero, Option.some.injEq] at ho
      subst ho
      obtain ⟨v22, hv22, hR22⟩ := hI.2.vals 22 22 rfl (hdeps ⟨22, .data⟩ (by simp) rfl)
      obtain rfl : v22 = _ := hR22
      exact st_call rfl hI rfl hv22 (enters_of Tryd.func48 (by kernel_rfl) rfl) (dev_call 23 255 (fun _ _ h => h) wr)
    | 24, _, ho, hLi =>
      simp only [List.getElem?_toArray, List.getElem?_cons_succ, List.getElem?_cons_zero, Option.some.injEq] at ho
      subst ho
      obtain ⟨v23, hv23, hR23⟩ := hI.2.vals 23 23 rfl (hdeps ⟨23, .data⟩ (by simp) rfl)
      exact st_build (k := .device 255) rfl hI rfl (eval_tmp hv23) hR23 (fun _ h => h)
    | 25, _, ho, hLi =>
      simp only [List.getElem?_toArray, List.getElem?_cons_succ, List.getElem?_cons_zero, Option.some.injEq] at ho
      subst ho
      exact st_ins (j := 24) rfl hI hLi rfl rfl (hdeps ⟨0, .data⟩ (by simp) rfl) rfl (hdeps ⟨24, .data⟩ (by simp) rfl) rfl (fun _ h => h)
    | 26, _, ho, hLi =>
      simp only [List.getElem?_toArray, List.getElem?_cons_succ, List.getElem?_cons_zero, Option.some.injEq] at ho
      subst ho
      exact st_load rfl hI rfl hI.2.s2 (load84 _ _ _ (cell_heap K2 rfl)) rfl
    | 27, _, ho, hLi =>
      simp only [List.getElem?_toArray, List.getElem?_cons_succ, List.getElem?_cons_zero, Option.some.injEq] at ho
      subst ho
      obtain ⟨v26, hv26, hR26⟩ := hI.2.vals 26 25 rfl (hdeps ⟨26, .data⟩ (by simp) rfl)
      obtain rfl : v26 = _ := hR26
      exact st_call rfl hI rfl hv26 (enters_of Tryd.func50 (by kernel_rfl) rfl) (set_call 27 0 (fun _ _ h => h) wr)
    | 28, _, ho, hLi =>
      simp only [List.getElem?_toArray, List.getElem?_cons_succ, List.getElem?_cons_zero, Option.some.injEq] at ho
      subst ho
      obtain ⟨v27, hv27, hR27⟩ := hI.2.vals 27 26 rfl (hdeps ⟨27, .data⟩ (by simp) rfl)
      exact st_build (k := .setting 0) rfl hI rfl (eval_tmp hv27) hR27 (fun _ h => h)
    | 29, _, ho, hLi =>
      simp only [List.getElem?_toArray, List.getElem?_cons_succ, List.getElem?_cons_zero, Option.some.injEq] at ho
      subst ho
      exact st_ins (j := 28) rfl hI hLi rfl rfl (hdeps ⟨0, .data⟩ (by simp) rfl) rfl (hdeps ⟨28, .data⟩ (by simp) rfl) rfl (fun _ h => h)
    | 30, _, ho, hLi =>
      simp only [List.getElem?_toArray, List.getElem?_cons_succ, List.getElem?_cons_zero, Option.some.injEq] at ho
      subst ho
      exact st_load rfl hI rfl hI.2.s2 (load84 _ _ _ (cell_heap K2 rfl)) rfl
    | 31, _, ho, hLi =>
      simp only [List.getElem?_toArray, List.getElem?_cons_succ, List.getElem?_cons_zero, Option.some.injEq] at ho
      subst ho
      obtain ⟨v30, hv30, hR30⟩ := hI.2.vals 30 28 rfl (hdeps ⟨30, .data⟩ (by simp) rfl)
      obtain rfl : v30 = _ := hR30
      exact st_call rfl hI rfl hv30 (enters_of Tryd.func50 (by kernel_rfl) rfl) (set_call 31 15 (fun _ _ h => h) wr)
    | 32, _, ho, hLi =>
      simp only [List.getElem?_toArray, List.getElem?_cons_succ, List.getElem?_cons_zero, Option.some.injEq] at ho
      subst ho
      obtain ⟨v31, hv31, hR31⟩ := hI.2.vals 31 29 rfl (hdeps ⟨31, .data⟩ (by simp) rfl)
      exact st_build (k := .setting 15) rfl hI rfl (eval_tmp hv31) hR31 (fun _ h => h)
    | 33, _, ho, hLi =>
      simp only [List.getElem?_toArray, List.getElem?_cons_succ, List.getElem?_cons_zero, Option.some.injEq] at ho
      subst ho
      exact st_ins (j := 32) rfl hI hLi rfl rfl (hdeps ⟨0, .data⟩ (by simp) rfl) rfl (hdeps ⟨32, .data⟩ (by simp) rfl) rfl (fun _ h => h)
    | 34, _, ho, hLi =>
      simp only [List.getElem?_toArray, List.getElem?_cons_succ, List.getElem?_cons_zero, Option.some.injEq] at ho
      subst ho
      exact st_load rfl hI rfl hI.2.s4 (load58 _ _ _ (cell_heap K4 rfl)) rfl
    | 35, _, ho, hLi =>
      simp only [List.getElem?_toArray, List.getElem?_cons_succ, List.getElem?_cons_zero, Option.some.injEq] at ho
      subst ho
      obtain ⟨v34, hv34, hR34⟩ := hI.2.vals 34 31 rfl (hdeps ⟨34, .data⟩ (by simp) rfl)
      exact st_build (k := .endp) rfl hI rfl (eval_tmp hv34) hR34 (fun _ h => h)
    | 36, _, ho, hLi =>
      simp only [List.getElem?_toArray, List.getElem?_cons_succ, List.getElem?_cons_zero, Option.some.injEq] at ho
      subst ho
      exact st_ins (j := 35) rfl hI hLi rfl rfl (hdeps ⟨0, .data⟩ (by simp) rfl) rfl (hdeps ⟨35, .data⟩ (by simp) rfl) rfl (fun _ h => h)
    | 37, _, ho, hLi =>
      simp only [List.getElem?_toArray, List.getElem?_cons_succ, List.getElem?_cons_zero, Option.some.injEq] at ho
      subst ho
      obtain ⟨b, n, f, e1, _⟩ := hI.2.map (hdeps ⟨0, .data⟩ (by simp) rfl)
      refine op_val (v := a.eval (.tmp 7)) rfl rfl rfl ?_
      rw [eval_tmp e1]
      exact ⟨by have := hI.1; omega, hI.2.move33 (hdeps ⟨0, .data⟩ (by simp) rfl) e1⟩
    | 38, _, ho, hLi =>
      simp only [List.getElem?_toArray, List.getElem?_cons_succ, List.getElem?_cons_zero, Option.some.injEq] at ho
      subst ho
      obtain ⟨h0, e⟩ := hI.2.m33 (hdeps ⟨37, .data⟩ (by simp) rfl)
      obtain ⟨b, n, f, e1, _⟩ := hI.2.map h0
      rw [e1] at e
      refine op_val (v := a.eval (.tmp 33)) rfl rfl rfl ?_
      rw [eval_tmp e]
      exact ⟨by have := hI.1; omega, hI.2.assign0 (hdeps ⟨37, .data⟩ (by simp) rfl) e⟩
  case done =>
    intro L a wr hL hI
    obtain ⟨h0, e0⟩ := hI.2.m0 (hL 38 (by decide))
    obtain ⟨b, n, f, e1, e2, e3, e4, e5⟩ := hI.2.map h0
    rw [e1] at e0
    go_wp2
    refine bodyPost_ret (v := .map (some b)) (by simp [results, Tryd.results33, go_sem, Array.getD_eq_getD_getElem?, e0]) hI.2.defers ⟨_, rfl, ⟨b, n, f, rfl, e3, fun c => ?_⟩, hkW.trans' (of_drew hI.2.kept)⟩
    cases hr : rowF c with
    | none =>
      refine (e5 c).2 fun j hj => ?_
      rw [row_none hr] at hj; cases hj
    | some r =>
      obtain ⟨j, hj⟩ := ins_row hr
      obtain ⟨r', v, q1, q2, q3⟩ := (e5 c).1 j hj (hL j (insOf_facts hj).2.2.2.2)
      rw [hr] at q1
      obtain rfl := Option.some.inj q1
      exact ⟨v, q2, q3⟩
end Go.Proofs.YtfoeihbajichpaaDoor
