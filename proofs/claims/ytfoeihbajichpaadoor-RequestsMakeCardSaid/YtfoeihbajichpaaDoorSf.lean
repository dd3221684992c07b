
/- The table of the standard requests: the map that it returns, whatever order its literal's operations come in. No condition. -/
import Derived.Test.YtfoeihbajichpaaDoorChecked
import Derived.Deep.RegionHeld3
import Derived.Deep.DrawnRows
import Derived.Deep.DeepCutAuto
import Derived.Deep.LoopGhost
import Derived.Outline
import Derived.Handy
import Derived.OwnWalk
import Derived.Laws.EntriesVeiled
import Derived.Test.YtfoeihbajichpaaDoorSe
import Derived.Test.YtfoeihbajichpaaDoorRi
set_option linter.unusedVariables false
set_option linter.unusedSimpArgs false
set_option linter.unusedSectionVars false
namespace Go.Proofs.YtfoeihbajichpaaDoor
open Go.RowKit Go.Lib Go.Maps Go.WideShapes
attribute [local go_sem ↓] Go.wp_at_zero Go.wp_at_succ

section
variable {P : Program} {ops : Array Oper} {Q : Exit → Act → World → Prop} {i : Nat} {K : Act → World → Prop} {a : Act} {w w' : World} {o : Oper} {v : Value}
theorem op_val (ho : ops[i]? = some o) (hg : o.guard = none) (hrun : (execOp a.eval o).run P w = .ok (.value v) w') (hK : K (a.put o.dst v) w') : wpOp P ops Q i K a w := by
  unfold wpOp; simp only [ho]; rw [if_pos (by simp [Region.wanted, hg])]; left; unfold Oper.wp; rw [hrun]; exact hK
theorem op_skip (ho : ops[i]? = some o) (hg : o.guard = none) (hrun : (execOp a.eval o).run P w = .ok .skip w') (hK : K (a.put o.dst undef) w') : wpOp P ops Q i K a w := by
  unfold wpOp; simp only [ho]; rw [if_pos (by simp [Region.wanted, hg])]; left; unfold Oper.wp; rw [hrun]; exact hK
theorem op_call {f : FuncId} {args : Array Value} (ho : ops[i]? = some o) (hg : o.guard = none) (hrun : (execOp a.eval o).run P w = .ok (.enter f args) w) (hc : Calls P f args w fun e w' => ∃ v, e = .returned v ∧ K (a.put o.dst v) w') : wpOp P ops Q i K a w := by
  unfold wpOp; simp only [ho]; rw [if_pos (by simp [Region.wanted, hg])]; left; unfold Oper.wp; rw [hrun]
  exact hc.mono fun e w' ⟨v, he, h⟩ => by subst he; exact h
theorem eval_tmp {k : Nat} (h : a.tmps[k]? = some v) : a.eval (.tmp k) = v := by
  show a.tmps.getD k undef = v
  rw [Array.getD_eq_getD_getElem?, h]; rfl
theorem put_at {d : Nat} (h : d < a.tmps.size) : (a.put (some d) v).tmps[d]? = some v := by
  show (a.tmps.setIfInBounds d v)[d]? = _
  rw [Array.getElem?_setIfInBounds, if_pos rfl, if_pos h]
theorem put_ne {d k : Nat} (h : k ≠ d) : (a.put (some d) v).tmps[k]? = a.tmps[k]? := by
  show (a.tmps.setIfInBounds d v)[k]? = _
  rw [Array.getElem?_setIfInBounds, if_neg (fun e => h e.symm)]
theorem put_size {d : Option Nat} : (a.put d v).tmps.size = a.tmps.size := by
  cases d
  · rfl
  · show (a.tmps.setIfInBounds _ v).size = _; simp
theorem put_defers {d : Option Nat} : (a.put d v).defers = a.defers := by cases d <;> rfl
end

/-- all cells are as they were -/
abbrev CellsOn (w w' : World) : Prop := ∀ (b : Nat) (cs : Array Value) (t : TypeId) (fr : Nat × Nat), w.heap[b]? = some (Obj.cells cs t fr) → w'.heap[b]? = some (Obj.cells cs t fr)
/-- a value is a function of such a kind -/
def FnIs (k : FK) (w : World) (v : Value) : Prop := match k with
  | .device m => ∃ x, v = .func (.func 49) #[] #[.pointer (some ⟨x, 0, none⟩)] ∧ w.heap[x]? = some (.cells #[.int .i64 m] 3 (0, 0))
  | .setting m => ∃ x, v = .func (.func 51) #[] #[.pointer (some ⟨x, 0, none⟩)] ∧ w.heap[x]? = some (.cells #[.int .u16 m] 23 (0, 0))
  | .status => ∃ p1 p2 p4, v = .func (.func 55) #[] #[.pointer (some ⟨p1, 0, none⟩), .pointer (some ⟨p2, 0, none⟩), .pointer (some ⟨p4, 0, none⟩)] ∧
      w.heap[p1]? = some (.cells #[.func (.func 48) #[] #[]] 83 (0, 0)) ∧ w.heap[p2]? = some (.cells #[.func (.func 50) #[] #[]] 84 (0, 0)) ∧ w.heap[p4]? = some (.cells #[.func (.func 54) #[] #[]] 58 (0, 0))
  | .feature => v = .func (.func 52) #[] #[]
  | .endp => v = .func (.func 54) #[] #[]
  | .most1 => v = .func (.func 56) #[] #[]
  | .only0 => v = .func (.func 57) #[] #[]
theorem FnIs.of_cells {k : FK} {w w' : World} {v : Value} (h : FnIs k w v) (hc : CellsOn w w') : FnIs k w' v := by
  cases k with
  | device m => obtain ⟨x, h1, h2⟩ := h; exact ⟨x, h1, hc _ _ _ _ h2⟩
  | setting m => obtain ⟨x, h1, h2⟩ := h; exact ⟨x, h1, hc _ _ _ _ h2⟩
  | status => obtain ⟨p1, p2, p4, h1, h2, h3, h4⟩ := h; exact ⟨p1, p2, p4, h1, hc _ _ _ _ h2, hc _ _ _ _ h3, hc _ _ _ _ h4⟩
  | feature => exact h
  | endp => exact h
  | most1 => exact h
  | only0 => exact h
theorem FnIs.kept {k : FK} {w w' : World} {v : Value} (h : FnIs k w v) (hk : Kept w w') : FnIs k w' v := h.of_cells fun _ _ _ _ e => heap_kept hk e
theorem FnIs.func {k : FK} {w : World} {v : Value} (h : FnIs k w v) : ∃ f caps, v = .func (.func f) #[] caps := by
  cases k with
  | device m => obtain ⟨x, h1, h2⟩ := h; exact ⟨_, _, h1⟩
  | setting m => obtain ⟨x, h1, h2⟩ := h; exact ⟨_, _, h1⟩
  | status => obtain ⟨p1, p2, p4, h1, h2, h3, h4⟩ := h; exact ⟨_, _, h1⟩
  | feature => exact ⟨_, _, h⟩
  | endp => exact ⟨_, _, h⟩
  | most1 => exact ⟨_, _, h⟩
  | only0 => exact ⟨_, _, h⟩
/-- what such a function answers -/
theorem FnIs.calls {k : FK} {w : World} {v : Value} (h : FnIs k w v) : ∃ f caps, v = .func (.func f) #[] caps ∧ (∀ args W, (callFunc f args).run Tryd.prog W = .ok (.enter f args) W) ∧
    ∀ (r x i : Int) (W : World), CellsOn w W → 0 ≤ x → x < 65536 → 0 ≤ i → i < 65536 →
      Calls Tryd.prog f (#[.int .u8 r, .int .u16 x, .int .u16 i] ++ caps) W fun e w' => e = .returned (.bool (k.fits r x i)) ∧ Kept W w' := by
  have refl : ∀ {f : FuncId} {args : Array Value} {W : World} {b : Bool}, Calls Tryd.prog f args W (fun e w' => e = .returned (.bool b) ∧ W = w') → Calls Tryd.prog f args W (fun e w' => e = .returned (.bool b) ∧ Kept W w') :=
    fun h => h.mono fun e w' ⟨he, hw⟩ => ⟨he, hw ▸ Below.refl _ _⟩
  cases k with
  | device m =>
    obtain ⟨x, h1, h2⟩ := h
    exact ⟨49, _, h1, enters_of Tryd.func49 (by kernel_rfl) rfl, fun r v i W hc a0 a1 b0 b1 => refl (dev1_any m r v i x W a0 a1 (cell_heap (hc _ _ _ _ h2) rfl))⟩
  | setting m =>
    obtain ⟨x, h1, h2⟩ := h
    exact ⟨51, _, h1, enters_of Tryd.func51 (by kernel_rfl) rfl, fun r v i W hc a0 a1 b0 b1 => refl (set1_any m r v i x W (cell_heap (hc _ _ _ _ h2) rfl))⟩
  | status =>
    obtain ⟨p1, p2, p4, h1, h2, h3, h4⟩ := h
    exact ⟨55, _, h1, enters_of Tryd.func55 (by kernel_rfl) rfl, fun r v i W hc a0 a1 b0 b1 => stat_any r v i p1 p2 p4 W a0 a1 b0 b1 (cell_heap (hc _ _ _ _ h2) rfl) (cell_heap (hc _ _ _ _ h3) rfl) (cell_heap (hc _ _ _ _ h4) rfl) (heap_lt (hc _ _ _ _ h2)) (heap_lt (hc _ _ _ _ h3)) (heap_lt (hc _ _ _ _ h4))⟩
  | feature => exact ⟨52, _, h, enters_of Tryd.func52 (by kernel_rfl) rfl, fun r v i W hc a0 a1 b0 b1 => refl (feat_any r v i W b0 b1)⟩
  | endp => exact ⟨54, _, h, enters_of Tryd.func54 (by kernel_rfl) rfl, fun r v i W hc a0 a1 b0 b1 => refl (at_any r v i W b0 b1)⟩
  | most1 => exact ⟨56, _, h, enters_of Tryd.func56 (by kernel_rfl) rfl, fun r v i W hc a0 a1 b0 b1 => refl (most1_any r v i W)⟩
  | only0 => exact ⟨57, _, h, enters_of Tryd.func57 (by kernel_rfl) rfl, fun r v i W hc a0 a1 b0 b1 => refl (only0_any r v i W)⟩

/-- the table's rows -/
def rowF (c : Int) : Option (Bool × Int × FK) :=
  if c = 0 then some (true, 2, .status) else if c = 1 then some (false, 0, .feature) else if c = 3 then some (false, 0, .feature) else if c = 5 then some (false, 0, .device 127) else
  if c = 6 then some (true, -1, .most1) else if c = 7 then some (false, -1, .only0) else if c = 8 then some (true, 1, .device 0) else if c = 9 then some (false, 0, .device 255) else
  if c = 10 then some (true, 1, .setting 0) else if c = 11 then some (false, 0, .setting 15) else if c = 12 then some (true, 2, .endp) else none
def RowIs (r : Bool × Int × FK) (w : World) (v : Value) : Prop := ∃ fv, v = .agg #[.bool r.1, .int .i64 r.2.1, fv] ∧ FnIs r.2.2 w fv
/-- the operation that lays the row of a code -/
def insOf (c : Int) : Option Nat :=
  if c = 0 then some 3 else if c = 1 then some 6 else if c = 3 then some 9 else if c = 5 then some 13 else if c = 6 then some 15 else if c = 7 then some 17 else
  if c = 8 then some 21 else if c = 9 then some 25 else if c = 10 then some 29 else if c = 11 then some 33 else if c = 12 then some 36 else none
def codeOf (j : Nat) : Int := if j = 3 then 0 else if j = 6 then 1 else if j = 9 then 3 else if j = 13 then 5 else if j = 15 then 6 else if j = 17 then 7 else if j = 21 then 8 else if j = 25 then 9 else if j = 29 then 10 else if j = 33 then 11 else 12
/-- the slots of the values, and what they hold -/
def dstOf : Nat → Option Nat
  | 1 => some 8
  | 2 => some 9
  | 4 => some 10
  | 5 => some 11
  | 7 => some 12
  | 8 => some 13
  | 10 => some 14
  | 11 => some 15
  | 12 => some 16
  | 14 => some 17
  | 16 => some 18
  | 18 => some 19
  | 19 => some 20
  | 20 => some 21
  | 22 => some 22
  | 23 => some 23
  | 24 => some 24
  | 26 => some 25
  | 27 => some 26
  | 28 => some 27
  | 30 => some 28
  | 31 => some 29
  | 32 => some 30
  | 34 => some 31
  | 35 => some 32
  | _ => none
def Holds (j : Nat) (w : World) (v : Value) : Prop := match j with
  | 1 => FnIs .status w v
  | 2 => RowIs (true, 2, .status) w v
  | 4 => FnIs .feature w v
  | 5 => RowIs (false, 0, .feature) w v
  | 7 => FnIs .feature w v
  | 8 => RowIs (false, 0, .feature) w v
  | 10 => v = .func (.func 48) #[] #[]
  | 11 => FnIs (.device 127) w v
  | 12 => RowIs (false, 0, .device 127) w v
  | 14 => RowIs (true, -1, .most1) w v
  | 16 => RowIs (false, -1, .only0) w v
  | 18 => v = .func (.func 48) #[] #[]
  | 19 => FnIs (.device 0) w v
  | 20 => RowIs (true, 1, .device 0) w v
  | 22 => v = .func (.func 48) #[] #[]
  | 23 => FnIs (.device 255) w v
  | 24 => RowIs (false, 0, .device 255) w v
  | 26 => v = .func (.func 50) #[] #[]
  | 27 => FnIs (.setting 0) w v
  | 28 => RowIs (true, 1, .setting 0) w v
  | 30 => v = .func (.func 50) #[] #[]
  | 31 => FnIs (.setting 15) w v
  | 32 => RowIs (false, 0, .setting 15) w v
  | 34 => FnIs .endp w v
  | 35 => RowIs (true, 2, .endp) w v
  | _ => True
theorem dst_lt {j d : Nat} (h : dstOf j = some d) : j < 39 ∧ 8 ≤ d ∧ d ≤ 32 := by
  unfold dstOf at h
  split at h
  all_goals first | (injection h with h; omega) | cases h
theorem dst_fin : ∀ i j : Fin 39, (dstOf i.val).isSome = true → dstOf i.val = dstOf j.val → i = j := by decide +kernel
theorem dst_inj {i j d : Nat} (hi : dstOf i = some d) (hj : dstOf j = some d) : i = j := by
  have h := dst_fin ⟨i, (dst_lt hi).1⟩ ⟨j, (dst_lt hj).1⟩ (by rw [hi]; rfl) (by rw [hi, hj])
  exact congrArg Fin.val h
theorem RowIs.of_cells {r : Bool × Int × FK} {w w' : World} {v : Value} (h : RowIs r w v) (hc : CellsOn w w') : RowIs r w' v := by
  obtain ⟨fv, h1, h2⟩ := h; exact ⟨fv, h1, h2.of_cells hc⟩
theorem Holds.of_cells {j : Nat} {w w' : World} {v : Value} (h : Holds j w v) (hc : CellsOn w w') : Holds j w' v := by
  unfold Holds at h ⊢
  split
  all_goals first | exact FnIs.of_cells (by simpa using h) hc | exact RowIs.of_cells (by simpa using h) hc | exact h | trivial
theorem insOf_val {c : Int} {j : Nat} (h : insOf c = some j) : (j = 3 ∧ c = 0) ∨ (j = 6 ∧ c = 1) ∨ (j = 9 ∧ c = 3) ∨ (j = 13 ∧ c = 5) ∨ (j = 15 ∧ c = 6) ∨ (j = 17 ∧ c = 7) ∨ (j = 21 ∧ c = 8) ∨ (j = 25 ∧ c = 9) ∨ (j = 29 ∧ c = 10) ∨ (j = 33 ∧ c = 11) ∨ (j = 36 ∧ c = 12) := by
  unfold insOf at h
  by_cases h0 : c = 0
  · rw [if_pos h0] at h; injection h; omega
  rw [if_neg h0] at h
  by_cases h1 : c = 1
  · rw [if_pos h1] at h; injection h; omega
  rw [if_neg h1] at h
  by_cases h3 : c = 3
  · rw [if_pos h3] at h; injection h; omega
  rw [if_neg h3] at h
  by_cases h5 : c = 5
  · rw [if_pos h5] at h; injection h; omega
  rw [if_neg h5] at h
  by_cases h6 : c = 6
  · rw [if_pos h6] at h; injection h; omega
  rw [if_neg h6] at h
  by_cases h7 : c = 7
  · rw [if_pos h7] at h; injection h; omega
  rw [if_neg h7] at h
  by_cases h8 : c = 8
  · rw [if_pos h8] at h; injection h; omega
  rw [if_neg h8] at h
  by_cases h9 : c = 9
  · rw [if_pos h9] at h; injection h; omega
  rw [if_neg h9] at h
  by_cases h10 : c = 10
  · rw [if_pos h10] at h; injection h; omega
  rw [if_neg h10] at h
  by_cases h11 : c = 11
  · rw [if_pos h11] at h; injection h; omega
  rw [if_neg h11] at h
  by_cases h12 : c = 12
  · rw [if_pos h12] at h; injection h; omega
  rw [if_neg h12] at h
  cases h
theorem insOf_inv {c : Int} {j : Nat} (h : insOf c = some j) : codeOf j = c := by
  rcases insOf_val h with ⟨rfl, rfl⟩ | ⟨rfl, rfl⟩ | ⟨rfl, rfl⟩ | ⟨rfl, rfl⟩ | ⟨rfl, rfl⟩ | ⟨rfl, rfl⟩ | ⟨rfl, rfl⟩ | ⟨rfl, rfl⟩ | ⟨rfl, rfl⟩ | ⟨rfl, rfl⟩ | ⟨rfl, rfl⟩ <;> rfl
theorem insOf_facts {c : Int} {k : Nat} (h : insOf c = some k) : k ≠ 0 ∧ k ≠ 37 ∧ k ≠ 38 ∧ dstOf k = none ∧ k < 39 := by
  rcases insOf_val h with ⟨rfl, rfl⟩ | ⟨rfl, rfl⟩ | ⟨rfl, rfl⟩ | ⟨rfl, rfl⟩ | ⟨rfl, rfl⟩ | ⟨rfl, rfl⟩ | ⟨rfl, rfl⟩ | ⟨rfl, rfl⟩ | ⟨rfl, rfl⟩ | ⟨rfl, rfl⟩ | ⟨rfl, rfl⟩ <;> exact ⟨by decide, by decide, by decide, rfl, by decide⟩
/-- the state of the region: what has come up, and what it has left -/
structure Inv (W0 : World) (p1 p2 p4 : Nat) (fuel : Nat) (L : Nat → Bool) (a : Act) (w : World) : Prop where
  defers : a.defers = []
  size : a.tmps.size = 34
  s1 : a.tmps[1]? = some (.pointer (some ⟨p1, 0, none⟩))
  s2 : a.tmps[2]? = some (.pointer (some ⟨p2, 0, none⟩))
  s3 : a.tmps[3]? = some (.func (.func 52) #[] #[])
  s4 : a.tmps[4]? = some (.pointer (some ⟨p4, 0, none⟩))
  s5 : a.tmps[5]? = some (.func (.func 55) #[] #[.pointer (some ⟨p1, 0, none⟩), .pointer (some ⟨p2, 0, none⟩), .pointer (some ⟨p4, 0, none⟩)])
  kept : Kept W0 w
  vals : ∀ j d, dstOf j = some d → L j = true → ∃ v, a.tmps[d]? = some v ∧ Holds j w v
  ins : ∀ c j, insOf c = some j → L j = true → L 0 = true
  map : L 0 = true → ∃ b n f, a.tmps[7]? = some (.map (some b)) ∧ n + fuel ≤ 39 ∧ MapIs Tryd.prog 5 w b n f ∧ W0.heap.size ≤ b ∧
    ∀ c : Int, (∀ j, insOf c = some j → L j = true → ∃ r v, rowF c = some r ∧ f (.int .u8 c) = some v ∧ RowIs r w v) ∧ ((∀ j, insOf c = some j → L j = false) → f (.int .u8 c) = none)
  m33 : L 37 = true → L 0 = true ∧ a.tmps[33]? = a.tmps[7]?
  m0 : L 38 = true → L 0 = true ∧ a.tmps[0]? = a.tmps[7]?
section
variable {W0 w w' : World} {p1 p2 p4 fuel : Nat} {L : Nat → Bool} {a : Act}
theorem Inv.ext {L' : Nat → Bool} (h : Inv W0 p1 p2 p4 fuel L a w) (hL : ∀ i, i < 39 → L i = L' i) : Inv W0 p1 p2 p4 fuel L' a w := by
  have hi : ∀ {c : Int} {j : Nat}, insOf c = some j → j < 39 := fun {c j} h => (insOf_facts h).2.2.2.2
  exact ⟨h.defers, h.size, h.s1, h.s2, h.s3, h.s4, h.s5, h.kept, fun j d hd hj => h.vals j d hd ((hL j (dst_lt hd).1).trans hj), fun c j hc hj => (hL 0 (by omega)).symm.trans (h.ins c j hc ((hL j (hi hc)).trans hj)),
    fun h0 => by
      obtain ⟨b, n, f, e1, e2, e3, e4, e5⟩ := h.map ((hL 0 (by omega)).trans h0)
      exact ⟨b, n, f, e1, e2, e3, e4, fun c => ⟨fun j hc hj => (e5 c).1 j hc ((hL j (hi hc)).trans hj), fun hn => (e5 c).2 fun j hc => (hL j (hi hc)).trans (hn j hc)⟩⟩,
    fun h1 => ⟨(hL 0 (by omega)).symm.trans (h.m33 ((hL 37 (by omega)).trans h1)).1, (h.m33 ((hL 37 (by omega)).trans h1)).2⟩, fun h1 => ⟨(hL 0 (by omega)).symm.trans (h.m0 ((hL 38 (by omega)).trans h1)).1, (h.m0 ((hL 38 (by omega)).trans h1)).2⟩⟩
theorem ins_ne {c : Int} {i j : Nat} (h : insOf c = some i) (hd : (dstOf j).isSome = true) : i ≠ j := by
  intro e
  subst e
  rw [(insOf_facts h).2.2.2.1] at hd
  cases hd
/-- an operation that yields a value -/
theorem Inv.value {j d : Nat} {v : Value} (h : Inv W0 p1 p2 p4 (fuel + 1) L a w) (hd : dstOf j = some d) (hk : Kept w w') (hv : Holds j w' v) : Inv W0 p1 p2 p4 fuel (setL L j) (a.put (some d) v) w' := by
  obtain ⟨hj39, hd8, hd32⟩ := dst_lt hd
  have hcells : CellsOn w w' := fun _ _ _ _ e => heap_kept hk e
  have h0j : 0 ≠ j := fun e => by subst e; cases hd
  have h37 : 37 ≠ j := fun e => by subst e; cases hd
  have h38 : 38 ≠ j := fun e => by subst e; cases hd
  refine ⟨put_defers.trans h.defers, put_size.trans h.size, (put_ne (by omega)).trans h.s1, (put_ne (by omega)).trans h.s2, (put_ne (by omega)).trans h.s3, (put_ne (by omega)).trans h.s4, (put_ne (by omega)).trans h.s5, h.kept.trans' hk, ?_, ?_, ?_, ?_, ?_⟩
  · intro k e hke hL
    by_cases hkj : k = j
    · subst hkj
      obtain rfl := Option.some.inj (hd.symm.trans hke)
      exact ⟨v, put_at (by rw [h.size]; omega), hv⟩
    · rw [setL_ne hkj] at hL
      obtain ⟨u, hu, hR⟩ := h.vals k e hke hL
      exact ⟨u, (put_ne (fun ee => hkj (dst_inj hke (by rw [ee]; exact hd)))).trans hu, hR.of_cells hcells⟩
  · intro c k hc hL
    rw [setL_ne (ins_ne hc (by rw [hd]; rfl))] at hL
    rw [setL_ne h0j]
    exact h.ins c k hc hL
  · intro hL
    rw [setL_ne h0j] at hL
    obtain ⟨b, n, f, e1, e2, e3, e4, e5⟩ := h.map hL
    refine ⟨b, n, f, (put_ne (by omega)).trans e1, by omega, e3.keep hk, e4, fun c => ⟨fun k hc hL => ?_, fun hn => (e5 c).2 fun k hc => ?_⟩⟩
    · rw [setL_ne (ins_ne hc (by rw [hd]; rfl))] at hL
      obtain ⟨r, u, q1, q2, q3⟩ := (e5 c).1 k hc hL
      exact ⟨r, u, q1, q2, q3.of_cells hcells⟩
    · have := hn k hc
      rwa [setL_ne (ins_ne hc (by rw [hd]; rfl))] at this
  · intro hL
    rw [setL_ne h37] at hL
    rw [put_ne (by omega), put_ne (by omega), setL_ne h0j]
    exact h.m33 hL
  · intro hL
    rw [setL_ne h38] at hL
    rw [put_ne (by omega), put_ne (by omega), setL_ne h0j]
    exact h.m0 hL
/-- the operation that makes the map -/
theorem Inv.make (h : Inv W0 p1 p2 p4 (fuel + 1) L a w) (hf : fuel + 1 ≤ 39) (h0 : L 0 = false) : Inv W0 p1 p2 p4 fuel (setL L 0) (a.put (some 7) (.map (some w.heap.size))) (w.alloc (.map #[] 0)) := by
  have hk : Kept w (w.alloc (.map #[] 0)) := (Below.refl _ _).alloc (Nat.le_refl _) _
  have hcells : CellsOn w (w.alloc (.map #[] 0)) := fun _ _ _ _ e => heap_kept hk e
  have hno : ∀ c k, insOf c = some k → L k = false := fun c k hc => by
    cases hL : L k
    · rfl
    · rw [h.ins c k hc hL] at h0; cases h0
  refine ⟨put_defers.trans h.defers, put_size.trans h.size, (put_ne (by omega)).trans h.s1, (put_ne (by omega)).trans h.s2, (put_ne (by omega)).trans h.s3, (put_ne (by omega)).trans h.s4, (put_ne (by omega)).trans h.s5, h.kept.trans' hk, ?_, fun c k _ _ => setL_self _ _, ?_, ?_, ?_⟩
  · intro k e hke hL
    have hk0 : k ≠ 0 := fun e => by subst e; cases hke
    have := (dst_lt hke).2
    rw [setL_ne hk0] at hL
    obtain ⟨u, hu, hR⟩ := h.vals k e hke hL
    exact ⟨u, (put_ne (by omega)).trans hu, hR.of_cells hcells⟩
  · intro _
    refine ⟨w.heap.size, 0, _, put_at (by rw [h.size]; omega), by omega, MapIs.made w Tryd.prog 5, h.kept.size, fun c => ⟨fun k hc hL => ?_, fun _ => rfl⟩⟩
    have hk0 : k ≠ 0 := (insOf_facts hc).1
    rw [setL_ne hk0, hno c k hc] at hL
    cases hL
  · intro hL
    rw [setL_ne (by omega)] at hL
    rw [(h.m33 hL).1] at h0; cases h0
  · intro hL
    rw [setL_ne (by omega)] at hL
    rw [(h.m0 hL).1] at h0; cases h0
/-- an operation that lays a row -/
theorem Inv.insert {c : Int} {j b n : Nat} {f : Lit → Option Value} {r : Bool × Int × FK} {v : Value} (h : Inv W0 p1 p2 p4 (fuel + 1) L a w) (hc : insOf c = some j) (hj : L j = false) (h0 : L 0 = true) (hr : rowF c = some r) (hv : RowIs r w v)
    (e1 : a.tmps[7]? = some (.map (some b))) (e2 : n + (fuel + 1) ≤ 39) (e4 : W0.heap.size ≤ b) (e5 : ∀ c : Int, (∀ j, insOf c = some j → L j = true → ∃ r v, rowF c = some r ∧ f (.int .u8 c) = some v ∧ RowIs r w v) ∧ ((∀ j, insOf c = some j → L j = false) → f (.int .u8 c) = none))
    (hb : ∀ cs t fr, w.heap[b]? ≠ some (Obj.cells cs t fr)) (hm : MapIs Tryd.prog 5 w' b (n + 1) (putF f (.int .u8 c) v)) (hg : w.grownBy w' (some b)) : Inv W0 p1 p2 p4 fuel (setL L j) (a.put none undef) w' := by
  have hcells : CellsOn w w' := fun k cs t fr e => (hg.block k (Array.getElem?_eq_some_iff.1 e).1 (fun ee => by injection ee with ee; subst ee; exact hb _ _ _ e)).trans e
  obtain ⟨n0, n37, n38, nd, _⟩ := insOf_facts hc
  show Inv W0 p1 p2 p4 fuel (setL L j) a w'
  refine ⟨h.defers, h.size, h.s1, h.s2, h.s3, h.s4, h.s5, (h.kept.grown hg h.kept.size (fun k e => by injection e with e; omega)), ?_, ?_, ?_, ?_, ?_⟩
  · intro k e hke hL
    rw [setL_ne (fun ee => by subst ee; rw [nd] at hke; cases hke)] at hL
    obtain ⟨u, hu, hR⟩ := h.vals k e hke hL
    exact ⟨u, hu, hR.of_cells hcells⟩
  · intro _ _ _ _
    rw [setL_ne (fun ee => n0 ee.symm)]; exact h0
  · intro _
    refine ⟨b, n + 1, _, e1, by omega, hm, e4, fun c' => ?_⟩
    by_cases hcc : c' = c
    · subst hcc
      refine ⟨fun k hk _ => ⟨r, v, hr, ?_, hv.of_cells hcells⟩, fun hn => ?_⟩
      · unfold putF; rw [WideAt.sameKey_self (by trivial)]; rfl
      · have := hn j hc
        rw [setL_self] at this; cases this
    · have hne : ((Lit.int .u8 c').sameKey (.int .u8 c)) = false := sameKey_ne (fun e => hcc (by injection e))
      have hkj : ∀ k, insOf c' = some k → k ≠ j := fun k hk e => by
        subst e
        exact hcc ((insOf_inv hk).symm.trans (insOf_inv hc))
      unfold putF
      rw [hne]
      refine ⟨fun k hk hL => ?_, fun hn => (e5 c').2 fun k hk => ?_⟩
      · rw [setL_ne (hkj k hk)] at hL
        obtain ⟨r', u, q1, q2, q3⟩ := (e5 c').1 k hk hL
        exact ⟨r', u, q1, q2, q3.of_cells hcells⟩
      · have := hn k hk
        rwa [setL_ne (hkj k hk)] at this
  · intro hL
    rw [setL_ne (fun ee => n37 ee.symm)] at hL
    rw [setL_ne (fun ee => n0 ee.symm)]
    exact h.m33 hL
  · intro hL
    rw [setL_ne (fun ee => n38 ee.symm)] at hL
    rw [setL_ne (fun ee => n0 ee.symm)]
    exact h.m0 hL
theorem Inv.move33 {v : Value} (h : Inv W0 p1 p2 p4 (fuel + 1) L a w) (h0 : L 0 = true) (hv : a.tmps[7]? = some v) : Inv W0 p1 p2 p4 fuel (setL L 37) (a.put (some 33) v) w := by
  refine ⟨put_defers.trans h.defers, put_size.trans h.size, (put_ne (by omega)).trans h.s1, (put_ne (by omega)).trans h.s2, (put_ne (by omega)).trans h.s3, (put_ne (by omega)).trans h.s4, (put_ne (by omega)).trans h.s5, h.kept, ?_, ?_, ?_, ?_, ?_⟩
  · intro k e hke hL
    have := (dst_lt hke).2
    rw [setL_ne (fun ee => by subst ee; cases hke)] at hL
    obtain ⟨u, hu, hR⟩ := h.vals k e hke hL
    exact ⟨u, (put_ne (by omega)).trans hu, hR⟩
  · intro _ _ _ _; rw [setL_ne (by omega)]; exact h0
  · intro _
    obtain ⟨b, n, f, e1, e2, e3, e4, e5⟩ := h.map h0
    have hj37 : ∀ {c : Int} {k : Nat}, insOf c = some k → k ≠ 37 := fun {c k} h => (insOf_facts h).2.1
    refine ⟨b, n, f, (put_ne (by omega)).trans e1, by omega, e3, e4, fun c => ⟨fun k hc hL => ?_, fun hn => (e5 c).2 fun k hc => ?_⟩⟩
    · rw [setL_ne (hj37 hc)] at hL; exact (e5 c).1 k hc hL
    · have := hn k hc; rwa [setL_ne (hj37 hc)] at this
  · intro _
    exact ⟨by rw [setL_ne (by omega)]; exact h0, (put_at (by rw [h.size]; omega)).trans (by rw [put_ne (by omega), hv])⟩
  · intro hL
    rw [setL_ne (by omega)] at hL
    exact ⟨by rw [setL_ne (by omega)]; exact h0, by rw [put_ne (by omega), put_ne (by omega)]; exact (h.m0 hL).2⟩
theorem Inv.assign0 {v : Value} (h : Inv W0 p1 p2 p4 (fuel + 1) L a w) (h0 : L 37 = true) (hv : a.tmps[33]? = some v) : Inv W0 p1 p2 p4 fuel (setL L 38) (a.put (some 0) v) w := by
  obtain ⟨h00, hq⟩ := h.m33 h0
  refine ⟨put_defers.trans h.defers, put_size.trans h.size, (put_ne (by omega)).trans h.s1, (put_ne (by omega)).trans h.s2, (put_ne (by omega)).trans h.s3, (put_ne (by omega)).trans h.s4, (put_ne (by omega)).trans h.s5, h.kept, ?_, ?_, ?_, ?_, ?_⟩
  · intro k e hke hL
    have := (dst_lt hke).2
    rw [setL_ne (fun ee => by subst ee; cases hke)] at hL
    obtain ⟨u, hu, hR⟩ := h.vals k e hke hL
    exact ⟨u, (put_ne (by omega)).trans hu, hR⟩
  · intro _ _ _ _; rw [setL_ne (by omega)]; exact h00
  · intro _
    obtain ⟨b, n, f, e1, e2, e3, e4, e5⟩ := h.map h00
    have hj38 : ∀ {c : Int} {k : Nat}, insOf c = some k → k ≠ 38 := fun {c k} h => (insOf_facts h).2.2.1
    refine ⟨b, n, f, (put_ne (by omega)).trans e1, by omega, e3, e4, fun c => ⟨fun k hc hL => ?_, fun hn => (e5 c).2 fun k hc => ?_⟩⟩
    · rw [setL_ne (hj38 hc)] at hL; exact (e5 c).1 k hc hL
    · have := hn k hc; rwa [setL_ne (hj38 hc)] at this
  · intro hL
    rw [setL_ne (by omega)] at hL
    exact ⟨by rw [setL_ne (by omega)]; exact h00, by rw [put_ne (by omega), put_ne (by omega)]; exact hq⟩
  · intro _
    exact ⟨by rw [setL_ne (by omega)]; exact h00, (put_at (by rw [h.size]; omega)).trans (by rw [put_ne (by omega), ← hq, hv])⟩
end
end Go.Proofs.YtfoeihbajichpaaDoor
