/- A map literal; the items and the reader as plain data. -/
import Derived.Orders
import Derived.WalkKit
import Derived.KernelRfl
import Derived.Test.YtegdigfcgeoboaaN1
import Derived.Laws.EntriesVeiled
import Derived.Deep.RegionHeld
import Derived.OrdersHeld
set_option linter.unusedVariables false
set_option linter.unusedSimpArgs false
set_option linter.unusedSectionVars false
/- A region that draws its order, by an invariant: whatever order is drawn, each operation that may come up keeps it. No condition; nothing of the program. -/
namespace Go.Proofs.Ytegdigfcgeoboaa
open Go

theorem cnt_set : ∀ (l : List Bool) (i : Nat), l[i]? = some false → (l.set i true).count false + 1 = l.count false
  | [], i, h => by simp at h
  | b :: l, 0, h => by
    have e : b = false := by simpa using h
    subst e
    simp [List.set]
  | b :: l, i + 1, h => by
    have := cnt_set l i (by simpa using h)
    simp only [List.set, List.count_cons]
    omega
theorem cnt_zero : ∀ (l : List Bool), l.count false = 0 → ∀ i, i < l.length → l[i]? = some true
  | [], _, i, h => by simp at h
  | b :: l, h, i, hi => by
    rw [List.count_cons] at h
    cases b
    · simp at h
    · cases i with
      | zero => rfl
      | succ i => simpa using cnt_zero l (by simpa using h) i (by simpa using hi)
/-- what has come up, with one operation more -/
def setL (L : Nat → Bool) (i : Nat) : Nat → Bool := fun j => if j = i then true else L j
theorem setL_self (L : Nat → Bool) (i : Nat) : setL L i i = true := if_pos rfl
theorem setL_ne {L : Nat → Bool} {i j : Nat} (h : j ≠ i) : setL L i j = L j := if_neg h
/-- every operation waits for earlier ones alone -/
def earlierB (ops : Array Oper) : Bool := (List.range ops.size).all fun i => match ops[i]? with | some o => o.after.toList.all fun e => decide (e.on < i) | none => true
theorem earlier_of {ops : Array Oper} (h : earlierB ops = true) {i : Nat} {o : Oper} (ho : ops[i]? = some o) : ∀ e ∈ o.after, e.on < i := by
  intro e he
  have hi : i < ops.size := (Array.getElem?_eq_some_iff.1 ho).1
  have h1 := List.all_eq_true.1 h i (List.mem_range.2 hi)
  rw [ho] at h1
  have h2 := List.all_eq_true.1 h1 e (by simpa using he)
  simpa using h2

section
variable {P : Program} {ops : Array Oper} {Q : Exit → Act → World → Prop}
abbrev Closed (ops : Array Oper) (L : Nat → Bool) : Prop := ∀ j o, ops[j]? = some o → L j = true → ∀ e ∈ o.after, Region.binds .any e = true → L e.on = true
theorem least_false {L : Nat → Bool} : ∀ (n : Nat), (∃ i, i < n ∧ L i = false) → ∃ i, i < n ∧ L i = false ∧ ∀ j, j < i → L j = true
  | 0, ⟨i, h, _⟩ => by omega
  | n + 1, ⟨i, hi, h⟩ => by
    by_cases hn : ∃ k, k < n ∧ L k = false
    · obtain ⟨k, h1, h2, h3⟩ := least_false n hn
      exact ⟨k, by omega, h2, h3⟩
    · have hin : i = n := by
        by_cases e : i = n
        · exact e
        · exact absurd ⟨i, by omega, h⟩ hn
      subst hin
      refine ⟨i, by omega, h, fun j hj => ?_⟩
      cases hL : L j
      · exact absurd ⟨j, hj, hL⟩ hn
      · rfl
theorem wpAny_inv (hwf : earlierB ops = true) (Inv : Nat → (Nat → Bool) → Act → World → Prop)
    (hstep : ∀ (fuel : Nat) (L : Nat → Bool) (a : Act) (w : World) (i : Nat) (o : Oper), ops[i]? = some o → L i = false → (∀ e ∈ o.after, Region.binds .any e = true → L e.on = true) → Closed ops L → Inv (fuel + 1) L a w →
      wpOp P ops Q i (fun a' w' => Inv fuel (setL L i) a' w') a w)
    (hext : ∀ (fuel : Nat) (L L' : Nat → Bool) (a : Act) (w : World), (∀ i, i < ops.size → L i = L' i) → Inv fuel L a w → Inv fuel L' a w)
    (hend : ∀ (L : Nat → Bool) (a : Act) (w : World), (∀ i, i < ops.size → L i = true) → Inv 0 L a w → Q .normal a w) :
    ∀ (fuel : Nat) (listed : Array Bool) (a : Act) (w : World), listed.size = ops.size → listed.toList.count false = fuel → Closed ops (fun j => listed.getD j false) → Inv fuel (fun j => listed.getD j false) a w → wpAny P .any ops Q fuel listed a w := by
  have all : ∀ (listed : Array Bool), listed.size = ops.size → listed.toList.count false = 0 → ∀ i, i < ops.size → listed.getD i false = true := by
    intro listed hs hc i hi
    have h := cnt_zero _ hc i (by simpa [hs] using hi)
    rw [Array.getD_eq_getD_getElem?, ← Array.getElem?_toList, h]; rfl
  intro fuel
  induction fuel with
  | zero =>
    intro listed a w hs hc _ hI
    refine ⟨?_, hend _ a w (all listed hs hc) hI⟩
    cases hr : Region.ready .any ops listed with
    | nil => rfl
    | cons j r =>
      have hj : j ∈ Region.ready .any ops listed := by rw [hr]; exact List.mem_cons_self
      obtain ⟨h0, o, ho, _⟩ := mem_ready.1 hj
      have hlt := (Array.getElem?_eq_some_iff.1 ho).1
      have h1 := all listed hs hc j hlt
      rw [Array.getD_eq_getD_getElem?, Array.getElem?_eq_getElem (by omega)] at h0 h1
      simp at h0 h1
      rw [h0] at h1; cases h1
  | succ fuel ih =>
    intro listed a w hs hc hcl hI
    refine ⟨fun hr => ?_, fun i hi => ?_⟩
    · exfalso
      have hex : ∃ i, i < ops.size ∧ listed.getD i false = false := by
        by_cases h : ∃ i, i < ops.size ∧ listed.getD i false = false
        · exact h
        · exfalso
          have h0 : listed.toList.count false = 0 := by
            rw [List.count_eq_zero]
            intro hm
            obtain ⟨k, hk, e⟩ := List.getElem_of_mem hm
            have hk' : k < listed.size := by simpa using hk
            refine h ⟨k, by omega, ?_⟩
            rw [Array.getD_eq_getD_getElem?, Array.getElem?_eq_getElem hk']
            simpa using e
          omega
      obtain ⟨i, hi, hf, hb⟩ := least_false ops.size hex
      have hil : i < listed.size := by omega
      have : i ∈ Region.ready .any ops listed := by
        rw [mem_ready]
        refine ⟨?_, ops[i], Array.getElem?_eq_getElem hi, fun e he _ => hb e.on (earlier_of hwf (Array.getElem?_eq_getElem hi) e he)⟩
        rw [Array.getD_eq_getD_getElem?, Array.getElem?_eq_getElem hil] at hf ⊢
        simpa using hf
      rw [hr] at this; cases this
    · obtain ⟨h0, o, ho, hall⟩ := mem_ready.1 hi
      have hlt := (Array.getElem?_eq_some_iff.1 ho).1
      have hil : i < listed.size := by omega
      have hfi : listed[i]? = some false := by
        rw [Array.getD_eq_getD_getElem?, Array.getElem?_eq_getElem hil] at h0
        rw [Array.getElem?_eq_getElem hil]; simpa using h0
      have hLf : listed.getD i false = false := by rw [Array.getD_eq_getD_getElem?, hfi]; rfl
      have hset : ∀ j, (listed.setIfInBounds i true).getD j false = setL (fun j => listed.getD j false) i j := by
        intro j
        by_cases e : j = i
        · subst e
          rw [setL_self, Array.getD_eq_getD_getElem?, Array.getElem?_setIfInBounds, if_pos rfl, if_pos hil]; rfl
        · rw [setL_ne e, Array.getD_eq_getD_getElem?, Array.getD_eq_getD_getElem?, Array.getElem?_setIfInBounds, if_neg (fun h => e h.symm)]
      refine wpOp_mono (fun a' w' hI' => ih _ a' w' (by simpa using hs) ?_ ?_ ?_) (hstep fuel _ a w i o ho hLf hall hcl hI)
      · have := cnt_set listed.toList i (by simpa using hfi)
        rw [Array.toList_setIfInBounds]
        omega
      · intro j o' ho' hj e he hb
        dsimp only at hj ⊢
        rw [hset] at hj
        by_cases ej : j = i
        · subst ej
          obtain rfl := Option.some.inj (ho.symm.trans ho')
          rw [hset]
          unfold setL
          split
          · rfl
          · exact hall e he hb
        · rw [setL_ne ej] at hj
          rw [hset]
          unfold setL
          split
          · rfl
          · exact hcl j o' ho' hj e he hb
      · exact hext _ _ _ _ _ (fun j _ => (hset j).symm) hI'
theorem wp_region_inv {id : Nat} {a : Act} {w : World} (hm : P.follows .mixedOrders = true) (hwf : earlierB ops = true) (Inv : Nat → (Nat → Bool) → Act → World → Prop)
    (h0 : Inv ops.size (fun _ => false) a w.drew)
    (hstep : ∀ (fuel : Nat) (L : Nat → Bool) (a : Act) (w : World) (i : Nat) (o : Oper), ops[i]? = some o → L i = false → (∀ e ∈ o.after, Region.binds .any e = true → L e.on = true) → Closed ops L → Inv (fuel + 1) L a w →
      wpOp P ops Q i (fun a' w' => Inv fuel (setL L i) a' w') a w)
    (hext : ∀ (fuel : Nat) (L L' : Nat → Bool) (a : Act) (w : World), (∀ i, i < ops.size → L i = L' i) → Inv fuel L a w → Inv fuel L' a w)
    (hend : ∀ (L : Nat → Bool) (a : Act) (w : World), (∀ i, i < ops.size → L i = true) → Inv 0 L a w → Q .normal a w) :
    (Code.region id ops true).wp P Q a w := by
  refine wp_region_any hm (wpAny_inv hwf Inv hstep hext hend _ _ _ _ (by simp) (by simp) ?_ ?_)
  · intro j o _ hj; dsimp only at hj
    rw [Array.getD_eq_getD_getElem?, Array.getElem?_replicate] at hj
    split at hj <;> simp at hj
  · refine hext _ (fun _ => false) _ _ _ (fun i hi => ?_) h0
    rw [Array.getD_eq_getD_getElem?, Array.getElem?_replicate, if_pos hi]; rfl
end
end Go.Proofs.Ytegdigfcgeoboaa
/- A map literal whose operations come in any order: a map is made, keys are built, entries laid. No condition; nothing of the program. -/
namespace Go.Proofs.Ytegdigfcgeoboaa
open Go Go.RowKit Go.Maps Go.WideShapes

section
variable {P : Program} {ops : Array Oper} {Q : Exit → Act → World → Prop} {i : Nat} {K : Act → World → Prop} {a : Act} {w w' : World} {o : Oper} {v : Value}
theorem op_val (ho : ops[i]? = some o) (hg : o.guard = none) (hrun : (execOp a.eval o).run P w = .ok (.value v) w') (hK : K (a.put o.dst v) w') : wpOp P ops Q i K a w := by
  unfold wpOp; simp only [ho]; rw [if_pos (by simp [Region.wanted, hg])]; left; unfold Oper.wp; rw [hrun]; exact hK
theorem op_skip (ho : ops[i]? = some o) (hg : o.guard = none) (hrun : (execOp a.eval o).run P w = .ok .skip w') (hK : K (a.put o.dst undef) w') : wpOp P ops Q i K a w := by
  unfold wpOp; simp only [ho]; rw [if_pos (by simp [Region.wanted, hg])]; left; unfold Oper.wp; rw [hrun]; exact hK
theorem eval_tmp {k : Nat} (h : a.tmps[k]? = some v) : a.eval (.tmp k) = v := by
  show a.tmps.getD k undef = v
  rw [Array.getD_eq_getD_getElem?, h]; rfl
theorem put_at {d : Nat} (h : d < a.tmps.size) : (a.put (some d) v).tmps[d]? = some v := by
  show (a.tmps.setIfInBounds d v)[d]? = _
  rw [Array.getElem?_setIfInBounds, if_pos rfl, if_pos h]
theorem put_ne {d k : Nat} (h : k ≠ d) : (a.put (some d) v).tmps[k]? = a.tmps[k]? := by
  show (a.tmps.setIfInBounds d v)[k]? = _
  rw [Array.getElem?_setIfInBounds, if_neg (fun e => h e.symm)]
theorem put_size {d : Option Nat} : (a.put d v).tmps.size = a.tmps.size := by
  cases d
  · rfl
  · show (a.tmps.setIfInBounds _ v).size = _; simp
theorem put_defers {d : Option Nat} : (a.put d v).defers = a.defers := by cases d <;> rfl
end

/-- the state of such a region: operation 0 makes the map (slot 1), 1 + 2 r builds key r (slot 2 + r), 2 + 2 r lays entry r, 2 N + 1 moves the map (slot 2 + N), 2 N + 2 gives the result (slot 0) -/
structure LI (P : Program) (kt : TypeId) (N : Nat) (key : Nat → Value) (kl : Nat → Lit) (val : Nat → Value) (W0 : World) (fuel : Nat) (L : Nat → Bool) (a : Act) (w : World) : Prop where
  lim : fuel ≤ 2 * N + 3
  defers : a.defers = []
  size : a.tmps.size = N + 3
  kept : Kept W0 w
  keys : ∀ r, r < N → L (1 + 2 * r) = true → a.tmps[2 + r]? = some (key r)
  ins : ∀ r, r < N → L (2 + 2 * r) = true → L 0 = true
  map : L 0 = true → ∃ b n f, a.tmps[1]? = some (.map (some b)) ∧ n + fuel ≤ 2 * N + 3 ∧ MapIs P kt w b n f ∧ W0.heap.size ≤ b ∧ (∀ r, r < N → L (2 + 2 * r) = true → f (kl r) = some (val r)) ∧ (∀ x, (∀ r, r < N → L (2 + 2 * r) = true → x.sameKey (kl r) = false) → f x = none)
  mv : L (2 * N + 1) = true → L 0 = true ∧ a.tmps[2 + N]? = a.tmps[1]?
  res : L (2 * N + 2) = true → L 0 = true ∧ a.tmps[0]? = a.tmps[1]?
section
variable {P : Program} {kt : TypeId} {N : Nat} {key : Nat → Value} {kl : Nat → Lit} {val : Nat → Value} {W0 : World} {fuel : Nat} {L : Nat → Bool} {a : Act} {w : World}
theorem LI.ext {L' : Nat → Bool} (h : LI P kt N key kl val W0 fuel L a w) (hL : ∀ i, i < 2 * N + 3 → L i = L' i) : LI P kt N key kl val W0 fuel L' a w := by
  refine ⟨h.lim, h.defers, h.size, h.kept, fun r hr hl => h.keys r hr ((hL _ (by omega)).trans hl), fun r hr hl => (hL 0 (by omega)).symm.trans (h.ins r hr ((hL _ (by omega)).trans hl)), fun h0 => ?_, fun hl => ?_, fun hl => ?_⟩
  · obtain ⟨b, n, f, e1, e2, e3, e4, e5, e6⟩ := h.map ((hL 0 (by omega)).trans h0)
    exact ⟨b, n, f, e1, e2, e3, e4, fun r hr hl => e5 r hr ((hL _ (by omega)).trans hl), fun x hx => e6 x fun r hr hl => hx r hr ((hL _ (by omega)).symm.trans hl)⟩
  · have := h.mv ((hL _ (by omega)).trans hl); exact ⟨(hL 0 (by omega)).symm.trans this.1, this.2⟩
  · have := h.res ((hL _ (by omega)).trans hl); exact ⟨(hL 0 (by omega)).symm.trans this.1, this.2⟩
theorem LI.start {n : Nat} (h1 : a.defers = []) (h2 : a.tmps.size = N + 3) (hn : n ≤ 2 * N + 3) : LI P kt N key kl val w n (fun _ => false) a w :=
  ⟨hn, h1, h2, Below.refl _ _, fun _ _ h => (by cases h), fun _ _ h => (by cases h), fun h => (by cases h), fun h => (by cases h), fun h => (by cases h)⟩
theorem LI.make (h : LI P kt N key kl val W0 (fuel + 1) L a w) (h0 : L 0 = false) : LI P kt N key kl val W0 fuel (setL L 0) (a.put (some 1) (.map (some w.heap.size))) (w.alloc (.map #[] 0)) := by
  have hk : Kept w (w.alloc (.map #[] 0)) := (Below.refl _ _).alloc (Nat.le_refl _) _
  have hlim := h.lim
  have hno : ∀ r, r < N → L (2 + 2 * r) = false := fun r hr => by
    cases hL : L (2 + 2 * r)
    · rfl
    · rw [h.ins r hr hL] at h0; cases h0
  refine ⟨by omega, put_defers.trans h.defers, put_size.trans h.size, h.kept.trans' hk, fun r hr hl => ?_, fun r hr _ => setL_self _ _, fun _ => ?_, fun hl => ?_, fun hl => ?_⟩
  · rw [setL_ne (by omega)] at hl
    rw [put_ne (by omega)]; exact h.keys r hr hl
  · refine ⟨w.heap.size, 0, _, put_at (by rw [h.size]; omega), by omega, MapIs.made w P kt, h.kept.size, fun r hr hl => ?_, fun x _ => rfl⟩
    rw [setL_ne (by omega), hno r hr] at hl; cases hl
  · rw [setL_ne (by omega)] at hl
    rw [(h.mv hl).1] at h0; cases h0
  · rw [setL_ne (by omega)] at hl
    rw [(h.res hl).1] at h0; cases h0
theorem LI.build {r : Nat} (h : LI P kt N key kl val W0 (fuel + 1) L a w) (hr : r < N) : LI P kt N key kl val W0 fuel (setL L (1 + 2 * r)) (a.put (some (2 + r)) (key r)) w := by
  have hlim := h.lim
  refine ⟨by omega, put_defers.trans h.defers, put_size.trans h.size, h.kept, fun r' hr' hl => ?_, fun r' hr' hl => ?_, fun hl => ?_, fun hl => ?_, fun hl => ?_⟩
  · by_cases e : r' = r
    · subst e; exact put_at (by rw [h.size]; omega)
    · rw [setL_ne (by omega)] at hl
      rw [put_ne (by omega)]; exact h.keys r' hr' hl
  · rw [setL_ne (by omega)] at hl ⊢; exact h.ins r' hr' hl
  · rw [setL_ne (by omega)] at hl
    obtain ⟨b, n, f, e1, e2, e3, e4, e5, e6⟩ := h.map hl
    refine ⟨b, n, f, (put_ne (by omega)).trans e1, by omega, e3, e4, fun r' hr' hl' => ?_, fun x hx => e6 x fun r' hr' hl' => hx r' hr' (by rw [setL_ne (by omega)]; exact hl')⟩
    rw [setL_ne (by omega)] at hl'; exact e5 r' hr' hl'
  · rw [setL_ne (by omega)] at hl ⊢
    rw [put_ne (by omega), put_ne (by omega)]; exact h.mv hl
  · rw [setL_ne (by omega)] at hl ⊢
    rw [put_ne (by omega), put_ne (by omega)]; exact h.res hl
theorem LI.insert {r t e : Nat} (h : LI P kt N key kl val W0 (fuel + 1) L a w) (hr : r < N) (hN : N < 1000000) (h0 : L 0 = true) (hkey : L (1 + 2 * r) = true) (hL : L (2 + 2 * r) = false) (Ky : Keyed P kt) (ht : P.underlying t = some (.map kt e)) (hko : keyOf P kt (key r) = some (kl r))
    (hself : (kl r).sameKey (kl r) = true) (hne : ∀ r', r' < N → r' ≠ r → (kl r').sameKey (kl r) = false) :
    ∃ b w', a.tmps[1]? = some (.map (some b)) ∧ a.tmps[2 + r]? = some (key r) ∧ (Instr.mapUpdate t (.map (some b)) (key r) (val r)).run P w = .ok () w' ∧ LI P kt N key kl val W0 fuel (setL L (2 + 2 * r)) (a.put none undef) w' := by
  obtain ⟨b, n, f, e1, e2, e3, e4, e5, e6⟩ := h.map h0
  have hlim := h.lim
  obtain ⟨w', hrun, hm, hg⟩ := e3.update Ky ht (by unfold maxLen; omega) (val r) hko
  refine ⟨b, w', e1, h.keys r hr hkey, hrun, ⟨by omega, h.defers, h.size, h.kept.grown hg h.kept.size (fun k e => by injection e with e; omega), fun r' hr' hl => ?_, fun r' hr' hl => ?_, fun hl => ?_, fun hl => ?_, fun hl => ?_⟩⟩
  · rw [setL_ne (by omega)] at hl; exact h.keys r' hr' hl
  · rw [setL_ne (by omega)]; exact h0
  · refine ⟨b, n + 1, _, e1, by omega, hm, e4, fun r' hr' hl' => ?_, fun x hx => ?_⟩
    · unfold putF
      by_cases e : r' = r
      · subst e; rw [hself]; rfl
      · rw [hne r' hr' e]
        rw [setL_ne (by omega)] at hl'
        exact e5 r' hr' hl'
    · unfold putF
      rw [hx r hr (setL_self _ _)]
      refine e6 x fun r' hr' hl' => hx r' hr' ?_
      unfold setL
      split
      · rfl
      · exact hl'
  · rw [setL_ne (by omega)] at hl ⊢; exact h.mv hl
  · rw [setL_ne (by omega)] at hl ⊢; exact h.res hl
theorem LI.move {v : Value} (h : LI P kt N key kl val W0 (fuel + 1) L a w) (h0 : L 0 = true) (hv : a.tmps[1]? = some v) : LI P kt N key kl val W0 fuel (setL L (2 * N + 1)) (a.put (some (2 + N)) v) w := by
  have hlim := h.lim
  refine ⟨by omega, put_defers.trans h.defers, put_size.trans h.size, h.kept, fun r hr hl => ?_, fun r hr hl => ?_, fun hl => ?_, fun hl => ?_, fun hl => ?_⟩
  · rw [setL_ne (by omega)] at hl
    rw [put_ne (by omega)]; exact h.keys r hr hl
  · rw [setL_ne (by omega)]; exact h0
  · obtain ⟨b, n, f, e1, e2, e3, e4, e5, e6⟩ := h.map h0
    refine ⟨b, n, f, (put_ne (by omega)).trans e1, by omega, e3, e4, fun r hr hl => ?_, fun x hx => e6 x fun r hr hl => hx r hr (by rw [setL_ne (by omega)]; exact hl)⟩
    rw [setL_ne (by omega)] at hl; exact e5 r hr hl
  · refine ⟨by rw [setL_ne (by omega)]; exact h0, ?_⟩
    rw [put_at (by rw [h.size]; omega), put_ne (by omega), hv]
  · rw [setL_ne (by omega)] at hl ⊢
    rw [put_ne (by omega), put_ne (by omega)]; exact h.res hl
theorem LI.assign {v : Value} (h : LI P kt N key kl val W0 (fuel + 1) L a w) (hm : L (2 * N + 1) = true) (hv : a.tmps[2 + N]? = some v) : LI P kt N key kl val W0 fuel (setL L (2 * N + 2)) (a.put (some 0) v) w := by
  have hlim := h.lim
  obtain ⟨h0, hmv⟩ := h.mv hm
  refine ⟨by omega, put_defers.trans h.defers, put_size.trans h.size, h.kept, fun r hr hl => ?_, fun r hr hl => ?_, fun hl => ?_, fun hl => ?_, fun hl => ?_⟩
  · rw [setL_ne (by omega)] at hl
    rw [put_ne (by omega)]; exact h.keys r hr hl
  · rw [setL_ne (by omega)]; exact h0
  · obtain ⟨b, n, f, e1, e2, e3, e4, e5, e6⟩ := h.map h0
    refine ⟨b, n, f, (put_ne (by omega)).trans e1, by omega, e3, e4, fun r hr hl => ?_, fun x hx => e6 x fun r hr hl => hx r hr (by rw [setL_ne (by omega)]; exact hl)⟩
    rw [setL_ne (by omega)] at hl; exact e5 r hr hl
  · rw [setL_ne (by omega)]
    rw [put_ne (by omega), put_ne (by omega)]; exact ⟨h0, hmv⟩
  · refine ⟨by rw [setL_ne (by omega)]; exact h0, ?_⟩
    rw [put_at (by rw [h.size]; omega), put_ne (by omega), ← hmv, hv]
end
end Go.Proofs.Ytegdigfcgeoboaa
/- Regions that draw their order, by the held steps: the operations under a name of their own (so that the terms stay small); an operation's target given by hand. No condition; nothing of the program. -/
namespace Go.Proofs.Ytegdigfcgeoboaa
open Go
/-- the code from a region on -/
def fromR (k : Nat) : Code → Option Code
  | .seq (.region i o b) c => if i = k then some (.seq (.region i o b) c) else fromR k c
  | .seq _ c => fromR k c
  | .block _ c => fromR k c
  | .scope c => fromR k c
  | _ => none
def headC : Code → Code
  | .seq a _ => a
  | c => c
def restC : Code → Code
  | .seq _ b => b
  | _ => .skip
def opsOf : Code → Array Oper
  | .region _ o _ => o
  | _ => #[]
def opAt (ops : Array Oper) (i : Nat) : Oper := match ops.toList.drop i with
  | o :: _ => o
  | [] => ⟨none, .move (.const (.bool false)), 0, "", #[], none⟩
section
variable {P : Program} {ops : Array Oper} {Q : Exit → Act → World → Prop}
theorem wpAnyH_takeD {md : Region.Mode} {S : World → Prop} {i : Nat} {oi : Oper} {d : Option Tmp} {v : Value} {fuel : Nat} {listed : Array Bool} {a : Act} {w : World} (hi : ops[i]? = some oi) (hd : oi.dst = d)
    (hs : Region.noSelect ops = true) (hf : Region.free md ops listed i = true) (hr : (Region.ready md ops listed).contains i = true)
    (hQ : ∀ c a w, Q (.panic c) (a.put oi.dst v) w → Q (.panic c) a w) (hy : YieldsIf P ops S oi v a) (hS : S w)
    (h : wpAnyH P md ops Q S fuel (listed.setIfInBounds i true) (a.put d v) w) : wpAnyH P md ops Q S (fuel + 1) listed a w := by
  subst hd
  exact wpAnyH_take hi hs hf hr hQ hy hS h
theorem wp_region_held_named {S : World → Prop} {ops' : Array Oper} {n : Nat} {id : Nat} {a : Act} {w : World} (he : ops' = ops) (hn : ops'.size = n) (hm : P.follows .mixedOrders = true) (hS : S w.drew)
    (h : S w.drew → wpAnyH P .any ops' Q S n (Array.replicate n false) a w.drew) : (Code.region id ops true).wp P Q a w := by
  subst he hn
  exact wp_region_held_drew hm hS h
end
end Go.Proofs.Ytegdigfcgeoboaa
/- Items of report descriptors as plain data: their bytes, and how bytes are read. No condition; nothing of the program. -/
namespace Go.Proofs.Ytegdigfcgeoboaa
open Go.RowKit

def u8k (n : Int) : Prop := 0 ≤ n ∧ n < 256
def u32k (n : Int) : Prop := 0 ≤ n ∧ n < 4294967296
def i64k (n : Int) : Prop := -9223372036854775808 ≤ n ∧ n ≤ 9223372036854775807
structure It where
  ty : Int
  tg : Int
  size : Int
  data : Int
def It.cells (x : It) : List Value := [.int .u8 x.ty, .int .u8 x.tg, .int .i64 x.size, .int .u32 x.data]
def It.ok (x : It) : Prop := u8k x.ty ∧ u8k x.tg ∧ i64k x.size ∧ u32k x.data
def itT : Ty It := Ty.flat 4 It.cells It.ok (fun _ => rfl)
def u8T : Ty Int := Ty.flat 1 (fun n => [.int .u8 n]) u8k (fun _ => rfl)
def u32T : Ty Int := Ty.flat 1 (fun n => [.int .u32 n]) u32k (fun _ => rfl)
/-- an item can be written -/
def It.wide (x : It) : Bool := decide (x.ty ≤ 2) && decide (x.tg ≤ 15) && ((x.size == 0 && x.data == 0) || (x.size == 1 && decide (x.data < 256)) || (x.size == 2 && decide (x.data < 65536)) || x.size == 4)
def byteI (n : Int) (k : Nat) : Int := n / 256 ^ k % 256
def headI (x : It) : Int := x.tg * 16 + x.ty * 4 + (if x.size = 4 then 3 else x.size)
def It.bytes (x : It) : List Int := headI x :: (List.range x.size.toNat).map (byteI x.data)
def joinB (l : List It) : List Int := l.flatMap It.bytes
theorem joinB_snoc (l : List It) (x : It) : joinB (l ++ [x]) = joinB l ++ x.bytes := by simp [joinB]
/-- how many bytes follow a head -/
def sizeH (h : Int) : Nat := if h % 4 = 3 then 4 else (h % 4).toNat
def numB : List Int → Int
  | [] => 0
  | b :: l => b + 256 * numB l
def badI : It := ⟨0, 0, -1, 0⟩
def itemH (h : Int) (r : List Int) : It := ⟨h / 4 % 4, h / 16, sizeH h, numB (r.take (sizeH h))⟩
def endsH (h : Int) (r : List Int) : Bool := h / 4 % 4 == 3 || decide (r.length < sizeH h)
/-- what the iterator hands out -/
def yl : Nat → List Int → List It
  | 0, _ => []
  | _ + 1, [] => []
  | f + 1, h :: r => if endsH h r then [badI] else itemH h r :: yl f (r.drop (sizeH h))
theorem yl_more : ∀ (f : Nat) (b : List Int), b.length ≤ f → yl f b = yl b.length b
  | 0, b, h => by rw [List.eq_nil_of_length_eq_zero (l := b) (by omega)]; rfl
  | f + 1, [], _ => rfl
  | f + 1, h :: r, hl => by
    rw [List.length_cons] at hl ⊢
    unfold yl
    rw [yl_more f _ (by rw [List.length_drop]; omega), yl_more r.length _ (by rw [List.length_drop]; omega)]
def items (b : List Int) : List It := yl b.length b
theorem items_nil : items [] = [] := rfl
theorem items_bad {h : Int} {r : List Int} (hb : endsH h r = true) : items (h :: r) = [badI] := by
  unfold items; rw [List.length_cons]; unfold yl; rw [if_pos hb]
theorem items_good {h : Int} {r : List Int} (hb : endsH h r = false) : items (h :: r) = itemH h r :: items (r.drop (sizeH h)) := by
  unfold items
  rw [List.length_cons]
  conv => lhs; unfold yl
  rw [if_neg (by simp [hb]), yl_more r.length _ (by rw [List.length_drop]; omega)]
/-- the bytes do not end within an item -/
def goodB (b : List Int) : Bool := (items b).all (fun x => decide (0 ≤ x.size))
theorem items_len : ∀ (n : Nat) (b : List Int), b.length ≤ n → (items b).length ≤ b.length
  | 0, b, h => by rw [List.eq_nil_of_length_eq_zero (l := b) (by omega)]; exact Nat.le_refl _
  | n + 1, [], _ => Nat.le_refl _
  | n + 1, h :: r, hl => by
    cases he : endsH h r with
    | true => rw [items_bad he]; simp
    | false =>
      rw [items_good he]
      have := items_len n (r.drop (sizeH h)) (by rw [List.length_drop]; rw [List.length_cons] at hl; omega)
      rw [List.length_drop] at this
      simp only [List.length_cons]
      omega
theorem numB_range : ∀ (l : List Int), (∀ x ∈ l, u8k x) → 0 ≤ numB l ∧ numB l < 256 ^ l.length
  | [], _ => by simp [numB]
  | b :: l, h => by
    have h1 := numB_range l (fun x hx => h x (List.mem_cons_of_mem _ hx))
    have h2 := h b List.mem_cons_self
    unfold u8k at h2
    simp only [numB, List.length_cons, Int.pow_succ]
    omega
theorem sizeH_le (h : Int) : sizeH h ≤ 4 := by unfold sizeH; split <;> omega
theorem sizeH_cases (h : Int) : sizeH h = 0 ∨ sizeH h = 1 ∨ sizeH h = 2 ∨ sizeH h = 4 := by unfold sizeH; split <;> omega
theorem itemH_wide {h : Int} {r : List Int} (hh : u8k h) (hr : ∀ x ∈ r, u8k x) (he : endsH h r = false) : (itemH h r).wide = true := by
  unfold endsH at he
  simp only [Bool.or_eq_false_iff, beq_eq_false_iff_ne, decide_eq_false_iff_not] at he
  obtain ⟨h1, h2⟩ := he
  unfold u8k at hh
  have h3 := numB_range (r.take (sizeH h)) (fun x hx => hr x (List.mem_of_mem_take hx))
  have h4 : (r.take (sizeH h)).length = sizeH h := by rw [List.length_take]; omega
  rw [h4] at h3
  unfold It.wide itemH
  rcases sizeH_cases h with e | e | e | e <;> rw [e] at h3 ⊢ <;> simp [numB] at h3 ⊢ <;> omega
end Go.Proofs.Ytegdigfcgeoboaa
/- Items and bytes are inverse. No condition but that the numbers are bytes; nothing of the program. -/
namespace Go.Proofs.Ytegdigfcgeoboaa
open Go.RowKit

theorem numB_bytes (d : Int) (hd : u32k d) {s : Nat} (hs : s = 0 ∧ d = 0 ∨ s = 1 ∧ d < 256 ∨ s = 2 ∧ d < 65536 ∨ s = 4) : numB ((List.range s).map (byteI d)) = d := by
  unfold u32k at hd
  rcases hs with ⟨rfl, h⟩ | ⟨rfl, h⟩ | ⟨rfl, h⟩ | rfl
  · rw [h]; rfl
  · show byteI d 0 + 256 * 0 = d
    unfold byteI; simp; omega
  · show byteI d 0 + 256 * (byteI d 1 + 256 * 0) = d
    unfold byteI; simp; omega
  · show byteI d 0 + 256 * (byteI d 1 + 256 * (byteI d 2 + 256 * (byteI d 3 + 256 * 0))) = d
    unfold byteI; simp; omega
theorem byteI_u8 (n : Int) (k : Nat) : u8k (byteI n k) := by unfold byteI u8k; omega
/-- what a wide item is -/
theorem wide_iff {x : It} (h : x.wide = true) (hok : x.ok) : 0 ≤ x.ty ∧ x.ty ≤ 2 ∧ 0 ≤ x.tg ∧ x.tg ≤ 15 ∧ (x.size = 0 ∧ x.data = 0 ∨ x.size = 1 ∧ x.data < 256 ∨ x.size = 2 ∧ x.data < 65536 ∨ x.size = 4) := by
  obtain ⟨h1, h2, h3, h4⟩ := hok
  unfold u8k at h1 h2
  unfold It.wide at h
  simp only [Bool.and_eq_true, Bool.or_eq_true, decide_eq_true_eq, beq_iff_eq] at h
  refine ⟨h1.1, h.1.1, h2.1, h.1.2, ?_⟩
  rcases h.2 with ((h | h) | h) | h
  · exact .inl h
  · exact .inr (.inl h)
  · exact .inr (.inr (.inl h))
  · exact .inr (.inr (.inr h))
theorem head_of {x : It} (h : x.wide = true) (hok : x.ok) : u8k (headI x) ∧ headI x / 4 % 4 = x.ty ∧ headI x / 16 = x.tg ∧ (sizeH (headI x) : Int) = x.size := by
  obtain ⟨h1, h2, h3, h4, h5⟩ := wide_iff h hok
  unfold headI sizeH u8k
  rcases h5 with ⟨e, _⟩ | ⟨e, _⟩ | ⟨e, _⟩ | e <;> rw [e] <;> simp <;> (try split) <;> omega
theorem items_bytes {x : It} (h : x.wide = true) (hok : x.ok) (r : List Int) : items (x.bytes ++ r) = x :: items r := by
  obtain ⟨g1, g2, g3, g4⟩ := head_of h hok
  obtain ⟨h1, h2, h3, h4, h5⟩ := wide_iff h hok
  have hs : sizeH (headI x) = x.size.toNat := by omega
  have hl : ((List.range x.size.toNat).map (byteI x.data)).length = x.size.toNat := by simp
  have he : endsH (headI x) ((List.range x.size.toNat).map (byteI x.data) ++ r) = false := by
    unfold endsH
    rw [g2, hs, List.length_append, hl]
    simp only [Bool.or_eq_false_iff, beq_eq_false_iff_ne, decide_eq_false_iff_not]
    omega
  unfold It.bytes
  rw [List.cons_append, items_good he]
  have hn := numB_bytes x.data hok.2.2.2 (s := x.size.toNat) (by rcases h5 with ⟨e, h⟩ | ⟨e, h⟩ | ⟨e, h⟩ | e <;> rw [e] <;> simp <;> first | exact h | omega)
  unfold itemH
  rw [g2, g3, g4, hs, List.take_left' hl, List.drop_left' hl, hn]
theorem items_join : ∀ (l : List It), (∀ x ∈ l, x.wide = true ∧ x.ok) → items (joinB l) = l
  | [], _ => rfl
  | x :: l, h => by
    have e : joinB (x :: l) = x.bytes ++ joinB l := by simp [joinB]
    rw [e, items_bytes (h x List.mem_cons_self).1 (h x List.mem_cons_self).2, items_join l (fun y hy => h y (List.mem_cons_of_mem _ hy))]
theorem bytes_num {l : List Int} (hl : ∀ x ∈ l, u8k x) : ∀ k x, l[k]? = some x → byteI (numB l) k = x := by
  induction l with
  | nil => intro k x h; cases k <;> simp at h
  | cons b l ih =>
    have hb := hl b List.mem_cons_self
    have ih' := ih (fun x hx => hl x (List.mem_cons_of_mem _ hx))
    unfold u8k at hb
    intro k x h
    cases k with
    | zero =>
      simp at h; subst h
      unfold byteI numB; simp; omega
    | succ k =>
      rw [List.getElem?_cons_succ] at h
      rw [← ih' k x h]
      unfold byteI
      show (b + 256 * numB l) / 256 ^ (k + 1) % 256 = _
      have e : (b + 256 * numB l) / 256 ^ (k + 1) = (b + 256 * numB l) / 256 / 256 ^ k := by
        rw [Int.pow_succ, Int.mul_comm ((256 : Int) ^ k) 256]
        exact (Int.ediv_ediv_of_nonneg (by decide)).symm
      rw [e, show (b + 256 * numB l) / 256 = numB l by omega]
theorem map_bytes {l : List Int} (hl : ∀ x ∈ l, u8k x) : (List.range l.length).map (byteI (numB l)) = l := by
  apply List.ext_getElem?
  intro k
  rw [List.getElem?_map]
  by_cases hk : k < l.length
  · rw [List.getElem?_range hk, List.getElem?_eq_getElem hk]
    simp only [Option.map_some]
    rw [bytes_num hl k _ (List.getElem?_eq_getElem hk)]
  · rw [List.getElem?_eq_none (by simp; omega), List.getElem?_eq_none (by omega)]; rfl
theorem bytes_item {h : Int} {r : List Int} (hh : u8k h) (hr : ∀ x ∈ r, u8k x) (he : endsH h r = false) : (itemH h r).bytes = h :: r.take (sizeH h) := by
  unfold endsH at he
  simp only [Bool.or_eq_false_iff, beq_eq_false_iff_ne, decide_eq_false_iff_not] at he
  have hl : (r.take (sizeH h)).length = sizeH h := by rw [List.length_take]; omega
  have hm := map_bytes (l := r.take (sizeH h)) (fun x hx => hr x (List.mem_of_mem_take hx))
  rw [hl] at hm
  have h1 : headI (itemH h r) = h := by
    unfold headI itemH
    unfold u8k at hh
    have := he.1
    unfold sizeH
    simp only
    split <;> split <;> omega
  unfold It.bytes
  rw [h1]
  show h :: (List.range ((sizeH h : Int)).toNat).map (byteI (numB (r.take (sizeH h)))) = _
  rw [Int.toNat_natCast, hm]
/-- good bytes are the bytes of their items -/
theorem join_items : ∀ (n : Nat) (b : List Int), b.length ≤ n → (∀ x ∈ b, u8k x) → goodB b = true → joinB (items b) = b ∧ ∀ x ∈ items b, x.wide = true
  | 0, b, h, _, _ => by rw [List.eq_nil_of_length_eq_zero (l := b) (by omega)]; exact ⟨rfl, fun x hx => by cases hx⟩
  | n + 1, [], _, _, _ => ⟨rfl, fun x hx => by cases hx⟩
  | n + 1, h :: r, hl, hu, hg => by
    have hh := hu h List.mem_cons_self
    have hr := fun x hx => hu x (List.mem_cons_of_mem h hx)
    cases he : endsH h r with
    | true => unfold goodB at hg; rw [items_bad he] at hg; simp [badI] at hg
    | false =>
      have hg2 : goodB (r.drop (sizeH h)) = true := by
        unfold goodB at hg ⊢
        rw [items_good he] at hg
        simp only [List.all_cons, Bool.and_eq_true] at hg
        exact hg.2
      obtain ⟨i1, i2⟩ := join_items n (r.drop (sizeH h)) (by rw [List.length_drop]; rw [List.length_cons] at hl; omega) (fun x hx => hr x (List.mem_of_mem_drop hx)) hg2
      rw [items_good he]
      refine ⟨?_, fun x hx => ?_⟩
      · have e : joinB (itemH h r :: items (r.drop (sizeH h))) = (itemH h r).bytes ++ joinB (items (r.drop (sizeH h))) := by simp [joinB]
        rw [e, i1, bytes_item hh hr he, List.cons_append, List.take_append_drop]
      · rcases List.mem_cons.1 hx with rfl | h1
        · exact itemH_wide hh hr he
        · exact i2 x h1
theorem items_ok : ∀ (n : Nat) (b : List Int), b.length ≤ n → (∀ x ∈ b, u8k x) → ∀ x ∈ items b, x.ok
  | 0, b, h, _, x, hx => by rw [List.eq_nil_of_length_eq_zero (l := b) (by omega)] at hx; cases hx
  | n + 1, [], _, _, x, hx => by cases hx
  | n + 1, h :: r, hl, hu, x, hx => by
    have hh := hu h List.mem_cons_self
    have hr := fun x hx => hu x (List.mem_cons_of_mem h hx)
    cases he : endsH h r with
    | true =>
      rw [items_bad he, List.mem_singleton] at hx
      subst hx
      refine ⟨?_, ?_, ?_, ?_⟩ <;> simp [badI, u8k, i64k, u32k]
    | false =>
      rw [items_good he] at hx
      rcases List.mem_cons.1 hx with rfl | h1
      · have h3 := numB_range (r.take (sizeH h)) (fun x hx => hr x (List.mem_of_mem_take hx))
        have h4 : (r.take (sizeH h)).length ≤ 4 := by rw [List.length_take]; have := sizeH_le h; omega
        have h5 : (256 : Int) ^ (r.take (sizeH h)).length ≤ 256 ^ 4 := by
          rcases (by omega : (r.take (sizeH h)).length = 0 ∨ (r.take (sizeH h)).length = 1 ∨ (r.take (sizeH h)).length = 2 ∨ (r.take (sizeH h)).length = 3 ∨ (r.take (sizeH h)).length = 4) with e | e | e | e | e <;> rw [e] <;> decide
        have h6 := sizeH_le h
        unfold u8k at hh
        refine ⟨?_, ?_, ?_, ?_⟩
        · show u8k (h / 4 % 4); unfold u8k; omega
        · show u8k (h / 16); unfold u8k; omega
        · show i64k (sizeH h : Int); unfold i64k; omega
        · show u32k (numB (r.take (sizeH h))); unfold u32k; omega
      · exact items_ok n (r.drop (sizeH h)) (by rw [List.length_drop]; rw [List.length_cons] at hl; omega) (fun y hy => hr y (List.mem_of_mem_drop hy)) x h1
end Go.Proofs.Ytegdigfcgeoboaa
/- The reader of report descriptors as plain data: its state, what each item does, what Parse returns. No condition; nothing of the program. -/
namespace Go.Proofs.Ytegdigfcgeoboaa
open Go.RowKit

/-- the global values -/
structure Gl where
  page : Int
  lo : Int
  hi : Int
  size : Int
  count : Int
  report : Int
/-- a field -/
structure Fd where
  kind : Int
  report : Int
  parent : Int
  usages : List Int
  lo : Int
  hi : Int
  size : Int
  count : Int
  pos : Int
  const : Bool
  array : Bool
  signed : Bool
  rel : Bool
/-- a collection -/
structure Co where
  kind : Int
  usage : Int
  parent : Int
/-- the reader's state -/
structure RS where
  g : Gl
  stack : List Gl
  usages : List Int
  kept : Int
  keeps : Bool
  opn : Int
  fields : List Fd
  colls : List Co
  numbered : Bool
def rs0 : RS := ⟨⟨0, 0, 0, 0, 0, 0⟩, [], [], 0, false, -1, [], [], false⟩
def signS (x : It) : Int :=
  if x.size = 1 then (if 127 < x.data then x.data - 256 else x.data)
  else if x.size = 2 then (if 32767 < x.data then x.data - 65536 else x.data)
  else if x.size = 4 then (if 2147483647 < x.data then x.data - 4294967296 else x.data) else 0
def usageS (s : RS) (x : It) : Int := if x.size = 4 then x.data else s.g.page * 65536 + x.data
/-- how many bits the fields of a kind and a report have so far -/
def bitsS (l : List Fd) (k r : Int) : Int := ((l.filter (fun f => f.kind == k && f.report == r)).map (fun f => f.size * f.count)).sum
/-- the values of a field can be represented -/
def fitsS (lo hi : Int) (n : Nat) : Bool :=
  if lo < 0 then decide (lo ≤ hi) && decide (-(2 ^ (n - 1)) ≤ lo) && decide (hi ≤ 2 ^ (n - 1) - 1) else decide (lo ≤ hi) && decide (0 ≤ lo) && decide (hi ≤ 2 ^ n - 1)
/-- adding the usages from lo to hi -/
def addS (s : RS) (lo hi : Int) : Int × RS :=
  if 512 < (s.usages.length : Int) + (hi - lo + 1) then (3, s) else (0, { s with usages := s.usages ++ (List.range (hi - lo + 1).toNat).map (fun (i : Nat) => lo + (i : Int)) })
def fieldOf (s : RS) (k : Int) (x : It) : Fd :=
  ⟨k, s.g.report % 256, s.opn, s.usages, s.g.lo, s.g.hi, s.g.size, s.g.count, bitsS s.fields k (s.g.report % 256), x.data % 2 == 1, x.data / 2 % 2 == 0, decide (s.g.lo < 0), x.data / 4 % 2 == 1⟩
def fieldS (s : RS) (k : Int) (x : It) : Int × RS :=
  if s.opn < 0 then (4, s)
  else if s.g.size < 1 ∨ 32 < s.g.size ∨ s.g.count < 1 ∨ 256 < s.g.count ∨ 4096 < bitsS s.fields k (s.g.report % 256) + s.g.size * s.g.count ∨ 256 ≤ s.fields.length then (3, s)
  else if ¬ (x.data % 2 = 1) ∧ (fitsS s.g.lo s.g.hi s.g.size.toNat = false ∨ s.usages = []) then (4, s)
  else (0, { s with fields := s.fields ++ [fieldOf s k x] })
/-- what an item does: an error, or 0 and the state behind it -/
def effS (s : RS) (x : It) : Int × RS :=
  if x.ty = 0 then
    if x.tg = 8 then fieldS s 1 x
    else if x.tg = 9 then fieldS s 2 x
    else if x.tg = 11 then fieldS s 3 x
    else if x.tg = 10 then
      if 64 ≤ s.colls.length then (3, s) else (0, { s with opn := s.colls.length, colls := s.colls ++ [⟨x.data % 256, s.usages.headD 0, s.opn⟩] })
    else if x.tg = 12 then
      if s.opn < 0 then (4, s) else (0, { s with opn := ((s.colls[s.opn.toNat]?).map Co.parent).getD (-1) })
    else (4, s)
  else if x.ty = 1 then
    if x.tg = 0 then (if 65535 < x.data then (4, s) else (0, { s with g := { s.g with page := x.data } }))
    else if x.tg = 1 then (0, { s with g := { s.g with lo := signS x } })
    else if x.tg = 2 then (0, { s with g := { s.g with hi := signS x } })
    else if x.tg = 3 ∨ x.tg = 4 ∨ x.tg = 5 ∨ x.tg = 6 then (0, s)
    else if x.tg = 7 then (0, { s with g := { s.g with size := x.data } })
    else if x.tg = 8 then (if x.data < 1 ∨ 255 < x.data then (4, s) else (0, { s with g := { s.g with report := x.data }, numbered := true }))
    else if x.tg = 9 then (0, { s with g := { s.g with count := x.data } })
    else if x.tg = 10 then (if 8 ≤ s.stack.length then (3, s) else (0, { s with stack := s.stack ++ [s.g] }))
    else if x.tg = 11 then (match s.stack.getLast? with | none => (4, s) | some g => (0, { s with g := g, stack := s.stack.dropLast }))
    else (4, s)
  else if x.ty = 2 then
    if x.tg = 0 then addS s (usageS s x) (usageS s x)
    else if x.tg = 1 then (0, { s with kept := usageS s x, keeps := true })
    else if x.tg = 2 then
      if s.keeps = false ∨ usageS s x / 65536 ≠ s.kept / 65536 ∨ usageS s x < s.kept then (4, s) else addS { s with keeps := false } s.kept (usageS s x)
    else (4, s)
  else (4, s)
/-- behind a main item the local values are gone -/
def clearS (s : RS) (x : It) : RS := if x.ty = 0 then { s with usages := [], keeps := false } else s
def runS : List It → RS → Int × RS
  | [], s => (0, s)
  | x :: l, s => if (effS s x).1 ≠ 0 then (effS s x) else runS l (clearS (effS s x).2 x)
def endS (s : RS) : Int := if 0 ≤ s.opn ∨ s.stack ≠ [] ∨ (s.numbered = true ∧ s.fields.any (fun f => f.report == 0) = true) then 4 else 0
/-- Parse of items: an error, and the reader's last state -/
def parseS (l : List It) : Int × RS := if (runS l rs0).1 ≠ 0 then runS l rs0 else (endS (runS l rs0).2, (runS l rs0).2)
theorem runS_snoc : ∀ (l : List It) (s : RS) (x : It), (runS l s).1 = 0 → runS (l ++ [x]) s = (if (effS (runS l s).2 x).1 ≠ 0 then effS (runS l s).2 x else (0, clearS (effS (runS l s).2 x).2 x))
  | [], s, x, _ => rfl
  | y :: l, s, x, h => by
    rw [List.cons_append]
    unfold runS at h ⊢
    by_cases he : (effS s y).1 ≠ 0
    · rw [if_pos he] at h; exact absurd h he
    · rw [if_neg he] at h
      rw [if_neg he, if_neg he]
      exact runS_snoc l _ x h
theorem runS_stop : ∀ (l : List It) (s : RS) (r : List It), (runS l s).1 ≠ 0 → runS (l ++ r) s = runS l s
  | [], s, r, h => absurd rfl h
  | y :: l, s, r, h => by
    rw [List.cons_append]
    unfold runS at h ⊢
    by_cases he : (effS s y).1 ≠ 0
    · rw [if_pos he, if_pos he]
    · rw [if_neg he] at h
      rw [if_neg he, if_neg he]
      exact runS_stop l _ r h
/-- what is always true of the reader's numbers -/
structure RS.Fine (s : RS) : Prop where
  page : 0 ≤ s.g.page ∧ s.g.page ≤ 65535
  size : u32k s.g.size
  count : u32k s.g.count
  report : 0 ≤ s.g.report ∧ s.g.report ≤ 255
  lo : -2147483648 ≤ s.g.lo ∧ s.g.lo ≤ 2147483647
  hi : -2147483648 ≤ s.g.hi ∧ s.g.hi ≤ 2147483647
  stack : ∀ g ∈ s.stack, (0 ≤ g.page ∧ g.page ≤ 65535) ∧ u32k g.size ∧ u32k g.count ∧ (0 ≤ g.report ∧ g.report ≤ 255) ∧ (-2147483648 ≤ g.lo ∧ g.lo ≤ 2147483647) ∧ (-2147483648 ≤ g.hi ∧ g.hi ≤ 2147483647)
  depth : s.stack.length ≤ 8
  usages : s.usages.length ≤ 512 ∧ ∀ u ∈ s.usages, u32k u
  kept : u32k s.kept
  opn : -1 ≤ s.opn ∧ s.opn < s.colls.length
  colls : s.colls.length ≤ 64 ∧ ∀ c ∈ s.colls, u8k c.kind ∧ u32k c.usage ∧ -1 ≤ c.parent ∧ c.parent < s.colls.length
  fields : s.fields.length ≤ 256 ∧ ∀ f ∈ s.fields, 1 ≤ f.size ∧ f.size ≤ 32 ∧ 1 ≤ f.count ∧ f.count ≤ 256 ∧ 0 ≤ f.pos ∧ f.pos ≤ 4096 ∧ f.usages.length ≤ 512
  bits : ∀ k r, 0 ≤ bitsS s.fields k r ∧ bitsS s.fields k r ≤ 4096
theorem fine0 : rs0.Fine := by
  refine ⟨?_, ?_, ?_, ?_, ?_, ?_, ?_, ?_, ?_, ?_, ?_, ?_, ?_, ?_⟩ <;> simp [rs0, u32k, u8k, bitsS]
theorem bitsS_snoc (l : List Fd) (f : Fd) (k r : Int) : bitsS (l ++ [f]) k r = bitsS l k r + (if f.kind == k && f.report == r then f.size * f.count else 0) := by
  unfold bitsS
  rw [List.filter_append, List.map_append, List.sum_append]
  cases h : (f.kind == k && f.report == r) <;> simp [h]
end Go.Proofs.Ytegdigfcgeoboaa
/- What is always true of the reader's numbers is true behind every item. The items can be written. -/
namespace Go.Proofs.Ytegdigfcgeoboaa
open Go.RowKit

theorem data_lt {x : It} (h : x.wide = true) (hok : x.ok) : 0 ≤ x.data ∧ x.data < 4294967296 ∧ (x.size = 0 → x.data = 0) ∧ (x.size = 1 → x.data < 256) ∧ (x.size = 2 → x.data < 65536) ∧ (x.size = 0 ∨ x.size = 1 ∨ x.size = 2 ∨ x.size = 4) := by
  obtain ⟨_, _, _, _, h5⟩ := wide_iff h hok
  have hd := hok.2.2.2
  unfold u32k at hd
  rcases h5 with ⟨e, q⟩ | ⟨e, q⟩ | ⟨e, q⟩ | e <;> refine ⟨hd.1, hd.2, ?_, ?_, ?_, ?_⟩ <;> omega
theorem sign_range {x : It} (h : x.wide = true) (hok : x.ok) : -2147483648 ≤ signS x ∧ signS x ≤ 2147483647 := by
  obtain ⟨h0, h1, h2, h3, h4, h5⟩ := data_lt h hok
  unfold signS
  rcases h5 with e | e | e | e <;> rw [e] <;> simp <;> split <;> omega
theorem usage_range {s : RS} (hs : s.Fine) {x : It} (h : x.wide = true) (hok : x.ok) : u32k (usageS s x) := by
  obtain ⟨h0, h1, h2, h3, h4, h5⟩ := data_lt h hok
  have hp := hs.page
  unfold usageS u32k
  split
  · exact ⟨h0, h1⟩
  · omega
theorem add_fine {s : RS} (hs : s.Fine) {lo hi : Int} (hlo : u32k lo) (hhi : u32k hi) (hle : lo ≤ hi) (h0 : (addS s lo hi).1 = 0) : (addS s lo hi).2.Fine := by
  unfold addS at h0 ⊢
  split
  · rename_i hc; rw [if_pos hc] at h0; cases h0
  · rename_i hc
    unfold u32k at hlo hhi
    refine { hs with usages := ⟨?_, ?_⟩ }
    · show (s.usages ++ _).length ≤ 512
      rw [List.length_append, List.length_map, List.length_range]
      omega
    · intro u hu
      rcases List.mem_append.1 hu with h | h
      · exact hs.usages.2 u h
      · obtain ⟨i, hi', rfl⟩ := List.mem_map.1 h
        have := List.mem_range.1 hi'
        unfold u32k; omega
theorem field_fine {s : RS} (hs : s.Fine) {x : It} {k : Int} (h0 : (fieldS s k x).1 = 0) : (fieldS s k x).2.Fine := by
  unfold fieldS at h0 ⊢
  split
  · rename_i hc; rw [if_pos hc] at h0; cases h0
  · rename_i hc1
    rw [if_neg hc1] at h0
    split
    · rename_i hc; rw [if_pos hc] at h0; cases h0
    · rename_i hc2
      rw [if_neg hc2] at h0
      split
      · rename_i hc; rw [if_pos hc] at h0; cases h0
      · simp only [not_or] at hc2
        obtain ⟨a1, a2, a3, a4, a5, a6⟩ := hc2
        refine { hs with fields := ⟨?_, ?_⟩, bits := ?_ }
        · show (s.fields ++ _).length ≤ 256
          rw [List.length_append, List.length_singleton]; omega
        · intro f hf
          rcases List.mem_append.1 hf with h | h
          · exact hs.fields.2 f h
          · rw [List.mem_singleton.1 h]
            have hb := hs.bits k (s.g.report % 256)
            exact ⟨by show 1 ≤ s.g.size; omega, by show s.g.size ≤ 32; omega, by show 1 ≤ s.g.count; omega, by show s.g.count ≤ 256; omega, hb.1, hb.2, hs.usages.1⟩
        · intro k' r'
          show 0 ≤ bitsS (s.fields ++ [fieldOf s k x]) k' r' ∧ bitsS (s.fields ++ [fieldOf s k x]) k' r' ≤ 4096
          rw [bitsS_snoc]
          have hb := hs.bits k' r'
          have hp : 0 ≤ s.g.size * s.g.count := Int.mul_nonneg (by omega) (by omega)
          split
          · rename_i hkr
            have e : (fieldOf s k x).kind = k ∧ (fieldOf s k x).report = s.g.report % 256 := ⟨rfl, rfl⟩
            rw [e.1, e.2] at hkr
            simp only [Bool.and_eq_true, beq_iff_eq] at hkr
            rw [hkr.1, hkr.2] at a5
            show 0 ≤ bitsS s.fields k' r' + s.g.size * s.g.count ∧ bitsS s.fields k' r' + s.g.size * s.g.count ≤ 4096
            omega
          · omega
theorem clear_fine {s : RS} (hs : s.Fine) (x : It) : (clearS s x).Fine := by
  unfold clearS
  split
  · exact { hs with usages := ⟨by simp, fun u hu => by cases hu⟩ }
  · exact hs
set_option maxHeartbeats 1000000 in
theorem eff_fine {s : RS} (hs : s.Fine) {x : It} (h : x.wide = true) (hok : x.ok) (h0 : (effS s x).1 = 0) : (effS s x).2.Fine := by
  obtain ⟨d0, d1, _⟩ := data_lt h hok
  have hsg := sign_range h hok
  have hu := usage_range hs h hok
  unfold effS at h0 ⊢
  by_cases t0 : x.ty = 0
  · rw [if_pos t0] at h0 ⊢
    by_cases g8 : x.tg = 8
    · rw [if_pos g8] at h0 ⊢; exact field_fine hs h0
    rw [if_neg g8] at h0 ⊢
    by_cases g9 : x.tg = 9
    · rw [if_pos g9] at h0 ⊢; exact field_fine hs h0
    rw [if_neg g9] at h0 ⊢
    by_cases g11 : x.tg = 11
    · rw [if_pos g11] at h0 ⊢; exact field_fine hs h0
    rw [if_neg g11] at h0 ⊢
    by_cases g10 : x.tg = 10
    · rw [if_pos g10] at h0 ⊢
      by_cases c : 64 ≤ s.colls.length
      · rw [if_pos c] at h0; cases h0
      rw [if_neg c]
      refine { hs with opn := ⟨?_, ?_⟩, colls := ⟨?_, ?_⟩ }
      · show -1 ≤ (s.colls.length : Int); omega
      · show (s.colls.length : Int) < ((s.colls ++ _).length : Int); rw [List.length_append, List.length_singleton]; omega
      · show (s.colls ++ _).length ≤ 64; rw [List.length_append, List.length_singleton]; omega
      · intro c' hc'
        show u8k c'.kind ∧ u32k c'.usage ∧ -1 ≤ c'.parent ∧ c'.parent < ((s.colls ++ _).length : Int)
        rw [List.length_append, List.length_singleton]
        rcases List.mem_append.1 hc' with h1 | h1
        · have := hs.colls.2 c' h1; refine ⟨this.1, this.2.1, this.2.2.1, by omega⟩
        · rw [List.mem_singleton.1 h1]
          refine ⟨by show u8k (x.data % 256); unfold u8k; omega, ?_, hs.opn.1, by have := hs.opn.2; show s.opn < _; omega⟩
          show u32k (s.usages.headD 0)
          cases hu' : s.usages with
          | nil => unfold u32k; simp
          | cons a l => exact hs.usages.2 a (by rw [hu']; exact List.mem_cons_self)
    rw [if_neg g10] at h0 ⊢
    by_cases g12 : x.tg = 12
    · rw [if_pos g12] at h0 ⊢
      by_cases c : s.opn < 0
      · rw [if_pos c] at h0; cases h0
      rw [if_neg c]
      have ho := hs.opn
      obtain ⟨c', hc'⟩ : ∃ c', s.colls[s.opn.toNat]? = some c' := ⟨_, List.getElem?_eq_getElem (by omega)⟩
      have hm := hs.colls.2 c' (List.mem_of_getElem? hc')
      refine { hs with opn := ?_ }
      show -1 ≤ ((s.colls[s.opn.toNat]?).map Co.parent).getD (-1) ∧ ((s.colls[s.opn.toNat]?).map Co.parent).getD (-1) < (s.colls.length : Int)
      rw [hc']
      exact hm.2.2
    rw [if_neg g12] at h0; cases h0
  rw [if_neg t0] at h0 ⊢
  by_cases t1 : x.ty = 1
  · rw [if_pos t1] at h0 ⊢
    by_cases g0 : x.tg = 0
    · rw [if_pos g0] at h0 ⊢
      by_cases c : 65535 < x.data
      · rw [if_pos c] at h0; cases h0
      rw [if_neg c]
      exact { hs with page := ⟨d0, by show x.data ≤ 65535; omega⟩ }
    rw [if_neg g0] at h0 ⊢
    by_cases g1 : x.tg = 1
    · rw [if_pos g1]; exact { hs with lo := hsg }
    rw [if_neg g1] at h0 ⊢
    by_cases g2 : x.tg = 2
    · rw [if_pos g2]; exact { hs with hi := hsg }
    rw [if_neg g2] at h0 ⊢
    by_cases g3 : x.tg = 3 ∨ x.tg = 4 ∨ x.tg = 5 ∨ x.tg = 6
    · rw [if_pos g3]; exact hs
    rw [if_neg g3] at h0 ⊢
    by_cases g7 : x.tg = 7
    · rw [if_pos g7]; exact { hs with size := ⟨d0, d1⟩ }
    rw [if_neg g7] at h0 ⊢
    by_cases g8 : x.tg = 8
    · rw [if_pos g8] at h0 ⊢
      by_cases c : x.data < 1 ∨ 255 < x.data
      · rw [if_pos c] at h0; cases h0
      rw [if_neg c]
      exact { hs with report := ⟨d0, by show x.data ≤ 255; omega⟩ }
    rw [if_neg g8] at h0 ⊢
    by_cases g9 : x.tg = 9
    · rw [if_pos g9]; exact { hs with count := ⟨d0, d1⟩ }
    rw [if_neg g9] at h0 ⊢
    by_cases g10 : x.tg = 10
    · rw [if_pos g10] at h0 ⊢
      by_cases c : 8 ≤ s.stack.length
      · rw [if_pos c] at h0; cases h0
      rw [if_neg c]
      refine { hs with stack := ?_, depth := ?_ }
      · intro g hg
        rcases List.mem_append.1 hg with h1 | h1
        · exact hs.stack g h1
        · rw [List.mem_singleton.1 h1]; exact ⟨hs.page, hs.size, hs.count, hs.report, hs.lo, hs.hi⟩
      · show (s.stack ++ _).length ≤ 8; rw [List.length_append, List.length_singleton]; omega
    rw [if_neg g10] at h0 ⊢
    by_cases g11 : x.tg = 11
    · rw [if_pos g11] at h0 ⊢
      cases hl : s.stack.getLast? with
      | none => rw [hl] at h0; cases h0
      | some g =>
        have hg := hs.stack g (List.mem_of_getLast? hl)
        refine { hs with page := hg.1, size := hg.2.1, count := hg.2.2.1, report := hg.2.2.2.1, lo := hg.2.2.2.2.1, hi := hg.2.2.2.2.2, stack := fun g' hg' => hs.stack g' (List.dropLast_subset _ hg'), depth := ?_ }
        show s.stack.dropLast.length ≤ 8
        have := hs.depth
        rw [List.length_dropLast]; omega
    rw [if_neg g11] at h0; cases h0
  rw [if_neg t1] at h0 ⊢
  by_cases t2 : x.ty = 2
  · rw [if_pos t2] at h0 ⊢
    by_cases g0 : x.tg = 0
    · rw [if_pos g0] at h0 ⊢; exact add_fine hs hu hu (Int.le_refl _) h0
    rw [if_neg g0] at h0 ⊢
    by_cases g1 : x.tg = 1
    · rw [if_pos g1]; exact { hs with kept := hu }
    rw [if_neg g1] at h0 ⊢
    by_cases g2 : x.tg = 2
    · rw [if_pos g2] at h0 ⊢
      by_cases c : s.keeps = false ∨ usageS s x / 65536 ≠ s.kept / 65536 ∨ usageS s x < s.kept
      · rw [if_pos c] at h0; cases h0
      rw [if_neg c] at h0 ⊢
      simp only [not_or] at c
      exact add_fine (s := { s with keeps := false }) { hs with } hs.kept hu (by have := c.2.2; omega) h0
    rw [if_neg g2] at h0; cases h0
  rw [if_neg t2] at h0; cases h0
theorem run_fine : ∀ (l : List It) (s : RS), s.Fine → (∀ x ∈ l, x.wide = true ∧ x.ok) → (runS l s).1 = 0 → (runS l s).2.Fine
  | [], s, hs, _, _ => hs
  | x :: l, s, hs, hl, h0 => by
    unfold runS at h0 ⊢
    by_cases he : (effS s x).1 ≠ 0
    · rw [if_pos he] at h0; exact absurd h0 he
    · rw [if_neg he] at h0 ⊢
      have hx := hl x List.mem_cons_self
      exact run_fine l _ (clear_fine (eff_fine hs hx.1 hx.2 (by simpa using he)) x) (fun y hy => hl y (List.mem_cons_of_mem _ hy)) h0
end Go.Proofs.Ytegdigfcgeoboaa
