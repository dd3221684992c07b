/- The law of the chapter on reports, part 11: Iv Ml Eb. -/
import Derived.Test.YtegdigfcgeoboaaK10
import Derived.Orders
import Derived.Laws.EntriesVeiled
set_option maxHeartbeats 16000000
set_option linter.unusedVariables false
set_option linter.unusedSimpArgs false
set_option linter.unusedSectionVars false
namespace Go.Proofs.Ytegdigfcgeoboaa
open Go
theorem cnt_set : ∀ (l : List Bool) (i : Nat), l[i]? = some false → (l.set i true).count false + 1 = l.count false
 | [], i, h => by simp at h
 | b :: l, 0, h => by
  have e : b = false := by simpa using h
  subst e
  simp [List.set]
 | b :: l, i + 1, h => by
  have := cnt_set l i (by simpa using h)
  simp only [List.set, List.count_cons]
  omega
theorem cnt_zero : ∀ (l : List Bool), l.count false = 0 → ∀ i, i < l.length → l[i]? = some true
 | [], _, i, h => by simp at h
 | b :: l, h, i, hi => by
  rw [List.count_cons] at h
  cases b
  ·simp at h
  ·cases i with
   | zero => rfl
   | succ i => simpa using cnt_zero l (by simpa using h) i (by simpa using hi)
def setL (L : Nat → Bool) (i : Nat) : Nat → Bool := fun j => if j = i then true else L j
theorem setL_self (L : Nat → Bool) (i : Nat) : setL L i i = true := if_pos rfl
theorem setL_ne {L : Nat → Bool} {i j : Nat} (h : j ≠ i) : setL L i j = L j := if_neg h
def earlierB (ops : Array Oper) : Bool := (List.range ops.size).all fun i => match ops[i]? with | some o => o.after.toList.all fun e => decide (e.on < i) | none => true
theorem earlier_of {ops : Array Oper} (h : earlierB ops = true) {i : Nat} {o : Oper} (ho : ops[i]? = some o) : ∀ e ∈ o.after, e.on < i := by
 intro e he
 have hi : i < ops.size := (Array.getElem?_eq_some_iff.1 ho).1
 have h1 := List.all_eq_true.1 h i (List.mem_range.2 hi)
 rw [ho] at h1
 have h2 := List.all_eq_true.1 h1 e (by simpa using he)
 simpa using h2
section
variable {P : Program} {ops : Array Oper} {Q : Exit → Act → World → Prop}
abbrev Closed (ops : Array Oper) (L : Nat → Bool) : Prop := ∀ j o, ops[j]? = some o → L j = true → ∀ e ∈ o.after, Region.binds .any e = true → L e.on = true
theorem least_false {L : Nat → Bool} : ∀ (n : Nat), (∃ i, i < n ∧ L i = false) → ∃ i, i < n ∧ L i = false ∧ ∀ j, j < i → L j = true
 | 0, ⟨i, h, _⟩ => by omega
 | n + 1, ⟨i, hi, h⟩ => by
  by_cases hn : ∃ k, k < n ∧ L k = false
  ·obtain ⟨k, h1, h2, h3⟩ := least_false n hn
   exact ⟨k, by omega, h2, h3⟩
  ·have hin : i = n := by
    by_cases e : i = n
    ·exact e
    ·exact absurd ⟨i, by omega, h⟩ hn
   subst hin
   refine ⟨i, by omega, h, fun j hj => ?_⟩
   cases hL : L j
   ·exact absurd ⟨j, hj, hL⟩ hn
   ·rfl
theorem wpAny_inv (hwf : earlierB ops = true) (Inv : Nat → (Nat → Bool) → Act → World → Prop)
  (hstep : ∀ (fuel : Nat) (L : Nat → Bool) (a : Act) (w : World) (i : Nat) (o : Oper), ops[i]? = some o → L i = false → (∀ e ∈ o.after, Region.binds .any e = true → L e.on = true) → Closed ops L → Inv (fuel + 1) L a w →
   wpOp P ops Q i (fun a' w' => Inv fuel (setL L i) a' w') a w)
  (hext : ∀ (fuel : Nat) (L L' : Nat → Bool) (a : Act) (w : World), (∀ i, i < ops.size → L i = L' i) → Inv fuel L a w → Inv fuel L' a w)
  (hend : ∀ (L : Nat → Bool) (a : Act) (w : World), (∀ i, i < ops.size → L i = true) → Inv 0 L a w → Q .normal a w) :
  ∀ (fuel : Nat) (listed : Array Bool) (a : Act) (w : World), listed.size = ops.size → listed.toList.count false = fuel → Closed ops (fun j => listed.getD j false) → Inv fuel (fun j => listed.getD j false) a w → wpAny P .any ops Q fuel listed a w := by
 have all : ∀ (listed : Array Bool), listed.size = ops.size → listed.toList.count false = 0 → ∀ i, i < ops.size → listed.getD i false = true := by
  intro listed hs hc i hi
  have h := cnt_zero _ hc i (by simpa [hs] using hi)
  rw [Array.getD_eq_getD_getElem?, ← Array.getElem?_toList, h]; rfl
 intro fuel
 induction fuel with
 | zero =>
  intro listed a w hs hc _ hI
  refine ⟨?_, hend _ a w (all listed hs hc) hI⟩
  cases hr : Region.ready .any ops listed with
  | nil => rfl
  | cons j r =>
   have hj : j ∈ Region.ready .any ops listed := by rw [hr]; exact List.mem_cons_self
   obtain ⟨h0, o, ho, _⟩ := mem_ready.1 hj
   have hlt := (Array.getElem?_eq_some_iff.1 ho).1
   have h1 := all listed hs hc j hlt
   rw [Array.getD_eq_getD_getElem?, Array.getElem?_eq_getElem (by omega)] at h0 h1
   simp at h0 h1
   rw [h0] at h1; cases h1
 | succ fuel ih =>
  intro listed a w hs hc hcl hI
  refine ⟨fun hr => ?_, fun i hi => ?_⟩
  ·exfalso
   have hex : ∃ i, i < ops.size ∧ listed.getD i false = false := by
    by_cases h : ∃ i, i < ops.size ∧ listed.getD i false = false
    ·exact h
    ·exfalso
     have h0 : listed.toList.count false = 0 := by
      rw [List.count_eq_zero]
      intro hm
      obtain ⟨k, hk, e⟩ := List.getElem_of_mem hm
      have hk' : k < listed.size := by simpa using hk
      refine h ⟨k, by omega, ?_⟩
      rw [Array.getD_eq_getD_getElem?, Array.getElem?_eq_getElem hk']
      simpa using e
     omega
   obtain ⟨i, hi, hf, hb⟩ := least_false ops.size hex
   have hil : i < listed.size := by omega
   have : i ∈ Region.ready .any ops listed := by
    rw [mem_ready]
    refine ⟨?_, ops[i], Array.getElem?_eq_getElem hi, fun e he _ => hb e.on (earlier_of hwf (Array.getElem?_eq_getElem hi) e he)⟩
    rw [Array.getD_eq_getD_getElem?, Array.getElem?_eq_getElem hil] at hf ⊢
    simpa using hf
   rw [hr] at this; cases this
  ·obtain ⟨h0, o, ho, hall⟩ := mem_ready.1 hi
   have hlt := (Array.getElem?_eq_some_iff.1 ho).1
   have hil : i < listed.size := by omega
   have hfi : listed[i]? = some false := by
    rw [Array.getD_eq_getD_getElem?, Array.getElem?_eq_getElem hil] at h0
    rw [Array.getElem?_eq_getElem hil]; simpa using h0
   have hLf : listed.getD i false = false := by rw [Array.getD_eq_getD_getElem?, hfi]; rfl
   have hset : ∀ j, (listed.setIfInBounds i true).getD j false = setL (fun j => listed.getD j false) i j := by
    intro j
    by_cases e : j = i
    ·subst e
     rw [setL_self, Array.getD_eq_getD_getElem?, Array.getElem?_setIfInBounds, if_pos rfl, if_pos hil]; rfl
    ·rw [setL_ne e, Array.getD_eq_getD_getElem?, Array.getD_eq_getD_getElem?, Array.getElem?_setIfInBounds, if_neg (fun h => e h.symm)]
   refine wpOp_mono (fun a' w' hI' => ih _ a' w' (by simpa using hs) ?_ ?_ ?_) (hstep fuel _ a w i o ho hLf hall hcl hI)
   ·have := cnt_set listed.toList i (by simpa using hfi)
    rw [Array.toList_setIfInBounds]
    omega
   ·intro j o' ho' hj e he hb
    dsimp only at hj ⊢
    rw [hset] at hj
    by_cases ej : j = i
    ·subst ej
     obtain rfl := Option.some.inj (ho.symm.trans ho')
     rw [hset]
     unfold setL
     split
     ·rfl
     ·exact hall e he hb
    ·rw [setL_ne ej] at hj
     rw [hset]
     unfold setL
     split
     ·rfl
     ·exact hcl j o' ho' hj e he hb
   ·exact hext _ _ _ _ _ (fun j _ => (hset j).symm) hI'
theorem wp_region_inv {id : Nat} {a : Act} {w : World} (hm : P.follows .mixedOrders = true) (hwf : earlierB ops = true) (Inv : Nat → (Nat → Bool) → Act → World → Prop)
  (h0 : Inv ops.size (fun _ => false) a w.drew)
  (hstep : ∀ (fuel : Nat) (L : Nat → Bool) (a : Act) (w : World) (i : Nat) (o : Oper), ops[i]? = some o → L i = false → (∀ e ∈ o.after, Region.binds .any e = true → L e.on = true) → Closed ops L → Inv (fuel + 1) L a w →
   wpOp P ops Q i (fun a' w' => Inv fuel (setL L i) a' w') a w)
  (hext : ∀ (fuel : Nat) (L L' : Nat → Bool) (a : Act) (w : World), (∀ i, i < ops.size → L i = L' i) → Inv fuel L a w → Inv fuel L' a w)
  (hend : ∀ (L : Nat → Bool) (a : Act) (w : World), (∀ i, i < ops.size → L i = true) → Inv 0 L a w → Q .normal a w) :
  (Code.region id ops true).wp P Q a w := by
 refine wp_region_any hm (wpAny_inv hwf Inv hstep hext hend _ _ _ _ (by simp) (by simp) ?_ ?_)
 ·intro j o _ hj; dsimp only at hj
  rw [Array.getD_eq_getD_getElem?, Array.getElem?_replicate] at hj
  split at hj <;> simp at hj
 ·refine hext _ (fun _ => false) _ _ _ (fun i hi => ?_) h0
  rw [Array.getD_eq_getD_getElem?, Array.getElem?_replicate, if_pos hi]; rfl
end
end Go.Proofs.Ytegdigfcgeoboaa
namespace Go.Proofs.Ytegdigfcgeoboaa
open Go Go.RowKit Go.Maps Go.WideShapes
section
variable {P : Program} {ops : Array Oper} {Q : Exit → Act → World → Prop} {i : Nat} {K : Act → World → Prop} {a : Act} {w w' : World} {o : Oper} {v : Value}
theorem op_val (ho : ops[i]? = some o) (hg : o.guard = none) (hrun : (execOp a.eval o).run P w = .ok (.value v) w') (hK : K (a.put o.dst v) w') : wpOp P ops Q i K a w := by
 unfold wpOp; simp only [ho]; rw [if_pos (by simp [Region.wanted, hg])]; left; unfold Oper.wp; rw [hrun]; exact hK
theorem op_skip (ho : ops[i]? = some o) (hg : o.guard = none) (hrun : (execOp a.eval o).run P w = .ok .skip w') (hK : K (a.put o.dst undef) w') : wpOp P ops Q i K a w := by
 unfold wpOp; simp only [ho]; rw [if_pos (by simp [Region.wanted, hg])]; left; unfold Oper.wp; rw [hrun]; exact hK
theorem eval_tmp {k : Nat} (h : a.tmps[k]? = some v) : a.eval (.tmp k) = v := by
 show a.tmps.getD k undef = v
 rw [Array.getD_eq_getD_getElem?, h]; rfl
theorem put_at {d : Nat} (h : d < a.tmps.size) : (a.put (some d) v).tmps[d]? = some v := by
 show (a.tmps.setIfInBounds d v)[d]? = _
 rw [Array.getElem?_setIfInBounds, if_pos rfl, if_pos h]
theorem put_ne {d k : Nat} (h : k ≠ d) : (a.put (some d) v).tmps[k]? = a.tmps[k]? := by
 show (a.tmps.setIfInBounds d v)[k]? = _
 rw [Array.getElem?_setIfInBounds, if_neg (fun e => h e.symm)]
theorem put_size {d : Option Nat} : (a.put d v).tmps.size = a.tmps.size := by
 cases d
 ·rfl
 ·show (a.tmps.setIfInBounds _ v).size = _; simp
theorem put_defers {d : Option Nat} : (a.put d v).defers = a.defers := by cases d <;> rfl
end
structure LI (P : Program) (kt : TypeId) (N : Nat) (key : Nat → Value) (kl : Nat → Lit) (val : Nat → Value) (W0 : World) (fuel : Nat) (L : Nat → Bool) (a : Act) (w : World) : Prop where
 lim : fuel ≤ 2 * N + 3
 defers : a.defers = []
 size : a.tmps.size = N + 3
 kept : Kept W0 w
 keys : ∀ r, r < N → L (1 + 2 * r) = true → a.tmps[2 + r]? = some (key r)
 ins : ∀ r, r < N → L (2 + 2 * r) = true → L 0 = true
 map : L 0 = true → ∃ b n f, a.tmps[1]? = some (.map (some b)) ∧ n + fuel ≤ 2 * N + 3 ∧ MapIs P kt w b n f ∧ W0.heap.size ≤ b ∧ (∀ r, r < N → L (2 + 2 * r) = true → f (kl r) = some (val r)) ∧ (∀ x, (∀ r, r < N → L (2 + 2 * r) = true → x.sameKey (kl r) = false) → f x = none)
 mv : L (2 * N + 1) = true → L 0 = true ∧ a.tmps[2 + N]? = a.tmps[1]?
 res : L (2 * N + 2) = true → L 0 = true ∧ a.tmps[0]? = a.tmps[1]?
section
variable {P : Program} {kt : TypeId} {N : Nat} {key : Nat → Value} {kl : Nat → Lit} {val : Nat → Value} {W0 : World} {fuel : Nat} {L : Nat → Bool} {a : Act} {w : World}
theorem LI.ext {L' : Nat → Bool} (h : LI P kt N key kl val W0 fuel L a w) (hL : ∀ i, i < 2 * N + 3 → L i = L' i) : LI P kt N key kl val W0 fuel L' a w := by
 refine ⟨h.lim, h.defers, h.size, h.kept, fun r hr hl => h.keys r hr ((hL _ (by omega)).trans hl), fun r hr hl => (hL 0 (by omega)).symm.trans (h.ins r hr ((hL _ (by omega)).trans hl)), fun h0 => ?_, fun hl => ?_, fun hl => ?_⟩
 ·obtain ⟨b, n, f, e1, e2, e3, e4, e5, e6⟩ := h.map ((hL 0 (by omega)).trans h0)
  exact ⟨b, n, f, e1, e2, e3, e4, fun r hr hl => e5 r hr ((hL _ (by omega)).trans hl), fun x hx => e6 x fun r hr hl => hx r hr ((hL _ (by omega)).symm.trans hl)⟩
 ·have := h.mv ((hL _ (by omega)).trans hl); exact ⟨(hL 0 (by omega)).symm.trans this.1, this.2⟩
 ·have := h.res ((hL _ (by omega)).trans hl); exact ⟨(hL 0 (by omega)).symm.trans this.1, this.2⟩
theorem LI.start {n : Nat} (h1 : a.defers = []) (h2 : a.tmps.size = N + 3) (hn : n ≤ 2 * N + 3) : LI P kt N key kl val w n (fun _ => false) a w :=
 ⟨hn, h1, h2, Below.refl _ _, fun _ _ h => (by cases h), fun _ _ h => (by cases h), fun h => (by cases h), fun h => (by cases h), fun h => (by cases h)⟩
theorem LI.make (h : LI P kt N key kl val W0 (fuel + 1) L a w) (h0 : L 0 = false) : LI P kt N key kl val W0 fuel (setL L 0) (a.put (some 1) (.map (some w.heap.size))) (w.alloc (.map #[] 0)) := by
 have hk : Kept w (w.alloc (.map #[] 0)) := (Below.refl _ _).alloc (Nat.le_refl _) _
 have hlim := h.lim
 have hno : ∀ r, r < N → L (2 + 2 * r) = false := fun r hr => by
  cases hL : L (2 + 2 * r)
  ·rfl
  ·rw [h.ins r hr hL] at h0; cases h0
 refine ⟨by omega, put_defers.trans h.defers, put_size.trans h.size, h.kept.trans' hk, fun r hr hl => ?_, fun r hr _ => setL_self _ _, fun _ => ?_, fun hl => ?_, fun hl => ?_⟩
 ·rw [setL_ne (by omega)] at hl
  rw [put_ne (by omega)]; exact h.keys r hr hl
 ·refine ⟨w.heap.size, 0, _, put_at (by rw [h.size]; omega), by omega, MapIs.made w P kt, h.kept.size, fun r hr hl => ?_, fun x _ => rfl⟩
  rw [setL_ne (by omega), hno r hr] at hl; cases hl
 ·rw [setL_ne (by omega)] at hl
  rw [(h.mv hl).1] at h0; cases h0
 ·rw [setL_ne (by omega)] at hl
  rw [(h.res hl).1] at h0; cases h0
theorem LI.build {r : Nat} (h : LI P kt N key kl val W0 (fuel + 1) L a w) (hr : r < N) : LI P kt N key kl val W0 fuel (setL L (1 + 2 * r)) (a.put (some (2 + r)) (key r)) w := by
 have hlim := h.lim
 refine ⟨by omega, put_defers.trans h.defers, put_size.trans h.size, h.kept, fun r' hr' hl => ?_, fun r' hr' hl => ?_, fun hl => ?_, fun hl => ?_, fun hl => ?_⟩
 ·by_cases e : r' = r
  ·subst e; exact put_at (by rw [h.size]; omega)
  ·rw [setL_ne (by omega)] at hl
   rw [put_ne (by omega)]; exact h.keys r' hr' hl
 ·rw [setL_ne (by omega)] at hl ⊢; exact h.ins r' hr' hl
 ·rw [setL_ne (by omega)] at hl
  obtain ⟨b, n, f, e1, e2, e3, e4, e5, e6⟩ := h.map hl
  refine ⟨b, n, f, (put_ne (by omega)).trans e1, by omega, e3, e4, fun r' hr' hl' => ?_, fun x hx => e6 x fun r' hr' hl' => hx r' hr' (by rw [setL_ne (by omega)]; exact hl')⟩
  rw [setL_ne (by omega)] at hl'; exact e5 r' hr' hl'
 ·rw [setL_ne (by omega)] at hl ⊢
  rw [put_ne (by omega), put_ne (by omega)]; exact h.mv hl
 ·rw [setL_ne (by omega)] at hl ⊢
  rw [put_ne (by omega), put_ne (by omega)]; exact h.res hl
theorem LI.insert {r t e : Nat} (h : LI P kt N key kl val W0 (fuel + 1) L a w) (hr : r < N) (hN : N < 1000000) (h0 : L 0 = true) (hkey : L (1 + 2 * r) = true) (hL : L (2 + 2 * r) = false) (Ky : Keyed P kt) (ht : P.underlying t = some (.map kt e)) (hko : keyOf P kt (key r) = some (kl r))
  (hself : (kl r).sameKey (kl r) = true) (hne : ∀ r', r' < N → r' ≠ r → (kl r').sameKey (kl r) = false) :
  ∃ b w', a.tmps[1]? = some (.map (some b)) ∧ a.tmps[2 + r]? = some (key r) ∧ (Instr.mapUpdate t (.map (some b)) (key r) (val r)).run P w = .ok () w' ∧ LI P kt N key kl val W0 fuel (setL L (2 + 2 * r)) (a.put none undef) w' := by
 obtain ⟨b, n, f, e1, e2, e3, e4, e5, e6⟩ := h.map h0
 have hlim := h.lim
 obtain ⟨w', hrun, hm, hg⟩ := e3.update Ky ht (by unfold maxLen; omega) (val r) hko
 refine ⟨b, w', e1, h.keys r hr hkey, hrun, ⟨by omega, h.defers, h.size, h.kept.grown hg h.kept.size (fun k e => by injection e with e; omega), fun r' hr' hl => ?_, fun r' hr' hl => ?_, fun hl => ?_, fun hl => ?_, fun hl => ?_⟩⟩
 ·rw [setL_ne (by omega)] at hl; exact h.keys r' hr' hl
 ·rw [setL_ne (by omega)]; exact h0
 ·refine ⟨b, n + 1, _, e1, by omega, hm, e4, fun r' hr' hl' => ?_, fun x hx => ?_⟩
  ·unfold putF
   by_cases e : r' = r
   ·subst e; rw [hself]; rfl
   ·rw [hne r' hr' e]
    rw [setL_ne (by omega)] at hl'
    exact e5 r' hr' hl'
  ·unfold putF
   rw [hx r hr (setL_self _ _)]
   refine e6 x fun r' hr' hl' => hx r' hr' ?_
   unfold setL
   split
   ·rfl
   ·exact hl'
 ·rw [setL_ne (by omega)] at hl ⊢; exact h.mv hl
 ·rw [setL_ne (by omega)] at hl ⊢; exact h.res hl
theorem LI.move {v : Value} (h : LI P kt N key kl val W0 (fuel + 1) L a w) (h0 : L 0 = true) (hv : a.tmps[1]? = some v) : LI P kt N key kl val W0 fuel (setL L (2 * N + 1)) (a.put (some (2 + N)) v) w := by
 have hlim := h.lim
 refine ⟨by omega, put_defers.trans h.defers, put_size.trans h.size, h.kept, fun r hr hl => ?_, fun r hr hl => ?_, fun hl => ?_, fun hl => ?_, fun hl => ?_⟩
 ·rw [setL_ne (by omega)] at hl
  rw [put_ne (by omega)]; exact h.keys r hr hl
 ·rw [setL_ne (by omega)]; exact h0
 ·obtain ⟨b, n, f, e1, e2, e3, e4, e5, e6⟩ := h.map h0
  refine ⟨b, n, f, (put_ne (by omega)).trans e1, by omega, e3, e4, fun r hr hl => ?_, fun x hx => e6 x fun r hr hl => hx r hr (by rw [setL_ne (by omega)]; exact hl)⟩
  rw [setL_ne (by omega)] at hl; exact e5 r hr hl
 ·refine ⟨by rw [setL_ne (by omega)]; exact h0, ?_⟩
  rw [put_at (by rw [h.size]; omega), put_ne (by omega), hv]
 ·rw [setL_ne (by omega)] at hl ⊢
  rw [put_ne (by omega), put_ne (by omega)]; exact h.res hl
theorem LI.assign {v : Value} (h : LI P kt N key kl val W0 (fuel + 1) L a w) (hm : L (2 * N + 1) = true) (hv : a.tmps[2 + N]? = some v) : LI P kt N key kl val W0 fuel (setL L (2 * N + 2)) (a.put (some 0) v) w := by
 have hlim := h.lim
 obtain ⟨h0, hmv⟩ := h.mv hm
 refine ⟨by omega, put_defers.trans h.defers, put_size.trans h.size, h.kept, fun r hr hl => ?_, fun r hr hl => ?_, fun hl => ?_, fun hl => ?_, fun hl => ?_⟩
 ·rw [setL_ne (by omega)] at hl
  rw [put_ne (by omega)]; exact h.keys r hr hl
 ·rw [setL_ne (by omega)]; exact h0
 ·obtain ⟨b, n, f, e1, e2, e3, e4, e5, e6⟩ := h.map h0
  refine ⟨b, n, f, (put_ne (by omega)).trans e1, by omega, e3, e4, fun r hr hl => ?_, fun x hx => e6 x fun r hr hl => hx r hr (by rw [setL_ne (by omega)]; exact hl)⟩
  rw [setL_ne (by omega)] at hl; exact e5 r hr hl
 ·rw [setL_ne (by omega)]
  rw [put_ne (by omega), put_ne (by omega)]; exact ⟨h0, hmv⟩
 ·refine ⟨by rw [setL_ne (by omega)]; exact h0, ?_⟩
  rw [put_at (by rw [h.size]; omega), put_ne (by omega), ← hmv, hv]
end
end Go.Proofs.Ytegdigfcgeoboaa
namespace Go.Proofs.Ytegdigfcgeoboaa
open Go.RowKit Go.Maps Go.WideShapes
attribute [local go_sem ↓] Go.wp_at_zero Go.wp_at_succ
def tabE : List (Int × Int × Nat) := [(0, 8, 39), (0, 9, 40), (0, 10, 41), (0, 11, 42), (0, 12, 43), (1, 0, 44), (1, 1, 45), (1, 2, 46), (1, 3, 47), (1, 4, 47), (1, 5, 47), (1, 6, 47), (1, 7, 48), (1, 8, 49), (1, 9, 50), (1, 10, 51), (1, 11, 52), (2, 0, 53), (2, 1, 54), (2, 2, 55)]
def keyE (r : Nat) : Value := pairV (tabE.getD r (0, 0, 0)).1 (tabE.getD r (0, 0, 0)).2.1
noncomputable def litE (r : Nat) : Lit := kL (tabE.getD r (0, 0, 0)).1 (tabE.getD r (0, 0, 0)).2.1
def valE (r : Nat) : Value := .func (.func (tabE.getD r (0, 0, 0)).2.2) #[] #[]
theorem tab_rng : ∀ r, r < 20 → (0 ≤ (tabE.getD r (0, 0, 0)).1 ∧ (tabE.getD r (0, 0, 0)).1 < 16) ∧ u8k (tabE.getD r (0, 0, 0)).2.1 := by unfold u8k; decide
theorem tab_ne : ∀ r, r < 20 → ∀ r', r' < 20 → r' ≠ r → ¬ ((tabE.getD r' (0, 0, 0)).1 = (tabE.getD r (0, 0, 0)).1 ∧ (tabE.getD r' (0, 0, 0)).2.1 = (tabE.getD r (0, 0, 0)).2.1) := by decide +kernel
theorem tab_fn : ∀ r, r < 20 → fnOf (tabE.getD r (0, 0, 0)).1 (tabE.getD r (0, 0, 0)).2.1 = some (tabE.getD r (0, 0, 0)).2.2 := by decide +kernel
theorem lit_key {r : Nat} (h : r < 20) : keyOf Try.prog 90 (keyE r) = some (litE r) := key_pair (tab_rng r h).1 (tab_rng r h).2
set_option maxRecDepth 100000 in
theorem lit_self {r : Nat} (h : r < 20) : (litE r).sameKey (litE r) = true := by
 have hk := kL_lit (tab_rng r h).1 (tab_rng r h).2
 unfold litE
 generalize kL _ _ = l at *
 exact WideAt.sameKey_self hk
theorem lit_ne {r r' : Nat} (h : r < 20) (h' : r' < 20) (hn : r' ≠ r) : (litE r').sameKey (litE r) = false := by
 unfold litE
 rw [kL_same (tab_rng r' h').1 (tab_rng r' h').2 (tab_rng r h).1 (tab_rng r h).2]
 have := tab_ne r h r' h' hn
 rw [Bool.and_eq_false_iff, beq_eq_false_iff_ne, beq_eq_false_iff_ne]
 by_cases e : (tabE.getD r' (0, 0, 0)).1 = (tabE.getD r (0, 0, 0)).1
 ·exact .inr (fun e2 => this ⟨e, e2⟩)
 ·exact .inl e
theorem bldE (a : Act) (w : World) (p q : Int) (d : Option Tmp) (pos : String) (ty : TypeId) (af : Array Edge) :
  (execOp a.eval { dst := d, op := .build 90 #[(0, .const (.int .u8 p)), (1, .const (.int .u8 q))], type := ty, pos := pos, after := af, guard := none }).run Try.prog w = .ok (.value (pairV p q)) w := by
 have hb : ∀ w, (Instr.build 90 #[(0, .int .u8 p), (1, .int .u8 q)]).run Try.prog w = .ok (pairV p q) w := fun w => by kernel_rfl
 have hc : ∀ x, a.eval (.const x) = x := fun _ => rfl
 simp [execOp, hc, hb, Result.andThen]
theorem insE (a : Act) (w w' : World) (k m v : Value) (m' k' v' : Operand) (h1 : a.eval m' = m) (h2 : a.eval k' = k) (h3 : a.eval v' = v) (hr : (Instr.mapUpdate 87 m k v).run Try.prog w = .ok () w') (d : Option Tmp) (pos : String) (ty : TypeId) (af : Array Edge) :
  (execOp a.eval { dst := d, op := .insert 87 m' k' v', type := ty, pos := pos, after := af, guard := none }).run Try.prog w = .ok .skip w' := by
 simp [execOp, h1, h2, h3, hr, Result.andThen]
theorem mkE (a : Act) (w : World) (d : Option Tmp) (pos : String) (ty : TypeId) (af : Array Edge) :
  (execOp a.eval { dst := d, op := .makeMap 87 none, type := ty, pos := pos, after := af, guard := none }).run Try.prog w = .ok (.value (.map (some w.heap.size))) (w.alloc (.map #[] 0)) := by
 simp [execOp, run_makeMap, Result.andThen]
section
variable {ops : Array Oper} {Q : Exit → Act → World → Prop} {W0 w : World} {fuel : Nat} {L : Nat → Bool} {a : Act} {pos : String} {ty : TypeId} {af : Array Edge}
abbrev KeepE (W0 : World) := LI Try.prog 90 20 keyE litE valE W0
theorem st_build (r : Nat) (hr : r < 20) {p q : Int} (hp : p = (tabE.getD r (0, 0, 0)).1) (hq : q = (tabE.getD r (0, 0, 0)).2.1) {d : Nat} (hd : d = 2 + r) (ho : ops[1 + 2 * r]? = some { dst := some d, op := .build 90 #[(0, .const (.int .u8 p)), (1, .const (.int .u8 q))], type := ty, pos := pos, after := af, guard := none })
  (hI : KeepE W0 (fuel + 1) L a w) : wpOp Try.prog ops Q (1 + 2 * r) (fun a' w' => KeepE W0 fuel (setL L (1 + 2 * r)) a' w') a w := by
 subst hp hq hd
 exact op_val ho rfl (bldE a w _ _ _ _ _ _) (hI.build hr)
theorem st_ins (r : Nat) (hr : r < 20) {f : FuncId} (hf : f = (tabE.getD r (0, 0, 0)).2.2) {k : Nat} (hk : k = 2 + r) (ho : ops[2 + 2 * r]? = some { dst := none, op := .insert 87 (.tmp 1) (.tmp k) (.func f), type := ty, pos := pos, after := af, guard := none })
  (hI : KeepE W0 (fuel + 1) L a w) (hL : L (2 + 2 * r) = false) (h0 : L 0 = true) (h1 : L (1 + 2 * r) = true) : wpOp Try.prog ops Q (2 + 2 * r) (fun a' w' => KeepE W0 fuel (setL L (2 + 2 * r)) a' w') a w := by
 subst hf hk
 obtain ⟨b, w', e1, e2, hrun, hJ⟩ := hI.insert (t := 87) (e := 89) hr (by decide) h0 h1 hL keyed90 Try.underlying87 (lit_key hr) (lit_self hr) (fun r' hr' hn => lit_ne hr hr' hn)
 have hv : a.eval (.func (tabE.getD r (0, 0, 0)).2.2) = valE r := rfl
 have hx := insE a w w' (keyE r) (.map (some b)) (valE r) (.tmp 1) (.tmp (2 + r)) (.func (tabE.getD r (0, 0, 0)).2.2) (eval_tmp e1) (eval_tmp e2) hv hrun none pos ty af
 exact op_skip ho rfl hx hJ
end
theorem tab_has : ∀ t g : Int, (∀ r, r < 20 → ¬ ((tabE.getD r (0, 0, 0)).1 = t ∧ (tabE.getD r (0, 0, 0)).2.1 = g)) → fnOf t g = none := by
 intro t g h
 cases hf : fnOf t g with
 | none => rfl
 | some f =>
  exfalso
  rcases fnOf_cases hf with ⟨rfl, rfl, _⟩ | ⟨rfl, rfl, _⟩ | ⟨rfl, rfl, _⟩ | ⟨rfl, rfl, _⟩ | ⟨rfl, rfl, _⟩ | ⟨rfl, rfl, _⟩ | ⟨rfl, rfl, _⟩ | ⟨rfl, rfl, _⟩ | ⟨rfl, rfl, _⟩ | ⟨rfl, rfl, _⟩ | ⟨rfl, rfl, _⟩ | ⟨rfl, rfl, _⟩ | ⟨rfl, rfl, _⟩ | ⟨rfl, rfl, _⟩ | ⟨rfl, rfl, _⟩ | ⟨rfl, rfl, _⟩ | ⟨rfl, rfl, _⟩ | ⟨rfl, rfl, _⟩ | ⟨rfl, rfl, _⟩ | ⟨rfl, rfl, _⟩
  ·exact h 0 (by decide) ⟨rfl, rfl⟩
  ·exact h 1 (by decide) ⟨rfl, rfl⟩
  ·exact h 2 (by decide) ⟨rfl, rfl⟩
  ·exact h 3 (by decide) ⟨rfl, rfl⟩
  ·exact h 4 (by decide) ⟨rfl, rfl⟩
  ·exact h 5 (by decide) ⟨rfl, rfl⟩
  ·exact h 6 (by decide) ⟨rfl, rfl⟩
  ·exact h 7 (by decide) ⟨rfl, rfl⟩
  ·exact h 8 (by decide) ⟨rfl, rfl⟩
  ·exact h 9 (by decide) ⟨rfl, rfl⟩
  ·exact h 10 (by decide) ⟨rfl, rfl⟩
  ·exact h 11 (by decide) ⟨rfl, rfl⟩
  ·exact h 12 (by decide) ⟨rfl, rfl⟩
  ·exact h 13 (by decide) ⟨rfl, rfl⟩
  ·exact h 14 (by decide) ⟨rfl, rfl⟩
  ·exact h 15 (by decide) ⟨rfl, rfl⟩
  ·exact h 16 (by decide) ⟨rfl, rfl⟩
  ·exact h 17 (by decide) ⟨rfl, rfl⟩
  ·exact h 18 (by decide) ⟨rfl, rfl⟩
  ·exact h 19 (by decide) ⟨rfl, rfl⟩
def EffIs (w0 w : World) (v : Value) : Prop := ∃ b n f, v = .map (some b) ∧ w0.heap.size ≤ b ∧ MapIs Try.prog 90 w b n f ∧ ∀ t g : Int, (0 ≤ t ∧ t < 16) → u8k g → f (kL t g) = (fnOf t g).map (fun f => .func (.func f) #[] #[])
set_option maxRecDepth 100000 in
theorem effects_any (w : World) : Calls Try.prog 28 #[] w fun e w' => ∃ v, e = .returned v ∧ EffIs w w' v ∧ Kept w w' := by
 go_enter Try.func28, Try.ntmps28
 go_upto_region 1 with (fail)
 refine wp_region_inv rfl (by kernel_rfl) (KeepE w.drew) ?start ?step ?ext ?done
 case start => exact LI.start rfl rfl (by decide)
 case ext => exact fun fuel L L' a w hL h => h.ext hL
 case step =>
  intro fuel L a wr i o ho hLi hdeps _ hI
  have hi : i < 43 := (Array.getElem?_eq_some_iff.1 ho).1
  match i, hi, ho, hLi with
  | 0, _, ho, hLi =>
   simp only [List.getElem?_toArray, List.getElem?_cons_succ, List.getElem?_cons_zero, Option.some.injEq] at ho
   subst ho
   exact op_val rfl rfl (mkE a wr _ _ _ _) (hI.make hLi)
  | 1, _, ho, hLi =>
   simp only [List.getElem?_toArray, List.getElem?_cons_succ, List.getElem?_cons_zero, Option.some.injEq] at ho
   subst ho
   exact st_build 0 (by decide) rfl rfl rfl rfl hI
  | 2, _, ho, hLi =>
   simp only [List.getElem?_toArray, List.getElem?_cons_succ, List.getElem?_cons_zero, Option.some.injEq] at ho
   subst ho
   exact st_ins 0 (by decide) rfl rfl rfl hI hLi (hdeps ⟨0, .data⟩ (by simp) rfl) (hdeps ⟨1, .data⟩ (by simp) rfl)
  | 3, _, ho, hLi =>
   simp only [List.getElem?_toArray, List.getElem?_cons_succ, List.getElem?_cons_zero, Option.some.injEq] at ho
   subst ho
   exact st_build 1 (by decide) rfl rfl rfl rfl hI
  | 4, _, ho, hLi =>
   simp only [List.getElem?_toArray, List.getElem?_cons_succ, List.getElem?_cons_zero, Option.some.injEq] at ho
   subst ho
   exact st_ins 1 (by decide) rfl rfl rfl hI hLi (hdeps ⟨0, .data⟩ (by simp) rfl) (hdeps ⟨3, .data⟩ (by simp) rfl)
  | 5, _, ho, hLi =>
   simp only [List.getElem?_toArray, List.getElem?_cons_succ, List.getElem?_cons_zero, Option.some.injEq] at ho
   subst ho
   exact st_build 2 (by decide) rfl rfl rfl rfl hI
  | 6, _, ho, hLi =>
   simp only [List.getElem?_toArray, List.getElem?_cons_succ, List.getElem?_cons_zero, Option.some.injEq] at ho
   subst ho
   exact st_ins 2 (by decide) rfl rfl rfl hI hLi (hdeps ⟨0, .data⟩ (by simp) rfl) (hdeps ⟨5, .data⟩ (by simp) rfl)
  | 7, _, ho, hLi =>
   simp only [List.getElem?_toArray, List.getElem?_cons_succ, List.getElem?_cons_zero, Option.some.injEq] at ho
   subst ho
   exact st_build 3 (by decide) rfl rfl rfl rfl hI
  | 8, _, ho, hLi =>
   simp only [List.getElem?_toArray, List.getElem?_cons_succ, List.getElem?_cons_zero, Option.some.injEq] at ho
   subst ho
   exact st_ins 3 (by decide) rfl rfl rfl hI hLi (hdeps ⟨0, .data⟩ (by simp) rfl) (hdeps ⟨7, .data⟩ (by simp) rfl)
  | 9, _, ho, hLi =>
   simp only [List.getElem?_toArray, List.getElem?_cons_succ, List.getElem?_cons_zero, Option.some.injEq] at ho
   subst ho
   exact st_build 4 (by decide) rfl rfl rfl rfl hI
  | 10, _, ho, hLi =>
   simp only [List.getElem?_toArray, List.getElem?_cons_succ, List.getElem?_cons_zero, Option.some.injEq] at ho
   subst ho
   exact st_ins 4 (by decide) rfl rfl rfl hI hLi (hdeps ⟨0, .data⟩ (by simp) rfl) (hdeps ⟨9, .data⟩ (by simp) rfl)
  | 11, _, ho, hLi =>
   simp only [List.getElem?_toArray, List.getElem?_cons_succ, List.getElem?_cons_zero, Option.some.injEq] at ho
   subst ho
   exact st_build 5 (by decide) rfl rfl rfl rfl hI
  | 12, _, ho, hLi =>
   simp only [List.getElem?_toArray, List.getElem?_cons_succ, List.getElem?_cons_zero, Option.some.injEq] at ho
   subst ho
   exact st_ins 5 (by decide) rfl rfl rfl hI hLi (hdeps ⟨0, .data⟩ (by simp) rfl) (hdeps ⟨11, .data⟩ (by simp) rfl)
  | 13, _, ho, hLi =>
   simp only [List.getElem?_toArray, List.getElem?_cons_succ, List.getElem?_cons_zero, Option.some.injEq] at ho
   subst ho
   exact st_build 6 (by decide) rfl rfl rfl rfl hI
  | 14, _, ho, hLi =>
   simp only [List.getElem?_toArray, List.getElem?_cons_succ, List.getElem?_cons_zero, Option.some.injEq] at ho
   subst ho
   exact st_ins 6 (by decide) rfl rfl rfl hI hLi (hdeps ⟨0, .data⟩ (by simp) rfl) (hdeps ⟨13, .data⟩ (by simp) rfl)
  | 15, _, ho, hLi =>
   simp only [List.getElem?_toArray, List.getElem?_cons_succ, List.getElem?_cons_zero, Option.some.injEq] at ho
   subst ho
   exact st_build 7 (by decide) rfl rfl rfl rfl hI
  | 16, _, ho, hLi =>
   simp only [List.getElem?_toArray, List.getElem?_cons_succ, List.getElem?_cons_zero, Option.some.injEq] at ho
   subst ho
   exact st_ins 7 (by decide) rfl rfl rfl hI hLi (hdeps ⟨0, .data⟩ (by simp) rfl) (hdeps ⟨15, .data⟩ (by simp) rfl)
  | 17, _, ho, hLi =>
   simp only [List.getElem?_toArray, List.getElem?_cons_succ, List.getElem?_cons_zero, Option.some.injEq] at ho
   subst ho
   exact st_build 8 (by decide) rfl rfl rfl rfl hI
  | 18, _, ho, hLi =>
   simp only [List.getElem?_toArray, List.getElem?_cons_succ, List.getElem?_cons_zero, Option.some.injEq] at ho
   subst ho
   exact st_ins 8 (by decide) rfl rfl rfl hI hLi (hdeps ⟨0, .data⟩ (by simp) rfl) (hdeps ⟨17, .data⟩ (by simp) rfl)
  | 19, _, ho, hLi =>
   simp only [List.getElem?_toArray, List.getElem?_cons_succ, List.getElem?_cons_zero, Option.some.injEq] at ho
   subst ho
   exact st_build 9 (by decide) rfl rfl rfl rfl hI
  | 20, _, ho, hLi =>
   simp only [List.getElem?_toArray, List.getElem?_cons_succ, List.getElem?_cons_zero, Option.some.injEq] at ho
   subst ho
   exact st_ins 9 (by decide) rfl rfl rfl hI hLi (hdeps ⟨0, .data⟩ (by simp) rfl) (hdeps ⟨19, .data⟩ (by simp) rfl)
  | 21, _, ho, hLi =>
   simp only [List.getElem?_toArray, List.getElem?_cons_succ, List.getElem?_cons_zero, Option.some.injEq] at ho
   subst ho
   exact st_build 10 (by decide) rfl rfl rfl rfl hI
  | 22, _, ho, hLi =>
   simp only [List.getElem?_toArray, List.getElem?_cons_succ, List.getElem?_cons_zero, Option.some.injEq] at ho
   subst ho
   exact st_ins 10 (by decide) rfl rfl rfl hI hLi (hdeps ⟨0, .data⟩ (by simp) rfl) (hdeps ⟨21, .data⟩ (by simp) rfl)
  | 23, _, ho, hLi =>
   simp only [List.getElem?_toArray, List.getElem?_cons_succ, List.getElem?_cons_zero, Option.some.injEq] at ho
   subst ho
   exact st_build 11 (by decide) rfl rfl rfl rfl hI
  | 24, _, ho, hLi =>
   simp only [List.getElem?_toArray, List.getElem?_cons_succ, List.getElem?_cons_zero, Option.some.injEq] at ho
   subst ho
   exact st_ins 11 (by decide) rfl rfl rfl hI hLi (hdeps ⟨0, .data⟩ (by simp) rfl) (hdeps ⟨23, .data⟩ (by simp) rfl)
  | 25, _, ho, hLi =>
   simp only [List.getElem?_toArray, List.getElem?_cons_succ, List.getElem?_cons_zero, Option.some.injEq] at ho
   subst ho
   exact st_build 12 (by decide) rfl rfl rfl rfl hI
  | 26, _, ho, hLi =>
   simp only [List.getElem?_toArray, List.getElem?_cons_succ, List.getElem?_cons_zero, Option.some.injEq] at ho
   subst ho
   exact st_ins 12 (by decide) rfl rfl rfl hI hLi (hdeps ⟨0, .data⟩ (by simp) rfl) (hdeps ⟨25, .data⟩ (by simp) rfl)
  | 27, _, ho, hLi =>
   simp only [List.getElem?_toArray, List.getElem?_cons_succ, List.getElem?_cons_zero, Option.some.injEq] at ho
   subst ho
   exact st_build 13 (by decide) rfl rfl rfl rfl hI
  | 28, _, ho, hLi =>
   simp only [List.getElem?_toArray, List.getElem?_cons_succ, List.getElem?_cons_zero, Option.some.injEq] at ho
   subst ho
   exact st_ins 13 (by decide) rfl rfl rfl hI hLi (hdeps ⟨0, .data⟩ (by simp) rfl) (hdeps ⟨27, .data⟩ (by simp) rfl)
  | 29, _, ho, hLi =>
   simp only [List.getElem?_toArray, List.getElem?_cons_succ, List.getElem?_cons_zero, Option.some.injEq] at ho
   subst ho
   exact st_build 14 (by decide) rfl rfl rfl rfl hI
  | 30, _, ho, hLi =>
   simp only [List.getElem?_toArray, List.getElem?_cons_succ, List.getElem?_cons_zero, Option.some.injEq] at ho
   subst ho
   exact st_ins 14 (by decide) rfl rfl rfl hI hLi (hdeps ⟨0, .data⟩ (by simp) rfl) (hdeps ⟨29, .data⟩ (by simp) rfl)
  | 31, _, ho, hLi =>
   simp only [List.getElem?_toArray, List.getElem?_cons_succ, List.getElem?_cons_zero, Option.some.injEq] at ho
   subst ho
   exact st_build 15 (by decide) rfl rfl rfl rfl hI
  | 32, _, ho, hLi =>
   simp only [List.getElem?_toArray, List.getElem?_cons_succ, List.getElem?_cons_zero, Option.some.injEq] at ho
   subst ho
   exact st_ins 15 (by decide) rfl rfl rfl hI hLi (hdeps ⟨0, .data⟩ (by simp) rfl) (hdeps ⟨31, .data⟩ (by simp) rfl)
  | 33, _, ho, hLi =>
   simp only [List.getElem?_toArray, List.getElem?_cons_succ, List.getElem?_cons_zero, Option.some.injEq] at ho
   subst ho
   exact st_build 16 (by decide) rfl rfl rfl rfl hI
  | 34, _, ho, hLi =>
   simp only [List.getElem?_toArray, List.getElem?_cons_succ, List.getElem?_cons_zero, Option.some.injEq] at ho
   subst ho
   exact st_ins 16 (by decide) rfl rfl rfl hI hLi (hdeps ⟨0, .data⟩ (by simp) rfl) (hdeps ⟨33, .data⟩ (by simp) rfl)
  | 35, _, ho, hLi =>
   simp only [List.getElem?_toArray, List.getElem?_cons_succ, List.getElem?_cons_zero, Option.some.injEq] at ho
   subst ho
   exact st_build 17 (by decide) rfl rfl rfl rfl hI
  | 36, _, ho, hLi =>
   simp only [List.getElem?_toArray, List.getElem?_cons_succ, List.getElem?_cons_zero, Option.some.injEq] at ho
   subst ho
   exact st_ins 17 (by decide) rfl rfl rfl hI hLi (hdeps ⟨0, .data⟩ (by simp) rfl) (hdeps ⟨35, .data⟩ (by simp) rfl)
  | 37, _, ho, hLi =>
   simp only [List.getElem?_toArray, List.getElem?_cons_succ, List.getElem?_cons_zero, Option.some.injEq] at ho
   subst ho
   exact st_build 18 (by decide) rfl rfl rfl rfl hI
  | 38, _, ho, hLi =>
   simp only [List.getElem?_toArray, List.getElem?_cons_succ, List.getElem?_cons_zero, Option.some.injEq] at ho
   subst ho
   exact st_ins 18 (by decide) rfl rfl rfl hI hLi (hdeps ⟨0, .data⟩ (by simp) rfl) (hdeps ⟨37, .data⟩ (by simp) rfl)
  | 39, _, ho, hLi =>
   simp only [List.getElem?_toArray, List.getElem?_cons_succ, List.getElem?_cons_zero, Option.some.injEq] at ho
   subst ho
   exact st_build 19 (by decide) rfl rfl rfl rfl hI
  | 40, _, ho, hLi =>
   simp only [List.getElem?_toArray, List.getElem?_cons_succ, List.getElem?_cons_zero, Option.some.injEq] at ho
   subst ho
   exact st_ins 19 (by decide) rfl rfl rfl hI hLi (hdeps ⟨0, .data⟩ (by simp) rfl) (hdeps ⟨39, .data⟩ (by simp) rfl)
  | 41, _, ho, hLi =>
   simp only [List.getElem?_toArray, List.getElem?_cons_succ, List.getElem?_cons_zero, Option.some.injEq] at ho
   subst ho
   have h0 := hdeps ⟨0, .data⟩ (by simp) rfl
   obtain ⟨b, n, f, e1, _⟩ := hI.map h0
   refine op_val (v := a.eval (.tmp 1)) rfl rfl rfl ?_
   rw [eval_tmp e1]
   exact hI.move h0 e1
  | 42, _, ho, hLi =>
   simp only [List.getElem?_toArray, List.getElem?_cons_succ, List.getElem?_cons_zero, Option.some.injEq] at ho
   subst ho
   have hm := hdeps ⟨41, .data⟩ (by simp) rfl
   obtain ⟨h0, e⟩ := hI.mv hm
   obtain ⟨b, n, f, e1, _⟩ := hI.map h0
   rw [e1] at e
   refine op_val (v := a.eval (.tmp 22)) rfl rfl rfl ?_
   rw [eval_tmp e]
   exact hI.assign hm e
 case done =>
  intro L a wr hL hI
  obtain ⟨h0, e0⟩ := hI.res (hL 42 (by decide))
  obtain ⟨b, n, f, e1, e2, e3, e4, e5, e6⟩ := hI.map h0
  rw [e1] at e0
  go_wp2
  refine bodyPost_ret (v := .map (some b)) (by simp [results, Try.results28, go_sem, Array.getD_eq_getD_getElem?, e0]) hI.defers ⟨_, rfl, ⟨b, n, f, rfl, e4, e3, fun t g ht hg => ?_⟩, of_drew hI.kept⟩
  by_cases hr : ∃ r, r < 20 ∧ (tabE.getD r (0, 0, 0)).1 = t ∧ (tabE.getD r (0, 0, 0)).2.1 = g
  ·obtain ⟨r, hr, rfl, rfl⟩ := hr
   rw [tab_fn r hr]
   exact e5 r hr (hL _ (by show 2 + 2 * r < 43; omega))
  ·rw [tab_has t g (fun r h h2 => hr ⟨r, h, h2⟩)]
   refine e6 _ fun r h _ => ?_
   unfold litE
   rw [kL_same ht hg (tab_rng r h).1 (tab_rng r h).2, Bool.and_eq_false_iff, beq_eq_false_iff_ne, beq_eq_false_iff_ne]
   by_cases e : t = (tabE.getD r (0, 0, 0)).1
   ·exact .inr (fun e2 => hr ⟨r, h, e.symm, e2.symm⟩)
   ·exact .inl e
end Go.Proofs.Ytegdigfcgeoboaa
