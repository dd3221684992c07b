/- A region that draws its order, by an invariant: whatever order is drawn, each operation that may come up keeps it. No condition; nothing of the program. -/
import Derived.Orders
import Derived.WalkKit
import Derived.KernelRfl
set_option linter.unusedVariables false
set_option linter.unusedSimpArgs false
set_option linter.unusedSectionVars false
namespace Go.Proofs.YtfoeihbajichpaaDoor
open Go

theorem cnt_set : ∀ (l : List Bool) (i : Nat), l[i]? = some false → (l.set i true).count false + 1 = l.count false
  | [], i, h => by simp at h
  | b :: l, 0, h => by
    have e : b = false := by simpa using h
    subst e
    simp [List.set]
  | b :: l, i + 1, h => by
    have := cnt_set l i (by simpa using h)
    simp only [List.set, List.count_cons]
    omega
theorem cnt_zero : ∀ (l : List Bool), l.count false = 0 → ∀ i, i < l.length → l[i]? = some true
  | [], _, i, h => by simp at h
  | b :: l, h, i, hi => by
    rw [List.count_cons] at h
    cases b
    · simp at h
    · cases i with
      | zero => rfl
      | succ i => simpa using cnt_zero l (by simpa using h) i (by simpa using hi)
/-- what has come up, with one operation more -/
def setL (L : Nat → Bool) (i : Nat) : Nat → Bool := fun j => if j = i then true else L j
theorem setL_self (L : Nat → Bool) (i : Nat) : setL L i i = true := if_pos rfl
theorem setL_ne {L : Nat → Bool} {i j : Nat} (h : j ≠ i) : setL L i j = L j := if_neg h
/-- every operation waits for earlier ones alone -/
def earlierB (ops : Array Oper) : Bool := (List.range ops.size).all fun i => match ops[i]? with | some o => o.after.toList.all fun e => decide (e.on < i) | none => true
theorem earlier_of {ops : Array Oper} (h : earlierB ops = true) {i : Nat} {o : Oper} (ho : ops[i]? = some o) : ∀ e ∈ o.after, e.on < i := by
  intro e he
  have hi : i < ops.size := (Array.getElem?_eq_some_iff.1 ho).1
  have h1 := List.all_eq_true.1 h i (List.mem_range.2 hi)
  rw [ho] at h1
  have h2 := List.all_eq_true.1 h1 e (by simpa using he)
  simpa using h2

section
variable {P : Program} {ops : Array Oper} {Q : Exit → Act → World → Prop}
abbrev Closed (ops : Array Oper) (L : Nat → Bool) : Prop := ∀ j o, ops[j]? = some o → L j = true → ∀ e ∈ o.after, Region.binds .any e = true → L e.on = true
theorem least_false {L : Nat → Bool} : ∀ (n : Nat), (∃ i, i < n ∧ L i = false) → ∃ i, i < n ∧ L i = false ∧ ∀ j, j < i → L j = true
  | 0, ⟨i, h, _⟩ => by omega
  | n + 1, ⟨i, hi, h⟩ => by
    by_cases hn : ∃ k, k < n ∧ L k = false
    · obtain ⟨k, h1, h2, h3⟩ := least_false n hn
      exact ⟨k, by omega, h2, h3⟩
    · have hin : i = n := by
        by_cases e : i = n
        · exact e
        · exact absurd ⟨i, by omega, h⟩ hn
      subst hin
      refine ⟨i, by omega, h, fun j hj => ?_⟩
      cases hL : L j
      · exact absurd ⟨j, hj, hL⟩ hn
      · rfl
theorem wpAny_inv (hwf : earlierB ops = true) (Inv : Nat → (Nat → Bool) → Act → World → Prop)
    (hstep : ∀ (fuel : Nat) (L : Nat → Bool) (a : Act) (w : World) (i : Nat) (o : Oper), ops[i]? = some o → L i = false → (∀ e ∈ o.after, Region.binds .any e = true → L e.on = true) → Closed ops L → Inv (fuel + 1) L a w →
      wpOp P ops Q i (fun a' w' => Inv fuel (setL L i) a' w') a w)
    (hext : ∀ (fuel : Nat) (L L' : Nat → Bool) (a : Act) (w : World), (∀ i, i < ops.size → L i = L' i) → Inv fuel L a w → Inv fuel L' a w)
    (hend : ∀ (L : Nat → Bool) (a : Act) (w : World), (∀ i, i < ops.size → L i = true) → Inv 0 L a w → Q .normal a w) :
    ∀ (fuel : Nat) (listed : Array Bool) (a : Act) (w : World), listed.size = ops.size → listed.toList.count false = fuel → Closed ops (fun j => listed.getD j false) → Inv fuel (fun j => listed.getD j false) a w → wpAny P .any ops Q fuel listed a w := by
  have all : ∀ (listed : Array Bool), listed.size = ops.size → listed.toList.count false = 0 → ∀ i, i < ops.size → listed.getD i false = true := by
    intro listed hs hc i hi
    have h := cnt_zero _ hc i (by simpa [hs] using hi)
    rw [Array.getD_eq_getD_getElem?, ← Array.getElem?_toList, h]; rfl
  intro fuel
  induction fuel with
  | zero =>
    intro listed a w hs hc _ hI
    refine ⟨?_, hend _ a w (all listed hs hc) hI⟩
    cases hr : Region.ready .any ops listed with
    | nil => rfl
    | cons j r =>
      have hj : j ∈ Region.ready .any ops listed := by rw [hr]; exact List.mem_cons_self
      obtain ⟨h0, o, ho, _⟩ := mem_ready.1 hj
      have hlt := (Array.getElem?_eq_some_iff.1 ho).1
      have h1 := all listed hs hc j hlt
      rw [Array.getD_eq_getD_getElem?, Array.getElem?_eq_getElem (by omega)] at h0 h1
      simp at h0 h1
      rw [h0] at h1; cases h1
  | succ fuel ih =>
    intro listed a w hs hc hcl hI
    refine ⟨fun hr => ?_, fun i hi => ?_⟩
    · exfalso
      have hex : ∃ i, i < ops.size ∧ listed.getD i false = false := by
        by_cases h : ∃ i, i < ops.size ∧ listed.getD i false = false
        · exact h
        · exfalso
          have h0 : listed.toList.count false = 0 := by
            rw [List.count_eq_zero]
            intro hm
            obtain ⟨k, hk, e⟩ := List.getElem_of_mem hm
            have hk' : k < listed.size := by simpa using hk
            refine h ⟨k, by omega, ?_⟩
            rw [Array.getD_eq_getD_getElem?, Array.getElem?_eq_getElem hk']
            simpa using e
          omega
      obtain ⟨i, hi, hf, hb⟩ := least_false ops.size hex
      have hil : i < listed.size := by omega
      have : i ∈ Region.ready .any ops listed := by
        rw [mem_ready]
        refine ⟨?_, ops[i], Array.getElem?_eq_getElem hi, fun e he _ => hb e.on (earlier_of hwf (Array.getElem?_eq_getElem hi) e he)⟩
        rw [Array.getD_eq_getD_getElem?, Array.getElem?_eq_getElem hil] at hf ⊢
        simpa using hf
      rw [hr] at this; cases this
    · obtain ⟨h0, o, ho, hall⟩ := mem_ready.1 hi
      have hlt := (Array.getElem?_eq_some_iff.1 ho).1
      have hil : i < listed.size := by omega
      have hfi : listed[i]? = some false := by
        rw [Array.getD_eq_getD_getElem?, Array.getElem?_eq_getElem hil] at h0
        rw [Array.getElem?_eq_getElem hil]; simpa using h0
      have hLf : listed.getD i false = false := by rw [Array.getD_eq_getD_getElem?, hfi]; rfl
      have hset : ∀ j, (listed.setIfInBounds i true).getD j false = setL (fun j => listed.getD j false) i j := by
        intro j
        by_cases e : j = i
        · subst e
          rw [setL_self, Array.getD_eq_getD_getElem?, Array.getElem?_setIfInBounds, if_pos rfl, if_pos hil]; rfl
        · rw [setL_ne e, Array.getD_eq_getD_getElem?, Array.getD_eq_getD_getElem?, Array.getElem?_setIfInBounds, if_neg (fun h => e h.symm)]
      refine wpOp_mono (fun a' w' hI' => ih _ a' w' (by simpa using hs) ?_ ?_ ?_) (hstep fuel _ a w i o ho hLf hall hcl hI)
      · have := cnt_set listed.toList i (by simpa using hfi)
        rw [Array.toList_setIfInBounds]
        omega
      · intro j o' ho' hj e he hb
        dsimp only at hj ⊢
        rw [hset] at hj
        by_cases ej : j = i
        · subst ej
          obtain rfl := Option.some.inj (ho.symm.trans ho')
          rw [hset]
          unfold setL
          split
          · rfl
          · exact hall e he hb
        · rw [setL_ne ej] at hj
          rw [hset]
          unfold setL
          split
          · rfl
          · exact hcl j o' ho' hj e he hb
      · exact hext _ _ _ _ _ (fun j _ => (hset j).symm) hI'
theorem wp_region_inv {id : Nat} {a : Act} {w : World} (hm : P.follows .mixedOrders = true) (hwf : earlierB ops = true) (Inv : Nat → (Nat → Bool) → Act → World → Prop)
    (h0 : Inv ops.size (fun _ => false) a w.drew)
    (hstep : ∀ (fuel : Nat) (L : Nat → Bool) (a : Act) (w : World) (i : Nat) (o : Oper), ops[i]? = some o → L i = false → (∀ e ∈ o.after, Region.binds .any e = true → L e.on = true) → Closed ops L → Inv (fuel + 1) L a w →
      wpOp P ops Q i (fun a' w' => Inv fuel (setL L i) a' w') a w)
    (hext : ∀ (fuel : Nat) (L L' : Nat → Bool) (a : Act) (w : World), (∀ i, i < ops.size → L i = L' i) → Inv fuel L a w → Inv fuel L' a w)
    (hend : ∀ (L : Nat → Bool) (a : Act) (w : World), (∀ i, i < ops.size → L i = true) → Inv 0 L a w → Q .normal a w) :
    (Code.region id ops true).wp P Q a w := by
  refine wp_region_any hm (wpAny_inv hwf Inv hstep hext hend _ _ _ _ (by simp) (by simp) ?_ ?_)
  · intro j o _ hj; dsimp only at hj
    rw [Array.getD_eq_getD_getElem?, Array.getElem?_replicate] at hj
    split at hj <;> simp at hj
  · refine hext _ (fun _ => false) _ _ _ (fun i hi => ?_) h0
    rw [Array.getD_eq_getD_getElem?, Array.getElem?_replicate, if_pos hi]; rfl
end
end Go.Proofs.YtfoeihbajichpaaDoor
