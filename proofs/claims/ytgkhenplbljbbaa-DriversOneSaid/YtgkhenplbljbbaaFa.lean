/- The law's own check of a driver is the program's, as plain data; the first error of a list, step by step. No condition; nothing of the program. -/
import Derived.Test.YtgkhenplbljbbaaDb
set_option linter.unusedVariables false
set_option linter.unusedSimpArgs false
set_option linter.unusedSectionVars false
namespace Go.Proofs.Ytgkhenplbljbbaa
open Go.RowKit

/-- a rule that the law does not take -/
def lbadR (u v p c s q : Int) : Bool :=
  decide (u < 1) || decide (31 < u) || (u / 16 % 2 == 0 && v != 0) || (u / 8 % 2 == 0 && p != 0) || (u / 4 % 2 == 0 && c != 0) || (u / 2 % 2 == 0 && s != 0) || (u % 2 == 0 && q != 0)
theorem pick_self {u k v : Int} (h : has u k = (u / k % 2 == 1)) : decide (v = pick u k v) = !(u / k % 2 == 0 && v != 0) := by
  unfold pick
  rw [h]
  have h2 : u / k % 2 = 0 ∨ u / k % 2 = 1 := by omega
  rcases h2 with h2 | h2
  · rw [h2]; by_cases hv : v = 0 <;> simp [hv]
  · rw [h2]; simp
theorem lbad_eq (u v p c s q : Int) (h0 : 0 ≤ u) (h1 : u < 256) : badR u v p c s q = lbadR u v p c s q := by
  obtain ⟨n, rfl⟩ := Int.eq_ofNat_of_zero_le h0
  have e16 := pick_self (v := v) (has_16 ⟨n, by omega⟩)
  have e8 := pick_self (v := p) (has_8 ⟨n, by omega⟩)
  have e4 := pick_self (v := c) (has_4 ⟨n, by omega⟩)
  have e2 := pick_self (v := s) (has_2 ⟨n, by omega⟩)
  have e1 := pick_self (v := q) (has_1 ⟨n, by omega⟩)
  rw [Int.ediv_one] at e1
  have hu : ((n : Int) == 0) = decide ((n : Int) < 1) := by rw [Bool.eq_iff_iff]; simp; omega
  unfold badR lbadR neqB
  simp only [Bool.decide_and, e16, e8, e4, e2, e1, hu]
  cases decide ((n : Int) < 1) <;> cases decide (31 < (n : Int)) <;> simp [Bool.or_assoc]
/-- the first error among the first k drivers -/
def errTo (l : List Drv) : Nat → Int
  | 0 => 0
  | k + 1 => if errTo l k = 0 then (match l[k]? with | some d => oneErr l k d | none => 0) else errTo l k
theorem errTo_yes {l : List Drv} {k : Nat} {d : Drv} (hd : l[k]? = some d) (h : errTo l k = 0) : errTo l (k + 1) = oneErr l k d := by simp [errTo, h, hd]
theorem errTo_no {l : List Drv} {k : Nat} (h : errTo l k ≠ 0) : errTo l (k + 1) = errTo l k := by simp [errTo, h]
theorem errTo_from (l : List Drv) : ∀ (f k : Nat), k + f = l.length → errTo l l.length = if errTo l k = 0 then errFrom l f k else errTo l k
  | 0, k, h => by
    have e : k = l.length := by omega
    subst e
    simp only [errFrom]
    split
    · assumption
    · rfl
  | f + 1, k, h => by
    have ih := errTo_from l f (k + 1) (by omega)
    have hk : k < l.length := by omega
    have hd : l[k]? = some l[k] := List.getElem?_eq_getElem hk
    by_cases h0 : errTo l k = 0
    · rw [if_pos h0]
      rw [errTo_yes hd h0] at ih
      by_cases h1 : oneErr l k l[k] = 0
      · rw [ih, if_pos h1, errFrom_no hd h1]
      · rw [ih, if_neg h1, errFrom_yes hd rfl h1]
    · rw [if_neg h0]
      rw [errTo_no h0, if_neg h0] at ih
      exact ih
theorem errTo_first (l : List Drv) : errTo l l.length = firstErr l := by
  have := errTo_from l l.length 0 (by omega)
  rw [this]
  simp [errTo, firstErr]
/-- behind the second loop -/
def wantTo (l : List Drv) (z : Int) : Nat → Int
  | 0 => z
  | k + 1 => match l[k]? with
    | some d => if 64 < l.length ∨ 32 < d.rules.length then 3 else wantTo l z k
    | none => wantTo l z k
theorem wantTo_yes {l : List Drv} {z : Int} {k : Nat} {d : Drv} (hd : l[k]? = some d) (h : 32 < d.rules.length ∨ 64 < l.length) : wantTo l z (k + 1) = 3 := by
  simp only [wantTo, hd]; exact if_pos h.symm
theorem wantTo_no {l : List Drv} {z : Int} {k : Nat} {d : Drv} (hd : l[k]? = some d) (h : ¬ 32 < d.rules.length) (h' : ¬ 64 < l.length) : wantTo l z (k + 1) = wantTo l z k := by
  simp only [wantTo, hd]
  refine if_neg ?_
  rintro (h1 | h1)
  · exact h' h1
  · exact h h1
theorem wantTo_any (l : List Drv) (z : Int) : ∀ k, k ≤ l.length → wantTo l z k = if (64 < l.length ∧ 0 < k) ∨ (l.take k).any Drv.many = true then 3 else z
  | 0, _ => by simp [wantTo]
  | k + 1, h => by
    have hk : k < l.length := by omega
    have hd : l[k]? = some l[k] := List.getElem?_eq_getElem hk
    have ih := wantTo_any l z k (by omega)
    have ht : l.take (k + 1) = l.take k ++ [l[k]] := by rw [List.take_succ_eq_append_getElem hk]
    rw [ht, List.any_append]
    by_cases h1 : 32 < l[k].rules.length ∨ 64 < l.length
    · rw [wantTo_yes hd h1, if_pos]
      rcases h1 with h1 | h1
      · right; simp [Drv.many, h1]
      · left; exact ⟨h1, by omega⟩
    · have h2 : ¬ 32 < l[k].rules.length := fun h => h1 (.inl h)
      have h3 : ¬ 64 < l.length := fun h => h1 (.inr h)
      rw [wantTo_no hd h2 h3, ih]
      have hm : Drv.many l[k] = false := by simp [Drv.many]; omega
      simp [h3, hm]
/-- what the law wants -/
theorem want_eq (l : List Drv) : wantTo l (errTo l l.length) l.length = checkS l := by
  rw [wantTo_any l _ l.length (Nat.le_refl _), errTo_first, List.take_length]
  unfold checkS
  by_cases h : 64 < l.length
  · rw [if_pos (.inl ⟨h, by omega⟩), if_pos (by simp [h])]
  · by_cases h2 : l.any Drv.many = true
    · rw [if_pos (.inr h2), if_pos (by simp [h2])]
    · have hn : ¬ ((64 < l.length ∧ 0 < l.length) ∨ l.any Drv.many = true) := by
        rintro (⟨h3, _⟩ | h3)
        · exact h h3
        · exact h2 h3
      rw [if_neg hn, if_neg (by simp only [Bool.or_eq_true, decide_eq_true_eq]; rintro (h3 | h3); exact h h3; exact h2 h3)]
end Go.Proofs.Ytgkhenplbljbbaa
