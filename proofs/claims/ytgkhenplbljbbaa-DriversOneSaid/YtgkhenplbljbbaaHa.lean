/- Bindings of drivers, and sorting a short list, as plain data. No condition; nothing of the program. -/
import Derived.Test.YtgkhenplbljbbaaEa
import Derived.Test.YtgkhenplbljbbaaEh
set_option linter.unusedVariables false
set_option linter.unusedSimpArgs false
set_option linter.unusedSectionVars false
namespace Go.Proofs.Ytgkhenplbljbbaa
open Go.RowKit

/-- an interface that a driver has -/
structure Bind where
  a : Int
  i : Int
  d : ByteArray
def Bind.cells (b : Bind) : List Value := [.int .u8 b.a, .int .i64 b.i, .string b.d]
def bdT : Ty Bind := Ty.flat 3 Bind.cells (fun b => b.d.size ≤ maxLen) (fun _ => rfl)
/-- what is attached at each address -/
abbrev St := Nat → Option (Int × List Int)
def nameAt (l : List Drv) (k : Int) : ByteArray := ((l[k.toNat]?).map Drv.name).getD ByteArray.empty
theorem nameAt_get {l : List Drv} {k : Nat} {d : Drv} (h : l[k]? = some d) : nameAt l (k : Int) = d.name := by simp [nameAt, h]
/-- the bindings of the first k interfaces -/
def bindTo (l : List Drv) (n : Int) (L : List Int) : Nat → List Bind
  | 0 => []
  | k + 1 => match L[k]? with
    | some x => if 0 ≤ x then bindTo l n L k ++ [⟨n, k, nameAt l x⟩] else bindTo l n L k
    | none => bindTo l n L k
theorem bindTo_yes {l : List Drv} {n : Int} {L : List Int} {k : Nat} {x : Int} (hx : L[k]? = some x) (h : 0 ≤ x) : bindTo l n L (k + 1) = bindTo l n L k ++ [⟨n, k, nameAt l x⟩] := by simp [bindTo, hx, h]
theorem bindTo_no {l : List Drv} {n : Int} {L : List Int} {k : Nat} {x : Int} (hx : L[k]? = some x) (h : ¬ 0 ≤ x) : bindTo l n L (k + 1) = bindTo l n L k := by simp [bindTo, hx, h]
theorem bindTo_len (l : List Drv) (n : Int) (L : List Int) : ∀ k, (bindTo l n L k).length ≤ k
  | 0 => by simp [bindTo]
  | k + 1 => by
    have ih := bindTo_len l n L k
    unfold bindTo
    split
    · split <;> simp <;> omega
    · omega
def bindS (l : List Drv) (n : Int) (s : Option (Int × List Int)) : List Bind := match s with | none => [] | some c => bindTo l n c.2 c.2.length
/-- the choices speak of drivers that are there -/
def GoodC (l : List Drv) (s : Option (Int × List Int)) : Prop := ∀ c, s = some c → c.2.length ≤ 5 ∧ ∀ x ∈ c.2, x < l.length
theorem bindS_len {l : List Drv} {n : Int} {s : Option (Int × List Int)} (h : GoodC l s) : (bindS l n s).length ≤ 5 := by
  cases s with
  | none => simp [bindS]
  | some c => exact Nat.le_trans (bindTo_len _ _ _ _) (h c rfl).1
theorem filter_succ {α : Type} {p : α → Bool} {l : List α} {k : Nat} {x : α} (hx : l[k]? = some x) : (l.take (k + 1)).filter p = (l.take k).filter p ++ (if p x then [x] else []) := by
  obtain ⟨hk, e⟩ := List.getElem?_eq_some_iff.1 hx
  rw [List.take_succ_eq_append_getElem hk, List.filter_append, e]
  cases h : p x <;> simp [h]
theorem flatMap_succ {α β : Type} {f : α → List β} {l : List α} {k : Nat} {x : α} (hx : l[k]? = some x) : (l.take (k + 1)).flatMap f = (l.take k).flatMap f ++ f x := by
  obtain ⟨hk, e⟩ := List.getElem?_eq_some_iff.1 hx
  rw [List.take_succ_eq_append_getElem hk, List.flatMap_append, e]
  simp
/-- what a driver has, of some addresses -/
def ofS (l : List Drv) (S : St) (s : ByteArray) (ks : List Nat) : List Bind := ks.flatMap (fun n : Nat => (bindS l n (S n)).filter (fun b => sameB b.d s))
theorem ofS_len {l : List Drv} {S : St} (h : ∀ n, GoodC l (S n)) (s : ByteArray) : ∀ ks : List Nat, (ofS l S s ks).length ≤ 5 * ks.length
  | [] => by simp [ofS]
  | n :: ks => by
    have ih := ofS_len h s ks
    have h1 := bindS_len (n := n) (h n)
    have h2 := List.length_filter_le (fun b : Bind => sameB b.d s) (bindS l n (S n))
    have e : ofS l S s (n :: ks) = (bindS l n (S n)).filter (fun b => sameB b.d s) ++ ofS l S s ks := rfl
    rw [e, List.length_append, List.length_cons]
    omega
/-- the addresses that are there, among the first ones -/
def keysTo (S : St) (n : Nat) : List Nat := (List.range n).filter (fun k => (S k).isSome)
theorem ofS_keys (l : List Drv) (S : St) (s : ByteArray) : ∀ ks : List Nat, ofS l S s (ks.filter (fun k => (S k).isSome)) = ofS l S s ks
  | [] => rfl
  | n :: ks => by
    have ih := ofS_keys l S s ks
    have e : ofS l S s (n :: ks) = (bindS l n (S n)).filter (fun b => sameB b.d s) ++ ofS l S s ks := rfl
    rw [List.filter_cons]
    cases h : S n with
    | none => rw [if_neg (by simp), ih, e, h]; simp [bindS]
    | some c =>
      rw [if_pos (by simp), e, ← ih]; rfl

/-- one step of the sort by insertion: what is known of a list when its element j is yet to go down -/
def Ins (ys : List Int) (i j : Nat) : Prop := ∀ a b x y, a < b → b ≤ i → b ≠ j → ys[a]? = some x → ys[b]? = some y → x ≤ y
def swapL (ys : List Int) (j : Nat) (x y : Int) : List Int := (ys.set j x).set (j - 1) y
theorem swap_perm {ys : List Int} {j : Nat} {x y : Int} (hj : 0 < j) (hy : ys[j]? = some y) (hx : ys[j - 1]? = some x) : (swapL ys j x y).Perm ys := by
  obtain ⟨h1, e1⟩ := List.getElem?_eq_some_iff.1 hy
  obtain ⟨h2, e2⟩ := List.getElem?_eq_some_iff.1 hx
  unfold swapL
  have := List.set_set_perm h1 h2
  rw [e2, e1] at this
  exact this
theorem swap_ins {ys : List Int} {i j : Nat} {x y : Int} (hj : 0 < j) (hji : j ≤ i) (hy : ys[j]? = some y) (hx : ys[j - 1]? = some x) (hlt : y < x) (h : Ins ys i j) : Ins (swapL ys j x y) i (j - 1) := by
  obtain ⟨h1, e1⟩ := List.getElem?_eq_some_iff.1 hy
  obtain ⟨h2, e2⟩ := List.getElem?_eq_some_iff.1 hx
  have hg : ∀ k, (swapL ys j x y)[k]? = if k = j - 1 then some y else if k = j then some x else ys[k]? := by
    intro k
    unfold swapL
    rw [List.getElem?_set, List.getElem?_set]
    by_cases ha : k = j - 1
    · rw [if_pos ha.symm, if_pos ha, if_pos (by simp; omega)]
    · rw [if_neg (fun e => ha e.symm), if_neg ha]
      by_cases hb : k = j
      · rw [if_pos hb.symm, if_pos hb, if_pos h1]
      · rw [if_neg (fun e => hb e.symm), if_neg hb]
  intro a b u v hab hbi hbj hu hv
  rw [hg] at hu hv
  rw [if_neg hbj] at hv
  by_cases hb : b = j
  · rw [if_pos hb] at hv
    injection hv with hv
    subst hv hb
    by_cases ha : a = b - 1
    · rw [if_pos ha] at hu; injection hu with hu; omega
    · rw [if_neg ha, if_neg (by omega)] at hu
      exact h a (b - 1) u x (by omega) (by omega) (by omega) hu hx
  · rw [if_neg hb] at hv
    by_cases ha : a = j - 1
    · rw [if_pos ha] at hu
      injection hu with hu
      subst hu
      exact h j b y v (by omega) hbi hb hy hv
    · rw [if_neg ha] at hu
      by_cases ha2 : a = j
      · rw [if_pos ha2] at hu
        injection hu with hu
        subst hu
        exact h (j - 1) b x v (by omega) hbi hb hx hv
      · rw [if_neg ha2] at hu
        exact h a b u v hab hbi hb hu hv
theorem ins_stop {ys : List Int} {i j : Nat} (h : Ins ys i j) (hs : j = 0 ∨ ∀ x y, ys[j - 1]? = some x → ys[j]? = some y → x ≤ y) (hji : j ≤ i) (hi : i < ys.length) : Ins ys (i + 1) (i + 1) := by
  intro a b x y hab hbi hbn hx hy
  by_cases hb : b = j
  · subst hb
    rcases hs with hs | hs
    · omega
    · by_cases ha : a = b - 1
      · subst ha; exact hs x y hx hy
      · have hb1 : b - 1 < ys.length := by omega
        have h1 := hs _ y (List.getElem?_eq_getElem hb1) hy
        have h2 := h a (b - 1) x _ (by omega) (by omega) (by omega) hx (List.getElem?_eq_getElem hb1)
        omega
  · exact h a b x y hab (by omega) hb hx hy
theorem ins_start (ys : List Int) : Ins ys 1 1 := by
  intro a b x y hab hb hbn _ _
  omega
theorem ins_sorted {ys : List Int} (h : Ins ys ys.length ys.length) : ys.Pairwise (· ≤ ·) := by
  rw [List.pairwise_iff_getElem]
  intro i j hi hj hij
  exact h i j _ _ hij (by omega) (by omega) (List.getElem?_eq_getElem hi) (List.getElem?_eq_getElem hj)
theorem keys_sorted (S : St) (n : Nat) : ((keysTo S n).map (fun k : Nat => (k : Int))).Pairwise (· ≤ ·) := by
  rw [List.pairwise_map]
  have h : (List.range n).Pairwise (fun a b => a < b) := List.pairwise_lt_range
  exact (h.filter _).imp (fun h => by omega)
theorem perm_sorted {xs ys : List Int} (h : xs.Perm ys) (hx : xs.Pairwise (· ≤ ·)) (hy : ys.Pairwise (· ≤ ·)) : xs = ys :=
  h.eq_of_pairwise (fun a b _ _ h1 h2 => by omega) hx hy
end Go.Proofs.Ytgkhenplbljbbaa
