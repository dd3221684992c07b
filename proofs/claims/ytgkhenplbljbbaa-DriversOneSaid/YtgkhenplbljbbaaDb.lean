/- Searching a list; valid rules and drivers; the first error of a list of drivers, as plain data. No condition; nothing of the program. -/
import Derived.Test.YtgkhenplbljbbaaDa
set_option linter.unusedVariables false
set_option linter.unusedSimpArgs false
set_option linter.unusedSectionVars false
namespace Go.Proofs.Ytgkhenplbljbbaa
open Go.RowKit

/-- the place of the first element of which p holds, or -1 -/
def idxS {α : Type} (p : α → Bool) (l : List α) : Int := match l.findIdx? p with | some i => (i : Int) | none => -1
theorem idxS_found {α : Type} {p : α → Bool} {l : List α} {k : Nat} {x : α} (hx : l[k]? = some x) (hp : p x = true) (hb : ∀ (j : Nat) (y : α), j < k → l[j]? = some y → p y = false) : idxS p l = k := by
  obtain ⟨hk, e⟩ := List.getElem?_eq_some_iff.1 hx
  have : l.findIdx? p = some k := by
    rw [List.findIdx?_eq_some_iff_getElem]
    exact ⟨hk, by rw [e]; exact hp, fun j hj => by rw [hb j _ hj (List.getElem?_eq_getElem (by omega))]; simp⟩
  simp [idxS, this]
theorem idxS_none {α : Type} {p : α → Bool} {l : List α} (hb : ∀ (j : Nat) (y : α), j < l.length → l[j]? = some y → p y = false) : idxS p l = -1 := by
  have : l.findIdx? p = none := by
    rw [List.findIdx?_eq_none_iff]
    intro x hx
    obtain ⟨j, hj, e⟩ := List.getElem_of_mem hx
    rw [← e]
    exact hb j _ hj (List.getElem?_eq_getElem hj)
  simp [idxS, this]
theorem idxS_any {α : Type} (p : α → Bool) (l : List α) : decide (0 ≤ idxS p l) = l.any p := by
  unfold idxS
  cases h : l.findIdx? p with
  | none =>
    rw [List.findIdx?_eq_none_iff] at h
    have : l.any p = false := by simpa using h
    simp [this]
  | some i =>
    have h1 := (List.findIdx?_eq_some_iff_getElem.1 h)
    obtain ⟨hi, hp, _⟩ := h1
    have : l.any p = true := List.any_eq_true.2 ⟨l[i], List.getElem_mem hi, hp⟩
    simp [this]
theorem clear_succ {α : Type} {p : α → Bool} {l : List α} {k : Nat} {x : α} (hx : l[k]? = some x) (hp : p x = false) (hb : ∀ (j : Nat) (y : α), j < k → l[j]? = some y → p y = false) :
    ∀ (j : Nat) (y : α), j < k + 1 → l[j]? = some y → p y = false := by
  intro j y hj hy
  by_cases e : j = k
  · subst e; rw [hx] at hy; injection hy with e; rw [← e]; exact hp
  · exact hb j y (by omega) hy

/-- a rule that is not valid -/
def badR (u v p c s q : Int) : Bool := u == 0 || decide (31 < u) || neqB u v p c s q u (pick u 16 v) (pick u 8 p) (pick u 4 c) (pick u 2 s) (pick u 1 q)
def Rule.bad (r : Rule) : Bool := badR r.use r.vendor r.product r.cls r.sub r.proto
/-- a byte of a name that is not valid -/
def badC (c : UInt8) : Bool := decide (c.toNat ≤ 32) || decide (126 < c.toNat)
def badName (s : ByteArray) : Bool := s.size == 0 || decide (32 < s.size) || s.data.toList.any badC
def Drv.bad (d : Drv) : Bool := badName d.name || d.rules.any Rule.bad
def Drv.many (d : Drv) : Bool := decide (32 < d.rules.length)
/-- the error of driver k -/
def oneErr (l : List Drv) (k : Nat) (d : Drv) : Int := if d.bad then 1 else if (l.take k).any (fun x => sameB x.name d.name) then 8 else 0
/-- the first error from driver k on, of so many -/
def errFrom (l : List Drv) : Nat → Nat → Int
  | 0, _ => 0
  | f + 1, k => match l[k]? with
    | some d => if oneErr l k d = 0 then errFrom l f (k + 1) else oneErr l k d
    | none => 0
/-- the error of a list of drivers -/
def firstErr (l : List Drv) : Int := errFrom l l.length 0
theorem errFrom_no {l : List Drv} {f k : Nat} {d : Drv} (hd : l[k]? = some d) (h : oneErr l k d = 0) : errFrom l (f + 1) k = errFrom l f (k + 1) := by simp [errFrom, hd, h]
theorem errFrom_yes {l : List Drv} {f k : Nat} {d : Drv} {e : Int} (hd : l[k]? = some d) (h : oneErr l k d = e) (he : e ≠ 0) : errFrom l (f + 1) k = e := by simp [errFrom, hd, h, he]
theorem oneErr_bad {l : List Drv} {k : Nat} {d : Drv} (h : d.bad = true) : oneErr l k d = 1 := by simp [oneErr, h]
theorem oneErr_dup {l : List Drv} {k : Nat} {d : Drv} (h : d.bad = false) (h2 : ((l.take k).map Drv.name).any (fun x => sameB x d.name) = true) : oneErr l k d = 8 := by
  rw [List.any_map] at h2
  unfold oneErr; rw [h, if_neg (by simp), if_pos (by exact h2)]
theorem oneErr_ok {l : List Drv} {k : Nat} {d : Drv} (h : d.bad = false) (h2 : ((l.take k).map Drv.name).any (fun x => sameB x d.name) = false) : oneErr l k d = 0 := by
  rw [List.any_map] at h2
  have h3 : ((l.take k).any (fun x => sameB x.name d.name)) = false := h2
  unfold oneErr; rw [h, h3]; simp
def checkS (l : List Drv) : Int := if 64 < l.length || l.any Drv.many then 3 else firstErr l
end Go.Proofs.Ytgkhenplbljbbaa
