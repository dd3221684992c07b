/- Plain laws: the drivers of the plain data have no error; the program's search finds what the definition's does. -/
import Derived.Test.YtgkhenplbljbbaaDb
import Derived.Test.YtgkhenplbljbbaaWd
import Derived.Test.YtgkhenplbljbbaaWe
set_option linter.unusedVariables false
set_option linter.unusedSimpArgs false
set_option linter.unusedSectionVars false
namespace Go.Proofs.Ytgkhenplbljbbaa
open Go.RowKit

theorem pick_bitv {u k x : Int} (h : has u k = (u / k % 2 == 1)) : pick u k (bitv u k x) = bitv u k x := by
  unfold pick bitv; rw [h]; split <;> simp_all
theorem Rp.rule_good (r : Rp) (h : r.ok) : r.rule.bad = false := by
  obtain ⟨⟨h0, h1⟩, _⟩ := h
  have hu0 : 0 ≤ 1 + r.use % 31 := by omega
  have hu1 : 1 + r.use % 31 < 256 := by omega
  obtain ⟨n, hn⟩ := Int.eq_ofNat_of_zero_le hu0
  have hn2 : n < 256 := by omega
  show badR (1 + r.use % 31) _ _ _ _ _ = false
  have e16 := pick_bitv (x := 4660 + r.ids % 2) (has_16 ⟨n, hn2⟩)
  have e8 := pick_bitv (x := 7 + r.ids / 2 % 2) (has_8 ⟨n, hn2⟩)
  have e4 := pick_bitv (x := 3 + r.cls % 3) (has_4 ⟨n, hn2⟩)
  have e2 := pick_bitv (x := r.oth % 3) (has_2 ⟨n, hn2⟩)
  have e1 := pick_bitv (x := r.oth / 3 % 3) (has_1 ⟨n, hn2⟩)
  have b0 : ((1 + r.use % 31) == 0) = false := by simp; omega
  have b1 : decide (31 < 1 + r.use % 31) = false := by simp; omega
  unfold badR neqB
  rw [b0, b1]
  simp only [Rp.rule, rofR, hn] at *
  rw [e16, e8, e4, e2, e1]
  simp

/-- the rows of the plain data hold bytes -/
def rowsOk (x : List (List Rp)) : Prop := ∀ row ∈ x, ∀ r ∈ row, r.ok
theorem dOf_get {x : List (List Rp)} {k : Nat} {d : Drv} (h : (dOf x)[k]? = some d) : k < 6 ∧ ∃ row, x[k]? = some row ∧ d = drvOf k row := by
  unfold dOf at h
  rw [List.getElem?_mapIdx] at h
  cases h' : (x.take 6)[k]? with
  | none => rw [h'] at h; simp at h
  | some row =>
    rw [h'] at h
    have hk : k < 6 := by have := (List.getElem?_eq_some_iff.1 h').1; simp at this; omega
    rw [List.getElem?_take_of_lt hk] at h'
    exact ⟨hk, row, h', by simpa using h.symm⟩
theorem dOf_len (x : List (List Rp)) : (dOf x).length ≤ 6 := by unfold dOf; simp; omega
theorem drvOf_rules {x : List (List Rp)} (hx : rowsOk x) {k : Nat} {row : List Rp} (hr : x[k]? = some row) : ∀ r ∈ (drvOf k row).rules, r.ok ∧ r.bad = false := by
  intro r h
  obtain ⟨p, hp, rfl⟩ := List.mem_map.1 h
  have hok := hx row (List.mem_of_getElem? hr) p (List.mem_of_mem_take hp)
  exact ⟨p.rule_ok hok, p.rule_good hok⟩
theorem names_apart : ∀ i j : Fin 6, sameB (nameD i.val) (nameD j.val) = decide (i = j) := by decide +kernel
theorem names_good : ∀ i : Fin 6, badName (nameD i.val) = false := by decide +kernel
theorem dOf_one {x : List (List Rp)} (hx : rowsOk x) {k : Nat} {d : Drv} (h : (dOf x)[k]? = some d) : oneErr (dOf x) k d = 0 := by
  obtain ⟨hk, row, hr, rfl⟩ := dOf_get h
  refine oneErr_ok ?_ ?_
  · have h1 := names_good ⟨k, hk⟩
    have h2 : (drvOf k row).rules.any Rule.bad = false := by
      rw [List.any_eq_false]; intro r hr'; rw [(drvOf_rules hx hr r hr').2]; simp
    show (badName (nameD k) || (drvOf k row).rules.any Rule.bad) = false
    rw [h2]; simpa using h1
  · rw [List.any_eq_false]
    intro nm hnm
    obtain ⟨d, hd, rfl⟩ := List.mem_map.1 hnm
    obtain ⟨j, hj, e⟩ := List.getElem_of_mem hd
    have hjk : j < k := by simp at hj; omega
    have h3 : (dOf x)[j]? = some d := by rw [← e, List.getElem_take]; exact List.getElem?_eq_getElem _
    obtain ⟨hj6, row', _, rfl⟩ := dOf_get h3
    have := names_apart ⟨j, hj6⟩ ⟨k, hk⟩
    show ¬ sameB (nameD j) (nameD k) = true
    rw [show sameB (nameD j) (nameD k) = _ from this]
    simp; omega
theorem errFrom_zero {l : List Drv} (h : ∀ k d, l[k]? = some d → oneErr l k d = 0) : ∀ f k, errFrom l f k = 0
  | 0, _ => rfl
  | f + 1, k => by
    unfold errFrom
    cases e : l[k]? with
    | none => rfl
    | some d => simp [h k d e, errFrom_zero h f (k + 1)]
/-- the drivers of the plain data have no error -/
theorem check_dOf {x : List (List Rp)} (hx : rowsOk x) : checkS (dOf x) = 0 := by
  have h1 := dOf_len x
  have h2 : (dOf x).any Drv.many = false := by
    rw [List.any_eq_false]; intro d hd
    obtain ⟨k, hk, e⟩ := List.getElem_of_mem hd
    obtain ⟨_, row, _, rfl⟩ := dOf_get (by rw [List.getElem?_eq_getElem hk, e] : (dOf x)[k]? = some d)
    simp [Drv.many, drvOf]; omega
  unfold checkS
  rw [h2, if_neg (by simp; omega)]
  exact errFrom_zero (fun k d h => dOf_one hx h) _ _

/-- all rules of a list -/
def allR (l : List Drv) (p : Nat → Nat → Rule → Prop) : Prop := ∀ k d j r, l[k]? = some d → d.rules[j]? = some r → p k j r
/-- what the loops of Match keep -/
def Inv (sc : Rule → Int) (l : List Drv) (k j : Nat) (a : Int × Int) : Prop :=
  allR l (fun k' j' r => (k' < k ∨ k' = k ∧ j' < j) → sc r ≤ a.2) ∧
  ((a.1 = -1 ∧ a.2 = -1) ∨ ∃ (ka ja : Nat) (d : Drv) (r : Rule), a.1 = ka ∧ l[ka]? = some d ∧ d.rules[ja]? = some r ∧ sc r = a.2 ∧ 0 ≤ a.2 ∧ allR l (fun k' _ r => k' < ka → sc r < a.2))
theorem Inv.step {sc : Rule → Int} {l : List Drv} {k j : Nat} {a : Int × Int} {d : Drv} {r : Rule} (hd : l[k]? = some d) (hr : d.rules[j]? = some r) (h : Inv sc l k j a) : Inv sc l k (j + 1) (stepR sc k d.rules j a) := by
  obtain ⟨h1, h2⟩ := h
  have ha : -1 ≤ a.2 := by rcases h2 with ⟨_, h⟩ | ⟨_, _, _, _, _, _, _, _, h, _⟩ <;> omega
  by_cases hlt : a.2 < sc r
  · rw [stepR_yes hr hlt]
    refine ⟨fun k' d' j' r' hd' hr' hlt' => ?_, .inr ⟨k, j, d, r, rfl, hd, hr, rfl, by show 0 ≤ sc r; omega, fun k' d' j' r' hd' hr' hk' => ?_⟩⟩
    · show sc r' ≤ sc r
      by_cases e : k' = k ∧ j' = j
      · obtain ⟨rfl, rfl⟩ := e
        rw [hd] at hd'; injection hd' with e; subst e
        rw [hr] at hr'; injection hr' with e; subst e
        exact Int.le_refl _
      · have := h1 k' d' j' r' hd' hr' (by omega); omega
    · show sc r' < sc r
      have := h1 k' d' j' r' hd' hr' (.inl hk'); omega
  · rw [stepR_no hr hlt]
    refine ⟨fun k' d' j' r' hd' hr' hlt' => ?_, h2⟩
    by_cases e : k' = k ∧ j' = j
    · obtain ⟨rfl, rfl⟩ := e
      rw [hd] at hd'; injection hd' with e; subst e
      rw [hr] at hr'; injection hr' with e; subst e
      omega
    · exact h1 k' d' j' r' hd' hr' (by omega)
theorem Inv.inner {sc : Rule → Int} {l : List Drv} {k : Nat} {a : Int × Int} {d : Drv} (hd : l[k]? = some d) (h : Inv sc l k 0 a) : Inv sc l (k + 1) 0 (upTo (stepR sc k d.rules) a d.rules.length) := by
  have h1 : Inv sc l k d.rules.length (upTo (stepR sc k d.rules) a d.rules.length) :=
    upTo_inv (fun j x => Inv sc l k j x) h d.rules.length (fun j x hj hx => hx.step hd (List.getElem?_eq_getElem hj))
  refine ⟨fun k' d' j' r' hd' hr' hlt => ?_, h1.2⟩
  refine h1.1 k' d' j' r' hd' hr' ?_
  by_cases e : k' = k
  · subst e
    rw [hd] at hd'; injection hd' with e; subst e
    exact .inr ⟨rfl, (List.getElem?_eq_some_iff.1 hr').1⟩
  · exact .inl (by omega)
theorem Inv.all (sc : Rule → Int) (l : List Drv) : Inv sc l l.length 0 (matchS sc l) := by
  refine upTo_inv (fun k x => Inv sc l k 0 x) ⟨fun k' d j r _ _ h => by omega, .inl ⟨rfl, rfl⟩⟩ l.length (fun k x hk hx => ?_)
  rw [stepD_some (List.getElem?_eq_getElem hk)]
  exact hx.inner (List.getElem?_eq_getElem hk)
/-- the two searches agree -/
theorem best_eq {sc : Rule → Int} {l : List Drv} {a b : Int} (h : isBest sc l a b) (hs : allR l (fun _ _ r => -1 ≤ sc r ∧ sc r < 256)) : a = (matchS sc l).1 ∧ b = (matchS sc l).2 := by
  obtain ⟨h1, h2⟩ := Inv.all sc l
  have hk : ∀ {k : Nat} {d : Drv} {j : Nat} {r : Rule}, l[k]? = some d → d.rules[j]? = some r → sc r ≤ (matchS sc l).2 := fun hd hr => h1 _ _ _ _ hd hr (.inl (List.getElem?_eq_some_iff.1 hd).1)
  have hn : ∀ {n : Int}, noneOver sc n l → ∀ {k : Nat} {d : Drv} {j : Nat} {r : Rule}, l[k]? = some d → d.rules[j]? = some r → n < sc r → False := fun hno k d j r hd hr hlt =>
    hno (sc r) hlt (by have := (hs k d j r hd hr).2; omega) k d (List.getElem?_eq_some_iff.1 hd).1 hd j r (List.getElem?_eq_some_iff.1 hr).1 hr rfl
  rcases h with ⟨rfl, rfl, hno⟩ | ⟨k, j, d, r, rfl, hd, hr, rfl, h0, h255, hin, hov⟩
  · rcases h2 with ⟨e1, e2⟩ | ⟨ka, ja, d, r, e1, hd, hr, hsc, h0, hfst⟩
    · exact ⟨e1.symm, e2.symm⟩
    · exact (hn hno hd hr (by omega)).elim
  · have hle := hk hd hr
    rcases h2 with ⟨e1, e2⟩ | ⟨ka, ja, d', r', e1, hd', hr', hsc, h0', hfst⟩
    · omega
    · have e2 : sc r = (matchS sc l).2 := by
        rcases Int.lt_or_eq_of_le hle with h | h
        · exact (hn hov hd' hr' (by omega)).elim
        · exact h
      refine ⟨?_, e2⟩
      rw [e1]
      have a1 : ¬ k < ka := fun hlt => by have := hfst k d j r hd hr hlt; omega
      have a2 : ¬ ka < k := fun hlt => hin ka d' hlt hd' ja r' (List.getElem?_eq_some_iff.1 hr').1 hr' (by omega)
      omega
theorem upTo_congr {α : Type} {f g : Nat → α → α} {a : α} : ∀ (n : Nat), (∀ k x, k < n → f k x = g k x) → upTo f a n = upTo g a n
  | 0, _ => rfl
  | n + 1, h => by rw [upTo_succ, upTo_succ, upTo_congr n (fun k x hk => h k x (by omega)), h n _ (by omega)]
theorem matchS_congr {sc sc' : Rule → Int} {l : List Drv} (h : allR l (fun _ _ r => sc r = sc' r)) : matchS sc l = matchS sc' l := by
  refine upTo_congr l.length (fun k x hk => ?_)
  rw [stepD_some (List.getElem?_eq_getElem hk), stepD_some (List.getElem?_eq_getElem hk)]
  refine upTo_congr _ (fun j y hj => ?_)
  have e := h k _ j _ (List.getElem?_eq_getElem hk) (List.getElem?_eq_getElem hj)
  unfold stepR
  rw [List.getElem?_eq_getElem hj]
  simp only [e]
theorem dOf_rules {x : List (List Rp)} (hx : rowsOk x) : allR (dOf x) (fun _ _ r => r.ok) := by
  intro k d j r hd hr
  obtain ⟨_, row, hrow, rfl⟩ := dOf_get hd
  exact (drvOf_rules hx hrow r (List.mem_of_getElem? hr)).1
/-- what the definition's match returns is what Match returns -/
theorem match_same {l : List Drv} (hl : allR l (fun _ _ r => r.ok)) {d5 d6 i3 i4 i5 a b : Int} (h : isBest (fun r => scoreL r.use r.vendor r.product r.cls r.sub r.proto d5 d6 i3 i4 i5) l a b) :
    a = (matchS (fun r => r.score d5 d6 i3 i4 i5) l).1 ∧ b = (matchS (fun r => r.score d5 d6 i3 i4 i5) l).2 := by
  have e : matchS (fun r => r.score d5 d6 i3 i4 i5) l = matchS (fun r => scoreL r.use r.vendor r.product r.cls r.sub r.proto d5 d6 i3 i4 i5) l :=
    matchS_congr (fun k d j r hd hr => score_eq _ _ _ _ _ _ _ _ _ _ _ (hl k d j r hd hr).1 (hl k d j r hd hr).2)
  rw [e]
  refine best_eq h (fun k d j r hd hr => ?_)
  have := r.score_le (hl k d j r hd hr) d5 d6 i3 i4 i5
  unfold Rule.score at this
  rwa [score_eq _ _ _ _ _ _ _ _ _ _ _ (hl k d j r hd hr).1 (hl k d j r hd hr).2] at this
end Go.Proofs.Ytgkhenplbljbbaa
