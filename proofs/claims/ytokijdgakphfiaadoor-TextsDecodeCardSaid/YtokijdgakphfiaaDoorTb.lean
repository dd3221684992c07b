/- Units of characters, and back. No condition; nothing of the program. -/
import Derived.Test.YtokijdgakphfiaaDoorTa
namespace Go.Proofs.YtokijdgakphfiaaDoor

/-- the units of a character -/
def splitN (n : Nat) : List Nat := if n < 65536 then [n] else [55296 + (n - 65536) / 1024, 56320 + (n - 65536) % 1024]
def unitsN (l : List Nat) : List Nat := l.flatMap splitN
theorem unitsN_nil : unitsN [] = [] := rfl
theorem unitsN_cons (n : Nat) (l : List Nat) : unitsN (n :: l) = splitN n ++ unitsN l := by simp [unitsN]
theorem unitsN_append (l m : List Nat) : unitsN (l ++ m) = unitsN l ++ unitsN m := by simp [unitsN]
theorem splitN_len (n : Nat) : 1 ≤ (splitN n).length ∧ (splitN n).length ≤ 2 := by unfold splitN; split <;> simp
theorem splitN_lt {n : Nat} (h : okN n) : ∀ u ∈ splitN n, u < 65536 := by
  unfold okN at h
  unfold splitN
  split
  · intro u hu; simp at hu; omega
  · intro u hu; simp at hu; omega
/-- the characters of units; none: a half alone -/
def joinU : List Nat → Option (List Nat)
  | [] => some []
  | [u] => if 55296 ≤ u ∧ u < 57344 then none else some [u]
  | u :: v :: t =>
    if 55296 ≤ u ∧ u < 57344 then
      (if 56320 ≤ u ∨ v < 56320 ∨ 57344 ≤ v then none else (joinU t).map (fun l => (65536 + (u - 55296) * 1024 + (v - 56320)) :: l))
    else (joinU (v :: t)).map (fun l => u :: l)
theorem joinU_one {u : Nat} {t : List Nat} (h : ¬ (55296 ≤ u ∧ u < 57344)) : joinU (u :: t) = (joinU t).map (fun l => u :: l) := by
  cases t with
  | nil => simp [joinU, h]
  | cons v t => rw [joinU, if_neg h]
theorem joinU_two {u v : Nat} {t : List Nat} (h : 55296 ≤ u ∧ u < 56320) (hv : 56320 ≤ v ∧ v < 57344) : joinU (u :: v :: t) = (joinU t).map (fun l => (65536 + (u - 55296) * 1024 + (v - 56320)) :: l) := by
  rw [joinU, if_pos (by omega), if_neg (by omega)]
theorem joinU_bad {u : Nat} {t : List Nat} (h : 55296 ≤ u ∧ u < 57344) (hb : 56320 ≤ u ∨ t = [] ∨ ∃ v t', t = v :: t' ∧ (v < 56320 ∨ 57344 ≤ v)) : joinU (u :: t) = none := by
  cases t with
  | nil => simp [joinU, h]
  | cons v t =>
    rw [joinU, if_pos h, if_pos]
    rcases hb with h | h | ⟨v', t', e, h⟩
    · exact .inl h
    · cases h
    · injection e with e1 e2; subst e1; exact .inr h
set_option maxRecDepth 100000 in
theorem join_units : ∀ l : List Nat, (∀ n ∈ l, okN n) → joinU (unitsN l) = some l
  | [], _ => rfl
  | n :: l, h => by
    have hn : okN n := h n (by simp)
    have ih := join_units l (fun m hm => h m (by simp [hm]))
    unfold okN at hn
    rw [unitsN_cons]
    unfold splitN
    by_cases h1 : n < 65536
    · rw [if_pos h1, List.singleton_append, joinU_one (by omega), ih]; rfl
    · rw [if_neg h1, List.cons_append, List.singleton_append, joinU_two (by omega) (by omega), ih]
      have e : 65536 + (55296 + (n - 65536) / 1024 - 55296) * 1024 + (56320 + (n - 65536) % 1024 - 56320) = n := by omega
      rw [e]; rfl
set_option maxRecDepth 100000 in
theorem units_join : ∀ (k : Nat) (us l : List Nat), us.length ≤ k → (∀ u ∈ us, u < 65536) → joinU us = some l → unitsN l = us ∧ ∀ n ∈ l, okN n
  | _, [], l, _, _, h => by
    simp [joinU] at h; subst h; exact ⟨rfl, fun n hn => by cases hn⟩
  | 0, u :: us, l, hk, _, _ => by simp at hk
  | k + 1, u :: us, l, hk, hu, h => by
    have hu0 : u < 65536 := hu u (by simp)
    by_cases hs : 55296 ≤ u ∧ u < 57344
    · by_cases hb : 56320 ≤ u ∨ us = [] ∨ ∃ v t', us = v :: t' ∧ (v < 56320 ∨ 57344 ≤ v)
      · rw [joinU_bad hs hb] at h; cases h
      · match us, hk, hu, h, hb with
        | [], _, _, _, hb => exact absurd (.inr (.inl rfl)) hb
        | v :: t, hk, hu, h, hb =>
          have hv : ¬ (v < 56320 ∨ 57344 ≤ v) := fun h => hb (.inr (.inr ⟨v, t, rfl, h⟩))
          have hu2 : ¬ 56320 ≤ u := fun h => hb (.inl h)
          rw [joinU_two (by omega) (by omega)] at h
          obtain ⟨m, hm, rfl⟩ := Option.map_eq_some_iff.1 h
          obtain ⟨e, hall⟩ := units_join k t m (by simp at hk; omega) (fun x hx => hu x (by simp [hx])) hm
          refine ⟨?_, fun n hn => ?_⟩
          · rw [unitsN_cons, e]
            unfold splitN
            rw [if_neg (by omega)]
            have e1 : 55296 + (65536 + (u - 55296) * 1024 + (v - 56320) - 65536) / 1024 = u := by omega
            have e2 : 56320 + (65536 + (u - 55296) * 1024 + (v - 56320) - 65536) % 1024 = v := by omega
            rw [e1, e2]; rfl
          · rcases List.mem_cons.1 hn with e | hn
            · unfold okN; omega
            · exact hall n hn
    · rw [joinU_one hs] at h
      obtain ⟨m, hm, rfl⟩ := Option.map_eq_some_iff.1 h
      obtain ⟨e, hall⟩ := units_join k us m (by simp at hk; omega) (fun x hx => hu x (by simp [hx])) hm
      refine ⟨?_, fun n hn => ?_⟩
      · rw [unitsN_cons, e]; unfold splitN; rw [if_pos hu0]; rfl
      · rcases List.mem_cons.1 hn with rfl | hn
        · unfold okN; omega
        · exact hall n hn
/-- the unit at i is a half without its other one -/
def badAt (us : List Nat) (i : Nat) : Prop :=
  ∃ u, us[i]? = some u ∧ ((55296 ≤ u ∧ u < 56320 ∧ ∀ v, us[i + 1]? = some v → ¬ (56320 ≤ v ∧ v < 57344)) ∨
    (56320 ≤ u ∧ u < 57344 ∧ (i = 0 ∨ ∀ v, us[i - 1]? = some v → ¬ (55296 ≤ v ∧ v < 56320))))
/-- the same with a unit in front -/
def badIn (p : Nat) (us : List Nat) : Prop := ∃ i u, us[i]? = some u ∧ ((55296 ≤ u ∧ u < 56320 ∧ ∀ v, us[i + 1]? = some v → ¬ (56320 ≤ v ∧ v < 57344)) ∨
    (56320 ≤ u ∧ u < 57344 ∧ ∀ v, (p :: us)[i]? = some v → ¬ (55296 ≤ v ∧ v < 56320)))
theorem badIn_cons {p u : Nat} {t : List Nat} : badIn p (u :: t) ↔ ((55296 ≤ u ∧ u < 56320 ∧ ∀ v, t[0]? = some v → ¬ (56320 ≤ v ∧ v < 57344)) ∨ (56320 ≤ u ∧ u < 57344 ∧ ¬ (55296 ≤ p ∧ p < 56320)) ∨ badIn u t) := by
  constructor
  · rintro ⟨i, x, hx, h⟩
    cases i with
    | zero =>
      have e : u = x := by simpa using hx
      subst e
      rcases h with ⟨h1, h2, h3⟩ | ⟨h1, h2, h3⟩
      · exact .inl ⟨h1, h2, fun v hv => h3 v (by simpa using hv)⟩
      · exact .inr (.inl ⟨h1, h2, h3 p (by simp)⟩)
    | succ i =>
      right; right
      refine ⟨i, x, by simpa using hx, ?_⟩
      rcases h with ⟨h1, h2, h3⟩ | ⟨h1, h2, h3⟩
      · exact .inl ⟨h1, h2, fun v hv => h3 v (by simpa using hv)⟩
      · exact .inr ⟨h1, h2, fun v hv => h3 v (by simpa using hv)⟩
  · rintro (⟨h1, h2, h3⟩ | ⟨h1, h2, h3⟩ | ⟨i, x, hx, h⟩)
    · exact ⟨0, u, by simp, .inl ⟨h1, h2, fun v hv => h3 v (by simpa using hv)⟩⟩
    · refine ⟨0, u, by simp, .inr ⟨h1, h2, fun v hv => ?_⟩⟩
      have e : p = v := by simpa using hv
      rw [← e]; exact h3
    · refine ⟨i + 1, x, by simpa using hx, ?_⟩
      rcases h with ⟨h1, h2, h3⟩ | ⟨h1, h2, h3⟩
      · exact .inl ⟨h1, h2, fun v hv => h3 v (by simpa using hv)⟩
      · exact .inr ⟨h1, h2, fun v hv => h3 v (by simpa using hv)⟩
theorem join_bad : ∀ (k : Nat) (us : List Nat) (p : Nat), us.length ≤ k → ¬ (55296 ≤ p ∧ p < 56320) → (joinU us = none ↔ badIn p us)
  | _, [], p, _, _ => by
    constructor
    · intro h; simp [joinU] at h
    · rintro ⟨i, x, hx, _⟩; simp at hx
  | 0, u :: us, _, hk, _ => by simp at hk
  | k + 1, u :: t, p, hk, hp => by
    rw [badIn_cons]
    by_cases hs : 55296 ≤ u ∧ u < 57344
    · by_cases hu2 : 56320 ≤ u
      · exact ⟨fun _ => .inr (.inl ⟨hu2, hs.2, hp⟩), fun _ => joinU_bad hs (.inl hu2)⟩
      · cases t with
        | nil => exact ⟨fun _ => .inl ⟨hs.1, by omega, fun v hv => by simp at hv⟩, fun _ => joinU_bad hs (.inr (.inl rfl))⟩
        | cons v t =>
          by_cases hv : v < 56320 ∨ 57344 ≤ v
          · refine ⟨fun _ => .inl ⟨hs.1, by omega, fun x hx => ?_⟩, fun _ => joinU_bad hs (.inr (.inr ⟨v, t, rfl, hv⟩))⟩
            have e : v = x := by simpa using hx
            omega
          · rw [joinU_two (by omega) (by omega), Option.map_eq_none_iff, join_bad k t v (by simp at hk; omega) (by omega), badIn_cons]
            constructor
            · intro h; exact .inr (.inr (.inr (.inr h)))
            · rintro (⟨_, _, h⟩ | ⟨h, _⟩ | ⟨h, _⟩ | ⟨_, _, h⟩ | h)
              · exact absurd (h v (by simp)) (by omega)
              · omega
              · omega
              · exact absurd h (by omega)
              · exact h
    · rw [joinU_one hs, Option.map_eq_none_iff, join_bad k t u (by simp at hk; omega) (by omega)]
      constructor
      · intro h; exact .inr (.inr h)
      · rintro (⟨h, h', _⟩ | ⟨h, h', _⟩ | h)
        · omega
        · omega
        · exact h
/-- units have no characters exactly if one of them is a half without its other one -/
theorem join_none (us : List Nat) : joinU us = none ↔ ∃ i, badAt us i := by
  rw [join_bad us.length us 0 (Nat.le_refl _) (by omega)]
  constructor
  · rintro ⟨i, u, hu, h⟩
    refine ⟨i, u, hu, ?_⟩
    rcases h with h | ⟨h1, h2, h3⟩
    · exact .inl h
    · refine .inr ⟨h1, h2, ?_⟩
      cases i with
      | zero => exact .inl rfl
      | succ i => exact .inr (fun v hv => h3 v (by simpa using hv))
  · rintro ⟨i, u, hu, h⟩
    refine ⟨i, u, hu, ?_⟩
    rcases h with h | ⟨h1, h2, h3⟩
    · exact .inl h
    · refine .inr ⟨h1, h2, ?_⟩
      cases i with
      | zero => intro v hv; have e : 0 = v := by simpa using hv
                omega
      | succ i =>
        rcases h3 with h3 | h3
        · omega
        · exact fun v hv => h3 v (by simpa using hv)
end Go.Proofs.YtokijdgakphfiaaDoor
