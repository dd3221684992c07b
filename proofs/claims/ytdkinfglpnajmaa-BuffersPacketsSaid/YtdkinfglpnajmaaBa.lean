/- Plain laws of pieces of a memory: places, the window of a list. No program. -/
set_option linter.unusedVariables false
set_option linter.unusedSimpArgs false
namespace Go.Proofs.Ytdkinfglpnajmaa

/-- a piece of a memory -/
structure Pc where
  pos : Int
  len : Int
deriving DecidableEq
/-- the places of its bytes -/
def pl (p : Pc) : List Int := (List.range p.len.toNat).map fun k : Nat => p.pos + (k : Int)
def places (l : List Pc) : List Int := l.flatMap pl
def total (l : List Pc) : Int := (l.map (·.len)).sum
def okL (l : List Pc) : Prop := ∀ p ∈ l, 0 ≤ p.pos ∧ 0 ≤ p.len
theorem pl_len (p : Pc) : (pl p).length = p.len.toNat := by simp [pl]
theorem places_nil : places [] = [] := rfl
theorem places_cons (p : Pc) (l : List Pc) : places (p :: l) = pl p ++ places l := by simp [places]
theorem places_append (l m : List Pc) : places (l ++ m) = places l ++ places m := by simp [places]
theorem total_cons (p : Pc) (l : List Pc) : total (p :: l) = p.len + total l := by simp [total]
theorem total_append (l m : List Pc) : total (l ++ m) = total l + total m := by simp [total]
theorem okL.tail {p : Pc} {l : List Pc} (h : okL (p :: l)) : okL l := fun q hq => h q (List.mem_cons_of_mem _ hq)
theorem okL.head {p : Pc} {l : List Pc} (h : okL (p :: l)) : 0 ≤ p.pos ∧ 0 ≤ p.len := h p List.mem_cons_self
theorem total_nonneg : ∀ {l : List Pc}, okL l → 0 ≤ total l
  | [], _ => by simp [total]
  | p :: l, h => by
    rw [total_cons]
    have h1 := h.head
    have h2 := total_nonneg h.tail
    omega
theorem places_len : ∀ {l : List Pc}, okL l → ((places l).length : Int) = total l
  | [], _ => rfl
  | p :: l, h => by
    rw [places_cons, List.length_append, pl_len, total_cons]
    have h1 := h.head
    have h2 := places_len h.tail
    omega
/-- a part of a piece -/
theorem pl_part (p : Pc) (i j : Nat) (hj : (j : Int) ≤ p.len) : ((pl p).take j).drop i = pl ⟨p.pos + i, (j : Int) - i⟩ := by
  unfold pl
  apply List.ext_getElem
  · simp
    omega
  · intro k h1 h2
    simp
    omega
/-- the parts of the pieces that lie between two bytes of a list; the first byte has number a -/
def win : Int → Int → Int → List Pc → List Pc
  | _, _, _, [] => []
  | a, f, t, p :: r =>
    if max (f - a) 0 < min (t - a) p.len then ⟨p.pos + max (f - a) 0, min (t - a) p.len - max (f - a) 0⟩ :: win (a + p.len) f t r
    else win (a + p.len) f t r
theorem win_places : ∀ {l : List Pc} (a f t : Int), okL l → places (win a f t l) = ((places l).take (t - a).toNat).drop (f - a).toNat
  | [], a, f, t, _ => by simp [win, places_nil]
  | p :: r, a, f, t, h => by
    have h1 := h.head
    have ih := win_places (l := r) (a + p.len) f t h.tail
    have hl : (pl p).length = p.len.toNat := pl_len p
    rw [places_cons, List.take_append, List.drop_append, hl]
    have e1 : (t - a).toNat - p.len.toNat = (t - (a + p.len)).toNat := by omega
    have e2 : (List.take (t - a).toNat (pl p)).length = min (t - a).toNat p.len.toNat := by simp [hl]
    rw [e1, e2]
    unfold win
    by_cases hc : max (f - a) 0 < min (t - a) p.len
    · rw [if_pos hc, places_cons, ih]
      have e3 : (f - a).toNat - min (t - a).toNat p.len.toNat = (f - (a + p.len)).toNat ∨ (t - (a + p.len)).toNat = 0 := by omega
      have e4 : (List.take (t - a).toNat (pl p)).drop (f - a).toNat = pl ⟨p.pos + max (f - a) 0, min (t - a) p.len - max (f - a) 0⟩ := by
        have := pl_part p (f - a).toNat (min (t - a) p.len).toNat (by omega)
        have e5 : List.take (t - a).toNat (pl p) = List.take (min (t - a) p.len).toNat (pl p) := by
          rcases Int.le_total (t - a) p.len with hh | hh
          · rw [Int.min_eq_left hh]
          · rw [Int.min_eq_right hh, List.take_of_length_le (by omega), List.take_of_length_le (by omega)]
        rw [e5, this]
        congr 2 <;> omega
      rw [e4]
      rcases e3 with e3 | e3
      · rw [e3]
      · rw [e3]; simp
    · rw [if_neg hc, ih]
      have e4 : (List.take (t - a).toNat (pl p)).drop (f - a).toNat = [] := by
        apply List.drop_eq_nil_of_le
        rw [e2]
        omega
      rw [e4, List.nil_append]
      by_cases ht : (t - (a + p.len)).toNat = 0
      · rw [ht]; simp
      · have e3 : (f - a).toNat - min (t - a).toNat p.len.toNat = (f - (a + p.len)).toNat := by omega
        rw [e3]
theorem win_pos : ∀ {l : List Pc} (a f t : Int), ∀ p ∈ win a f t l, 0 < p.len
  | [], a, f, t, p, h => by simp [win] at h
  | q :: r, a, f, t, p, h => by
    unfold win at h
    split at h
    · rcases List.mem_cons.1 h with rfl | h
      · show 0 < min (t - a) q.len - max (f - a) 0
        omega
      · exact win_pos _ f t p h
    · exact win_pos _ f t p h
theorem win_ok : ∀ {l : List Pc} (a f t : Int), okL l → okL (win a f t l)
  | [], a, f, t, _ => by
    intro p hp
    simp [win] at hp
  | q :: r, a, f, t, h => by
    have h1 := h.head
    have ih := win_ok (l := r) (a + q.len) f t h.tail
    unfold win
    split
    · intro p hp
      rcases List.mem_cons.1 hp with rfl | hp
      · exact ⟨by show 0 ≤ q.pos + max (f - a) 0; omega, by show 0 ≤ min (t - a) q.len - max (f - a) 0; omega⟩
      · exact ih p hp
    · exact ih
/-- how many pieces have a part in the window -/
def many : Int → Int → Int → List Pc → Nat
  | _, _, _, [] => 0
  | a, f, t, p :: r => (if max a f < min (a + p.len) t then 1 else 0) + many (a + p.len) f t r
theorem win_many : ∀ (l : List Pc) (a f t : Int), (win a f t l).length = many a f t l
  | [], a, f, t => rfl
  | p :: r, a, f, t => by
    unfold win many
    have ih := win_many r (a + p.len) f t
    by_cases hc : max (f - a) 0 < min (t - a) p.len
    · rw [if_pos hc, if_pos (by omega), List.length_cons, ih]; omega
    · rw [if_neg hc, if_neg (by omega), ih]; omega
theorem win_all : ∀ {l : List Pc} (a t : Int), okL l → 0 ≤ a → total l + a ≤ t → win a 0 t l = l.filter fun p => decide (0 < p.len)
  | [], a, t, _, _, _ => rfl
  | p :: r, a, t, h, ha, ht => by
    have h1 := h.head
    rw [total_cons] at ht
    have h2 := total_nonneg h.tail
    have ih := win_all (l := r) (a + p.len) t h.tail (by omega) (by omega)
    unfold win
    rw [ih]
    by_cases hc : 0 < p.len
    · rw [if_pos (by omega), List.filter_cons_of_pos (by simpa using hc)]
      congr 1
      cases p
      simp only [Pc.mk.injEq]
      simp at h1 hc ht ⊢
      omega
    · rw [if_neg (by omega), List.filter_cons_of_neg (by simpa using hc)]
end Go.Proofs.Ytdkinfglpnajmaa
