/- Plain laws of pieces of a memory: data that are put to places; pieces that overlap. No program. -/
import Derived.Test.YtdkinfglpnajmaaBb
set_option linter.unusedVariables false
set_option linter.unusedSimpArgs false
set_option linter.unusedSectionVars false
set_option linter.unusedVariables false
set_option linter.unusedSimpArgs false
namespace Go.Proofs.Ytdkinfglpnajmaa

/-- data put to places of a memory, one after another -/
def scat : List UInt8 → List Int → List UInt8 → List UInt8
  | m, a :: as, x :: xs => scat (m.set a.toNat x) as xs
  | m, _, _ => m
theorem scat_nil (m : List UInt8) (xs : List UInt8) : scat m [] xs = m := by cases xs <;> rfl
theorem scat_none (m : List UInt8) (as : List Int) : scat m as [] = m := by cases as <;> rfl
theorem scat_len : ∀ (as : List Int) (m : List UInt8) (xs : List UInt8), (scat m as xs).length = m.length
  | [], m, xs => by rw [scat_nil]
  | a :: as, m, [] => rfl
  | a :: as, m, x :: xs => by
    show (scat (m.set a.toNat x) as xs).length = _
    rw [scat_len as]
    simp
theorem scat_split : ∀ (n : Nat) (as : List Int) (m : List UInt8) (xs : List UInt8), scat (scat m (as.take n) (xs.take n)) (as.drop n) (xs.drop n) = scat m as xs
  | 0, as, m, xs => by simp [scat_nil]
  | n + 1, [], m, xs => by simp [scat_nil]
  | n + 1, a :: as, m, [] => by simp [scat_none]
  | n + 1, a :: as, m, x :: xs => by
    show scat (scat (m.set a.toNat x) (as.take n) (xs.take n)) (as.drop n) (xs.drop n) = _
    rw [scat_split n as]
    rfl
theorem scat_take (as : List Int) (m : List UInt8) (xs : List UInt8) (n : Nat) (hn : xs.length ≤ n) : scat m (as.take n) xs = scat m as xs := by
  have h := scat_split n as m xs
  rw [List.take_of_length_le hn, List.drop_eq_nil_of_le hn, scat_none] at h
  exact h
theorem scat_more (as bs : List Int) (m : List UInt8) (xs : List UInt8) (h : xs.length ≤ as.length) : scat m (as ++ bs) xs = scat m as xs := by
  rw [← scat_take (as ++ bs) m xs as.length h, List.take_left]
theorem scat_append (as bs : List Int) (m : List UInt8) (xs : List UInt8) : scat m (as ++ bs) xs = scat (scat m as (xs.take as.length)) bs (xs.drop as.length) := by
  have h := scat_split as.length (as ++ bs) m xs
  rw [List.take_left, List.drop_left] at h
  exact h.symm
theorem scat_snoc {as : List Int} {m xs : List UInt8} {i : Nat} {a : Int} {x : UInt8} (ha : as[i]? = some a) (hx : xs[i]? = some x) :
    scat m (as.take (i + 1)) (xs.take (i + 1)) = (scat m (as.take i) (xs.take i)).set a.toNat x := by
  obtain ⟨h1, e1⟩ := List.getElem?_eq_some_iff.1 ha
  obtain ⟨h2, e2⟩ := List.getElem?_eq_some_iff.1 hx
  rw [List.take_succ_eq_append_getElem h1, List.take_succ_eq_append_getElem h2, scat_append, e1, e2]
  have hl : (as.take i).length = i := by simp; omega
  have hl2 : (xs.take i).length = i := by simp; omega
  have e3 : (xs.take i ++ [x]).take i = xs.take i := List.take_left' hl2
  have e4 : (xs.take i ++ [x]).drop i = [x] := List.drop_left' hl2
  rw [hl, e3, e4]
  rfl
/-- one piece: the data lie in it -/
theorem scat_piece : ∀ (n : Nat) (a : Nat) (m xs : List UInt8), a + n ≤ m.length → n ≤ xs.length → scat m (pl ⟨(a : Int), (n : Int)⟩) (xs.take n) = m.take a ++ xs.take n ++ m.drop (a + n)
  | 0, a, m, xs, h1, h2 => by simp [pl, scat_nil]
  | n + 1, a, m, [], h1, h2 => by simp at h2
  | n + 1, a, m, x :: xs, h1, h2 => by
    have e : pl ⟨(a : Int), ((n + 1 : Nat) : Int)⟩ = (a : Int) :: pl ⟨((a + 1 : Nat) : Int), (n : Int)⟩ := by
      unfold pl
      apply List.ext_getElem
      · simp
      · intro k h1 h2
        cases k with
        | zero => simp
        | succ k => simp; omega
    rw [e]
    show scat (m.set a x) (pl ⟨((a + 1 : Nat) : Int), (n : Int)⟩) (xs.take n) = _
    rw [scat_piece n (a + 1) (m.set a x) xs (by simp; omega) (by simpa using h2)]
    apply List.ext_getElem?
    intro k
    have hl : (m.take a).length = a := by simp; omega
    rw [List.take_set, List.drop_set]
    rw [if_pos (by omega)]
    have hm : a < m.length := by omega
    rw [List.take_succ_eq_append_getElem hm, List.set_append_right _ _ (by rw [hl]; exact Nat.le_refl _), hl, Nat.sub_self]
    simp [Nat.add_assoc, Nat.add_comm 1 n]
/-- what lies at a place -/
theorem scat_other : ∀ (as : List Int) (m xs : List UInt8) (b : Nat), (∀ a ∈ as, a.toNat ≠ b) → (scat m as xs)[b]? = m[b]?
  | [], m, xs, b, h => by rw [scat_nil]
  | a :: as, m, [], b, h => rfl
  | a :: as, m, x :: xs, b, h => by
    show (scat (m.set a.toNat x) as xs)[b]? = _
    rw [scat_other as _ xs b (fun c hc => h c (List.mem_cons_of_mem _ hc)), List.getElem?_set_ne (h a List.mem_cons_self)]
theorem scat_at : ∀ (as : List Int) (m xs : List UInt8) (i : Nat) (a : Int) (x : UInt8), as.Nodup → (∀ a ∈ as, 0 ≤ a ∧ a < m.length) → as[i]? = some a → xs[i]? = some x → (scat m as xs)[a.toNat]? = some x
  | [], m, xs, i, a, x, _, _, ha, _ => by simp at ha
  | b :: as, m, [], i, a, x, _, _, _, hx => by simp at hx
  | b :: as, m, y :: xs, 0, a, x, hnd, hr, ha, hx => by
    simp at ha hx
    subst ha hx
    show (scat (m.set b.toNat y) as xs)[b.toNat]? = _
    have hb := hr b List.mem_cons_self
    rw [scat_other as _ xs _ (fun c hc e => by
      have hc2 := hr c (List.mem_cons_of_mem _ hc)
      have : c = b := by omega
      subst this
      exact (List.nodup_cons.1 hnd).1 hc)]
    rw [List.getElem?_set_self (by omega)]
  | b :: as, m, y :: xs, i + 1, a, x, hnd, hr, ha, hx => by
    show (scat (m.set b.toNat y) as xs)[a.toNat]? = _
    exact scat_at as _ xs i a x (List.nodup_cons.1 hnd).2 (fun c hc => by simpa using hr c (List.mem_cons_of_mem _ hc)) (by simpa using ha) (by simpa using hx)
/-! ### Pieces that overlap -/
theorem mem_pl {p : Pc} {a : Int} : a ∈ pl p ↔ p.pos ≤ a ∧ a < p.pos + p.len := by
  unfold pl
  rw [List.mem_map]
  constructor
  · rintro ⟨k, hk, rfl⟩
    rw [List.mem_range] at hk
    omega
  · intro h
    exact ⟨(a - p.pos).toNat, by rw [List.mem_range]; omega, by omega⟩
theorem pl_nodup (p : Pc) : (pl p).Nodup := by
  unfold pl List.Nodup
  rw [List.pairwise_map]
  exact List.nodup_range.imp (by intro a b h e; omega)
/-- pieces in order, of which none begins before the one before it ends -/
def sep : List Pc → Prop
  | [] => True
  | [_] => True
  | p :: q :: r => p.pos + p.len ≤ q.pos ∧ sep (q :: r)
theorem sep_all : ∀ {r : List Pc} {p : Pc}, sep (p :: r) → (p :: r).Pairwise (fun a b => a.pos ≤ b.pos) → ∀ x ∈ r, p.pos + p.len ≤ x.pos
  | [], p, _, _, x, hx => by cases hx
  | q :: r, p, h, hs, x, hx => by
    rcases List.mem_cons.1 hx with rfl | hx
    · exact h.1
    · have h1 := (List.pairwise_cons.1 (List.pairwise_cons.1 hs).2).1 x hx
      have h2 := h.1
      omega
theorem sep_iff : ∀ {l : List Pc}, (∀ p ∈ l, 0 < p.len) → l.Pairwise (fun a b => a.pos ≤ b.pos) → (sep l ↔ (places l).Nodup)
  | [], _, _ => ⟨fun _ => List.nodup_nil, fun _ => trivial⟩
  | [p], _, _ => ⟨fun _ => by rw [places_cons, places_nil, List.append_nil]; exact pl_nodup p, fun _ => trivial⟩
  | p :: q :: r, hp, hs => by
    have ih := sep_iff (l := q :: r) (fun x hx => hp x (List.mem_cons_of_mem _ hx)) (List.pairwise_cons.1 hs).2
    have hp0 := hp p List.mem_cons_self
    have hq0 := hp q (by simp)
    have hpq := (List.pairwise_cons.1 hs).1 q List.mem_cons_self
    constructor
    · intro h
      have ha := sep_all h hs
      rw [places_cons, List.nodup_append]
      refine ⟨pl_nodup p, ih.1 h.2, fun a h1 b h2 e => ?_⟩
      subst e
      obtain ⟨x, hx, hax⟩ := List.mem_flatMap.1 h2
      have h3 := ha x hx
      rw [mem_pl] at h1 hax
      omega
    · intro h
      rw [places_cons, List.nodup_append] at h
      refine ⟨?_, ih.2 h.2.1⟩
      rcases Int.lt_or_le q.pos (p.pos + p.len) with hlt | hle
      · exfalso
        refine h.2.2 q.pos (mem_pl.2 ⟨hpq, hlt⟩) q.pos ?_ rfl
        rw [places_cons]
        exact List.mem_append_left _ (mem_pl.2 ⟨Int.le_refl _, by omega⟩)
      · exact hle
theorem places_perm {l m : List Pc} (h : l.Perm m) : (places l).Perm (places m) := h.flatMap_right _
/-- sorted pieces are apart exactly if no place comes twice -/
theorem sep_perm {l m : List Pc} (h : l.Perm m) (hp : ∀ p ∈ l, 0 < p.len) (hs : m.Pairwise (fun a b => a.pos ≤ b.pos)) : sep m ↔ (places l).Nodup := by
  rw [sep_iff (fun p hp' => hp p (h.mem_iff.2 hp')) hs, (places_perm h).nodup_iff]
/-- empty pieces have no places -/
theorem places_filter : ∀ (l : List Pc), okL l → places (l.filter fun p => decide (0 < p.len)) = places l
  | [], _ => rfl
  | p :: r, h => by
    have ih := places_filter r h.tail
    by_cases hp : 0 < p.len
    · rw [List.filter_cons_of_pos (by simpa using hp), places_cons, places_cons, ih]
    · rw [List.filter_cons_of_neg (by simpa using hp), ih, places_cons]
      have : p.len.toNat = 0 := by omega
      simp [pl, this]
end Go.Proofs.Ytdkinfglpnajmaa
