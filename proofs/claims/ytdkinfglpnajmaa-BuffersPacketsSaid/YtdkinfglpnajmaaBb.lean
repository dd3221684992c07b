/- Plain laws of pieces of a memory: joined pieces, pages. No program. -/
import Derived.Test.YtdkinfglpnajmaaBa
set_option linter.unusedVariables false
set_option linter.unusedSimpArgs false
set_option linter.unusedSectionVars false
set_option linter.unusedVariables false
set_option linter.unusedSimpArgs false
namespace Go.Proofs.Ytdkinfglpnajmaa

/-- a piece behind those that are joined already -/
def jstep (out : List Pc) (p : Pc) : List Pc :=
  match out.getLast? with
  | some q => if q.pos + q.len = p.pos then out.dropLast ++ [⟨q.pos, q.len + p.len⟩] else out ++ [p]
  | none => [p]
def jn (l : List Pc) : List Pc := l.foldl jstep []
theorem jstep_nil (p : Pc) : jstep [] p = [p] := rfl
theorem jstep_snoc (o : List Pc) (q p : Pc) : jstep (o ++ [q]) p = if q.pos + q.len = p.pos then o ++ [⟨q.pos, q.len + p.len⟩] else o ++ [q] ++ [p] := by
  unfold jstep
  rw [List.getLast?_concat]
  simp only [List.dropLast_concat]
theorem pl_join (p q : Pc) (hp : 0 ≤ p.len) (hq : 0 ≤ q.len) (h : p.pos + p.len = q.pos) : pl ⟨p.pos, p.len + q.len⟩ = pl p ++ pl q := by
  unfold pl
  apply List.ext_getElem
  · simp
    omega
  · intro k h1 h2
    rw [List.getElem_append]
    split
    · simp
    · rename_i hk
      simp only [List.length_map, List.length_range] at hk
      simp only [List.getElem_map, List.getElem_range, List.length_map, List.length_range]
      omega
theorem jstep_places (o : List Pc) (p : Pc) (ho : okL o) (hp : 0 ≤ p.len) : places (jstep o p) = places o ++ pl p := by
  rcases List.eq_nil_or_concat o with rfl | ⟨u, q, rfl⟩
  · simp [jstep_nil, places]
  · rw [List.concat_eq_append] at ho ⊢
    rw [jstep_snoc]
    have hq := ho q (by simp)
    split
    · rename_i h
      rw [places_append, places_append, places_cons, places_cons, places_nil, List.append_nil, List.append_nil, pl_join q p hq.2 hp h, List.append_assoc]
    · rw [places_append, places_cons, places_nil, List.append_nil]
theorem jstep_ok (o : List Pc) (p : Pc) (ho : ∀ q ∈ o, 0 ≤ q.pos ∧ 0 < q.len) (hp : 0 ≤ p.pos ∧ 0 < p.len) : ∀ q ∈ jstep o p, 0 ≤ q.pos ∧ 0 < q.len := by
  rcases List.eq_nil_or_concat o with rfl | ⟨u, q, rfl⟩
  · rw [jstep_nil]
    intro q hq
    rw [List.mem_singleton.1 hq]; exact hp
  · rw [List.concat_eq_append] at ho ⊢
    rw [jstep_snoc]
    have hq := ho q (by simp)
    split
    · intro x hx
      rcases List.mem_append.1 hx with hx | hx
      · exact ho x (by simp [hx])
      · rw [List.mem_singleton.1 hx]
        exact ⟨hq.1, by show 0 < q.len + p.len; omega⟩
    · intro x hx
      rcases List.mem_append.1 hx with hx | hx
      · exact ho x hx
      · rw [List.mem_singleton.1 hx]; exact hp
def posL (l : List Pc) : Prop := ∀ q ∈ l, 0 ≤ q.pos ∧ 0 < q.len
theorem posL.ok {l : List Pc} (h : posL l) : okL l := fun q hq => ⟨(h q hq).1, by have := (h q hq).2; omega⟩
theorem posL.tail {p : Pc} {l : List Pc} (h : posL (p :: l)) : posL l := fun q hq => h q (List.mem_cons_of_mem _ hq)
theorem posL.head {p : Pc} {l : List Pc} (h : posL (p :: l)) : 0 ≤ p.pos ∧ 0 < p.len := h p List.mem_cons_self
theorem fold_places : ∀ (l o : List Pc), posL o → posL l → posL (l.foldl jstep o) ∧ places (l.foldl jstep o) = places o ++ places l
  | [], o, ho, _ => ⟨ho, by simp [places_nil]⟩
  | p :: r, o, ho, hl => by
    have h1 : posL (jstep o p) := jstep_ok o p ho hl.head
    have h2 := fold_places r (jstep o p) h1 hl.tail
    refine ⟨h2.1, ?_⟩
    rw [List.foldl_cons, h2.2, jstep_places o p ho.ok (by have := hl.head; omega), places_cons, List.append_assoc]
theorem jn_places {l : List Pc} (h : posL l) : posL (jn l) ∧ places (jn l) = places l := by
  have := fold_places l [] (fun q hq => by cases hq) h
  exact ⟨this.1, by rw [jn, this.2]; simp [places_nil]⟩
/-- no two pieces adjoin -/
def gaps : List Pc → Prop
  | [] => True
  | [_] => True
  | p :: q :: r => p.pos + p.len ≠ q.pos ∧ gaps (q :: r)
theorem gaps_snoc : ∀ (o : List Pc) (q p : Pc), gaps (o ++ [q]) → q.pos + q.len ≠ p.pos → gaps (o ++ [q] ++ [p])
  | [], q, p, _, h => ⟨h, trivial⟩
  | [x], q, p, hg, h => ⟨hg.1, gaps_snoc [] q p hg.2 h⟩
  | x :: y :: r, q, p, hg, h => ⟨hg.1, gaps_snoc (y :: r) q p hg.2 h⟩
theorem gaps_longer : ∀ (o : List Pc) (q : Pc) (n : Int), gaps (o ++ [q]) → gaps (o ++ [⟨q.pos, n⟩])
  | [], q, n, _ => trivial
  | [x], q, n, hg => ⟨hg.1, trivial⟩
  | x :: y :: r, q, n, hg => ⟨hg.1, gaps_longer (y :: r) q n hg.2⟩
theorem jstep_gaps (o : List Pc) (p : Pc) (h : gaps o) : gaps (jstep o p) := by
  rcases List.eq_nil_or_concat o with rfl | ⟨u, q, rfl⟩
  · exact trivial
  · rw [List.concat_eq_append] at h ⊢
    rw [jstep_snoc]
    split
    · exact gaps_longer u q _ h
    · rename_i hne
      exact gaps_snoc u q p h hne
theorem fold_gaps : ∀ (l o : List Pc), gaps o → gaps (l.foldl jstep o)
  | [], _, h => h
  | p :: r, o, h => fold_gaps r _ (jstep_gaps o p h)
theorem jn_gaps (l : List Pc) : gaps (jn l) := fold_gaps l [] trivial
theorem fold_again : ∀ (l o : List Pc), gaps (o ++ l) → l.foldl jstep o = o ++ l
  | [], o, _ => by simp
  | p :: r, o, h => by
    have e : jstep o p = o ++ [p] := by
      rcases List.eq_nil_or_concat o with rfl | ⟨u, q, rfl⟩
      · rfl
      · rw [List.concat_eq_append] at h ⊢
        rw [jstep_snoc, if_neg]
        have : ∀ (u : List Pc), gaps (u ++ [q] ++ p :: r) → q.pos + q.len ≠ p.pos := by
          intro u
          induction u with
          | nil => exact fun h => h.1
          | cons x u ih =>
            intro h
            cases u with
            | nil => exact h.2.1
            | cons y u => exact ih h.2
        exact this u h
    rw [List.foldl_cons, e, fold_again r (o ++ [p]) (by rw [List.append_assoc]; exact h), List.append_assoc]
    rfl
theorem jn_again (l : List Pc) : jn (jn l) = jn l := by
  have := fold_again (jn l) [] (jn_gaps l)
  exact this
theorem gaps_at : ∀ {l : List Pc} {i : Nat} {p q : Pc}, gaps l → l[i]? = some p → l[i + 1]? = some q → p.pos + p.len ≠ q.pos
  | [], i, p, q, _, h, _ => by simp at h
  | [x], i, p, q, _, _, h => by simp at h
  | x :: y :: r, 0, p, q, hg, h1, h2 => by
    simp at h1 h2
    rw [← h1, ← h2]
    exact hg.1
  | x :: y :: r, i + 1, p, q, hg, h1, h2 => gaps_at (l := y :: r) (i := i) hg.2 (by simpa using h1) (by simpa using h2)
/-- the pieces of a piece, each in one page -/
def pg (page : Int) : Nat → Int → Int → List Pc
  | 0, _, _ => []
  | f + 1, a, n => if 0 < n then ⟨a, min n (page - a % page)⟩ :: pg page f (a + min n (page - a % page)) (n - min n (page - a % page)) else []
theorem pg_step {page a n : Int} (hp : 1 ≤ page) (hn : 0 < n) : 1 ≤ min n (page - a % page) ∧ min n (page - a % page) ≤ n := by
  have := Int.emod_lt_of_pos a (show 0 < page by omega)
  omega
theorem pg_pos {page : Int} (hp : 1 ≤ page) : ∀ (f : Nat) (a n : Int), 0 ≤ a → posL (pg page f a n)
  | 0, a, n, _ => fun q hq => by simp [pg] at hq
  | f + 1, a, n, ha => by
    unfold pg
    split
    · rename_i hn
      have := pg_step (a := a) hp hn
      intro q hq
      rcases List.mem_cons.1 hq with rfl | hq
      · exact ⟨ha, by show 0 < min n (page - a % page); omega⟩
      · exact pg_pos hp f _ _ (by omega) q hq
    · intro q hq
      cases hq
/-- pages of a piece, joined to what is there: the piece joined to it -/
theorem fold_pg {page : Int} (hp : 1 ≤ page) : ∀ (f : Nat) (a n : Int) (o : List Pc), n ≤ f → (pg page f a n).foldl jstep o = if 0 < n then jstep o ⟨a, n⟩ else o
  | 0, a, n, o, hf => by rw [if_neg (by omega)]; rfl
  | f + 1, a, n, o, hf => by
    unfold pg
    by_cases hn : 0 < n
    · have hs := pg_step (a := a) hp hn
      rw [if_pos hn, if_pos hn, List.foldl_cons, fold_pg hp f _ _ _ (by omega)]
      generalize min n (page - a % page) = m at *
      by_cases hr : 0 < n - m
      · rw [if_pos hr]
        rcases List.eq_nil_or_concat o with rfl | ⟨u, q, rfl⟩
        · show jstep ([] ++ [⟨a, m⟩]) _ = [⟨a, n⟩]
          rw [jstep_snoc, if_pos rfl]
          simp
          omega
        · rw [List.concat_eq_append, jstep_snoc, jstep_snoc]
          split
          · rename_i hq
            rw [jstep_snoc, if_pos (by show q.pos + (q.len + m) = a + m; simp at hq; omega)]
            congr 2
            simp
            omega
          · rw [jstep_snoc, if_pos rfl]
            congr 2
            simp
            omega
      · rw [if_neg hr]
        have : m = n := by omega
        rw [this]
    · rw [if_neg hn, if_neg hn]
      rfl
def pgs (page : Int) (l : List Pc) : List Pc := l.flatMap fun p => pg page p.len.toNat p.pos p.len
theorem fold_pgs {page : Int} (hp : 1 ≤ page) : ∀ (l o : List Pc), posL l → (pgs page l).foldl jstep o = l.foldl jstep o
  | [], o, _ => rfl
  | p :: r, o, h => by
    have h1 := h.head
    unfold pgs
    rw [List.flatMap_cons, List.foldl_append, List.foldl_cons, fold_pg hp _ _ _ _ (by omega), if_pos h1.2]
    exact fold_pgs hp r _ h.tail
/-- the pages joined are the pieces joined -/
theorem jn_pgs {page : Int} (hp : 1 ≤ page) {l : List Pc} (h : posL l) : jn (pgs page l) = jn l := fold_pgs hp l [] h
theorem pgs_pos {page : Int} (hp : 1 ≤ page) {l : List Pc} (h : posL l) : posL (pgs page l) := by
  intro q hq
  obtain ⟨p, hpl, hq⟩ := List.mem_flatMap.1 hq
  exact pg_pos hp _ _ _ (h p hpl).1 q hq
theorem pg_total {page : Int} (hp : 1 ≤ page) : ∀ (f : Nat) (a n : Int), 0 ≤ n → n ≤ f → total (pg page f a n) = n
  | 0, a, n, h0, hf => by
    have : n = 0 := by omega
    subst this
    rfl
  | f + 1, a, n, h0, hf => by
    unfold pg
    by_cases hn : 0 < n
    · have hs := pg_step (a := a) hp hn
      rw [if_pos hn, total_cons, pg_total hp f _ _ (by omega) (by omega)]
      show min n (page - a % page) + _ = n
      omega
    · rw [if_neg hn]
      have : n = 0 := by omega
      subst this
      rfl
end Go.Proofs.Ytdkinfglpnajmaa
