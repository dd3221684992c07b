/- Plain laws of lists of pieces: their errors; the lists of the law; packets. No program. -/
import Derived.Test.YtdkinfglpnajmaaBc
set_option linter.unusedVariables false
set_option linter.unusedSimpArgs false
set_option linter.unusedSectionVars false
set_option linter.unusedVariables false
set_option linter.unusedSimpArgs false
namespace Go.Proofs.Ytdkinfglpnajmaa

def badP (size : Int) (p : Pc) : Bool := decide (p.pos < 0) || (decide (p.len < 0) || (decide (size < p.len) || decide (size - p.len < p.pos)))
def sumBad : Int → List Pc → Bool
  | _, [] => false
  | n, p :: r => decide (65536 - n < p.len) || sumBad (n + p.len) r
/-- the error of a list for a memory of some bytes -/
def chk (l : List Pc) (size : Int) : Int := if 256 < l.length then 3 else if l.any (badP size) then 1 else if sumBad 0 l then 3 else 0
theorem sumBad_iff : ∀ {l : List Pc} {n : Int}, (∀ p ∈ l, 0 ≤ p.len) → (sumBad n l = false ↔ n + total l ≤ 65536 ∨ l = [])
  | [], n, _ => by simp [sumBad]
  | p :: r, n, h => by
    have h1 := h p List.mem_cons_self
    have h2 : ∀ q ∈ r, 0 ≤ q.len := fun q hq => h q (List.mem_cons_of_mem _ hq)
    have ih := sumBad_iff (l := r) (n := n + p.len) h2
    have ht : 0 ≤ total r := by
      clear ih h h1
      induction r with
      | nil => simp [total]
      | cons q r ih =>
        rw [total_cons]
        have := h2 q List.mem_cons_self
        have := ih (fun x hx => h2 x (List.mem_cons_of_mem _ hx))
        omega
    rw [total_cons]
    simp only [sumBad, Bool.or_eq_false_iff, decide_eq_false_iff_not, reduceCtorEq, or_false]
    rw [ih]
    constructor
    · rintro ⟨a, b | rfl⟩
      · omega
      · simp [total]; omega
    · intro a
      refine ⟨by omega, ?_⟩
      by_cases hr : r = []
      · exact .inr hr
      · exact .inl (by omega)
theorem chk_ok {l : List Pc} {size : Int} (hl : l.length ≤ 256) (h : ∀ p ∈ l, 0 ≤ p.pos ∧ 0 ≤ p.len ∧ p.pos + p.len ≤ size) (ht : total l ≤ 65536) : chk l size = 0 := by
  have h1 : l.any (badP size) = false := by
    rw [List.any_eq_false]
    intro p hp
    have := h p hp
    simp only [badP, Bool.or_eq_true, decide_eq_true_eq]
    omega
  have h2 : sumBad 0 l = false := (sumBad_iff (fun p hp => (h p hp).2.1)).2 (.inl (by omega))
  rw [chk, if_neg (by omega), h1, h2]
  rfl
/-- what a list without error is like -/
theorem chk_parts {l : List Pc} {size : Int} (h : chk l size = 0) : l.length ≤ 256 ∧ (∀ p ∈ l, 0 ≤ p.pos ∧ 0 ≤ p.len ∧ p.pos + p.len ≤ size) ∧ total l ≤ 65536 := by
  unfold chk at h
  split at h
  · omega
  · split at h
    · omega
    · rename_i hb
      split at h
      · omega
      · rename_i hs
        have hb' : ∀ p ∈ l, 0 ≤ p.pos ∧ 0 ≤ p.len ∧ p.pos + p.len ≤ size := by
          rw [Bool.not_eq_true, List.any_eq_false] at hb
          intro p hp
          have := hb p hp
          simp only [badP, Bool.or_eq_true, decide_eq_true_eq] at this
          omega
        refine ⟨by omega, hb', ?_⟩
        have := (sumBad_iff (n := 0) (l := l) (fun p hp => (hb' p hp).2.1)).1 (by simpa using hs)
        rcases this with h1 | rfl
        · omega
        · simp [total]
/-- packets: the windows of most bytes each -/
def pks (most size : Int) (l : List Pc) : Nat → Int → List (List Pc)
  | 0, _ => []
  | f + 1, a => if a < size then win 0 a (min (a + most) size) l :: pks most size l f (a + most) else []
def pkt (most : Int) (l : List Pc) : List (List Pc) := win 0 0 (min most (total l)) l :: pks most (total l) l (total l).toNat most
/-- the window from a byte on has the places from there on -/
theorem win_part {l : List Pc} (h : okL l) (f t : Int) (hf : 0 ≤ f) : places (win 0 f t l) = ((places l).take t.toNat).drop f.toNat := by
  have := win_places (l := l) 0 f t h
  rwa [Int.sub_zero, Int.sub_zero] at this
end Go.Proofs.Ytdkinfglpnajmaa
