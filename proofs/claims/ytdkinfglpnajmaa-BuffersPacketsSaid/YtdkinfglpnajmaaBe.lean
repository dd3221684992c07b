/- Plain laws: the window of two lists together. No program. -/
import Derived.Test.YtdkinfglpnajmaaBd
set_option linter.unusedVariables false
set_option linter.unusedSimpArgs false
set_option linter.unusedSectionVars false
set_option linter.unusedVariables false
set_option linter.unusedSimpArgs false
namespace Go.Proofs.Ytdkinfglpnajmaa

theorem win_cons (a f t : Int) (p : Pc) (r : List Pc) : win a f t (p :: r) = if max (f - a) 0 < min (t - a) p.len then ⟨p.pos + max (f - a) 0, min (t - a) p.len - max (f - a) 0⟩ :: win (a + p.len) f t r else win (a + p.len) f t r := rfl
theorem win_append : ∀ (l1 l2 : List Pc) (a f t : Int), win a f t (l1 ++ l2) = win a f t l1 ++ win (a + total l1) f t l2
  | [], l2, a, f, t => by simp [win, total]
  | p :: r, l2, a, f, t => by
    rw [List.cons_append, total_cons, win_cons, win_cons, win_append r l2 (a + p.len) f t, Int.add_assoc]
    split
    · rw [List.cons_append]
    · rfl
theorem win_one {l : List Pc} {k : Nat} {p : Pc} (h : l[k]? = some p) (f t : Int) :
    win 0 f t (l.take (k + 1)) = win 0 f t (l.take k) ++ (if max (f - total (l.take k)) 0 < min (t - total (l.take k)) p.len then [⟨p.pos + max (f - total (l.take k)) 0, min (t - total (l.take k)) p.len - max (f - total (l.take k)) 0⟩] else []) := by
  obtain ⟨hk, e⟩ := List.getElem?_eq_some_iff.1 h
  rw [List.take_succ_eq_append_getElem hk, e, win_append, Int.zero_add]
  congr 1
theorem win_pre (l : List Pc) (k : Nat) (f t : Int) : win 0 f t (l.take k) <+: win 0 f t l := by
  conv => rhs; rw [← List.take_append_drop k l, win_append]
  exact List.prefix_append _ _
end Go.Proofs.Ytdkinfglpnajmaa
