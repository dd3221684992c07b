
/- The descriptor of languages. The list reads as numbers of 16 bits. -/
import Derived.Test.YtokijdgakphfiaaDoorChecked
import Derived.Deep.RegionHeld3
import Derived.Deep.DrawnRows
import Derived.Deep.DeepCutAuto
import Derived.Deep.LoopGhost
import Derived.Outline
import Derived.Handy
import Derived.Test.YtokijdgakphfiaaDoorSb
namespace Go.Proofs.YtokijdgakphfiaaDoor
open Go.RowKit
attribute [local go_sem ↓] Go.wp_at_zero Go.wp_at_succ

/-- what Languages returns, by the number of languages -/
def LangPost (n : Nat) (us : List Nat) (w : World) (e : Ending) (w' : World) : Prop :=
  (n = 0 ∧ e = .returned (.tuple #[.slice none 0 0, .int .i64 1]) ∧ Kept w w') ∨
  (126 < n ∧ e = .returned (.tuple #[.slice none 0 0, .int .i64 3]) ∧ Kept w w') ∨
  (0 < n ∧ n ≤ 126 ∧ ∃ g, e = .returned (.tuple #[.slice (some ⟨g, 0, none⟩) (2 + 2 * n) (2 + 2 * n), .int .i64 0]) ∧ Fill w' g 5 (2 + 2 * n) (.int .u8 0) (u8C (toldL us)) ∧ w.heap.size ≤ g ∧ g < w'.heap.size ∧ Kept w w')
set_option maxRecDepth 100000 in
theorem lang_any (A : Option Addr) (n c : Nat) (us : List Nat) (w : World) (hn : n ≤ 300) (hu : Sl u16T w (low w.heap.size) A n us) :
    Calls Tryd.prog 20 #[.slice A n c] w (LangPost n us w) := by
  by_cases h0 : n = 0
  · subst h0
    go_enter Tryd.func20, Tryd.ntmps20
    go_wp2
    refine bodyPost_ret (v := .tuple #[.slice none 0 0, .int .i64 1]) (by simp [results, Tryd.results20, go_sem, *]) rfl ?_
    exact .inl ⟨rfl, rfl, by go_grown⟩
  · by_cases h1 : 126 < n
    · have h0' : ((n : Int) == 0) = false := by simp; omega
      have h1' : (126 : Int) < (n : Int) := by omega
      have H1 := hide h1
      clear h1 h0
      go_enter Tryd.func20, Tryd.ntmps20
      go_wp2
      refine bodyPost_ret (v := .tuple #[.slice none 0 0, .int .i64 3]) (by simp [results, Tryd.results20, go_sem, *]) rfl ?_
      exact .inr (.inl ⟨H1.out, rfl, by go_grown⟩)
    · have h0' : ((n : Int) == 0) = false := by simp; omega
      have h1' : (n : Int) ≤ 126 := by omega
      have H1 := hide (show 0 < n ∧ n ≤ 126 by omega)
      clear h1 h0
      go_enter Tryd.func20, Tryd.ntmps20
      go_wp2_with (go_at_call 25; refine (desc_any _ _ _ us _ hn hu).mono ?_; rintro e w1 ⟨g, rfl, hF, hg1, hg2, hk⟩)
      refine bodyPost_ret (v := .tuple #[.slice (some ⟨g, 0, none⟩) (2 + 2 * n) (2 + 2 * n), .int .i64 0]) (by simp [results, Tryd.results20, go_sem, *]) rfl ?_
      exact .inr (.inr ⟨H1.out.1, H1.out.2, g, rfl, hF, hg1, hg2, hk⟩)
end Go.Proofs.YtokijdgakphfiaaDoor
