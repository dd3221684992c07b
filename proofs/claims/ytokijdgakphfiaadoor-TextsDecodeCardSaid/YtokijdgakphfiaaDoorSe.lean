
/- The languages of a descriptor. The list reads as bytes. -/
import Derived.Test.YtokijdgakphfiaaDoorChecked
import Derived.Deep.RegionHeld3
import Derived.Deep.DrawnRows
import Derived.Deep.DeepCutAuto
import Derived.Deep.LoopGhost
import Derived.Outline
import Derived.Handy
import Derived.Test.YtokijdgakphfiaaDoorSd
namespace Go.Proofs.YtokijdgakphfiaaDoor
open Go.RowKit
attribute [local go_sem ↓] Go.wp_at_zero Go.wp_at_succ

/-- what DecodeLanguages returns -/
def DecLangPost (bs : List UInt8) (w : World) (e : Ending) (w' : World) : Prop :=
  (badWidth bs ∧ e = .returned (.tuple #[.slice none 0 0, .int .i64 5]) ∧ Kept w w') ∨
  (¬ badWidth bs ∧ (bs.getD 1 0 ≠ 3 ∨ bs.length = 2) ∧ e = .returned (.tuple #[.slice none 0 0, .int .i64 4]) ∧ Kept w w') ∨
  (¬ badWidth bs ∧ bs.getD 1 0 = 3 ∧ bs.length ≠ 2 ∧ ∃ g m, 2 + 2 * m = bs.length ∧ e = .returned (.tuple #[.slice (some ⟨g, 0, none⟩) m m, .int .i64 0]) ∧ Fill w' g 40 m (.int .u16 0) (u16C (numsL (bs.drop 2))) ∧ w.heap.size ≤ g ∧ g < w'.heap.size ∧ Kept w w')
set_option maxRecDepth 100000 in
theorem declang_any (A : Option Addr) (n c : Nat) (bs : List UInt8) (w : World) (hn : n ≤ 1000) (hb : Sl byT w (low w.heap.size) A n bs) :
    Calls Tryd.prog 21 #[.slice A n c] w (DecLangPost bs w) := by
  have hc := nums_any A n c bs w hn hb
  go_enter Tryd.func21, Tryd.ntmps21
  go_wp2_with (go_at_call 27; refine hc.mono ?_; rintro e w1 (⟨h1, rfl, hk⟩ | ⟨h1, h2, rfl, hk⟩ | ⟨h1, h2, g, m, h3, rfl, hF, hg1, hg2, hk⟩))
  · refine bodyPost_ret (v := .tuple #[.slice none 0 0, .int .i64 5]) (by simp [results, Tryd.results21, go_sem]) rfl ?_
    exact .inl ⟨h1, rfl, hk⟩
  · refine bodyPost_ret (v := .tuple #[.slice none 0 0, .int .i64 4]) (by simp [results, Tryd.results21, go_sem]) rfl ?_
    exact .inr (.inl ⟨h1, .inl h2, rfl, hk⟩)
  · refine bodyPost_ret (v := .tuple #[.slice none 0 0, .int .i64 4]) (by simp [results, Tryd.results21, go_sem]) rfl ?_
    exact .inr (.inl ⟨h1, .inr (by simp at *; omega), rfl, hk⟩)
  · refine bodyPost_ret (v := .tuple #[.slice (some ⟨g, 0, none⟩) m m, .int .i64 0]) (by simp [results, Tryd.results21, go_sem]) rfl ?_
    exact .inr (.inr ⟨h1, h2, by simp at *; omega, g, m, h3, rfl, hF, hg1, hg2, hk⟩)
end Go.Proofs.YtokijdgakphfiaaDoor
