
/- Two choices that read alike are the same. -/
import Derived.Test.YtgkhenplbljbbaaChecked
import Derived.Deep.RegionHeld3
import Derived.Deep.DrawnRows
import Derived.Deep.DeepCutAuto
import Derived.Deep.LoopGhost
import Derived.Outline
import Derived.Handy
import Derived.Deep.RegionLaw
import Derived.Deep.QuietTactic
import Derived.BigQuiet
import Derived.Test.YtgkhenplbljbbaaEa
import Derived.Test.YtgkhenplbljbbaaPd
set_option linter.unusedVariables false
set_option linter.unusedSimpArgs false
set_option linter.unusedSectionVars false
namespace Go.Proofs.Ytgkhenplbljbbaa
open Go.RowKit
attribute [local go_sem ↓] Go.wp_at_zero Go.wp_at_succ

theorem i64_at {w w' : World} {B n k : Nat} {A : Option Addr} {l : List Int} (h : Sl i64T w (low B) A n l) (hb : Below B w w') (hk : k < n) : ∃ x b off, l[k]? = some x ∧ A = some ⟨b, off, none⟩ ∧ b < B ∧ b < w'.heap.size ∧
    w'.cell? ⟨b, off + k, none⟩ = some (.int .i64 x) := by
  obtain ⟨x, b, off, cs, hx, hA, hbb, ⟨rfl, _⟩, hc⟩ := h.at hk
  have hc' := range_below hc hb hbb
  have h0 := hc' 0 _ rfl
  simp only [i64T, Ty.flat, Nat.mul_one, Nat.add_zero] at h0
  exact ⟨x, b, off, hx, hA, hbb, World.block_lt_of_cell? w' _ h0, h0⟩

set_option maxHeartbeats 2000000 in
theorem same_any (q : Int) (A1 A2 : Option Addr) (n c : Nat) (l : List Int) (w : World) (hn : n ≤ maxLen) (h1 : Sl i64T w (low w.heap.size) A1 n l) (h2 : Sl i64T w (low w.heap.size) A2 n l) :
    Calls Try.prog 21 #[.agg #[.int .u8 q, .slice A1 n n], .agg #[.int .u8 q, .slice A2 n c]] w fun e w' => e = .returned (.bool true) ∧ Kept w w' := by
  unfold maxLen at hn
  go_enter Try.func21, Try.ntmps21
  go_wp2_with fail
  refine wp_name (B := w.heap.size) (w0 := w) (by go_grown) (fun W hcW hfW hz hkW => ?_)
  simp only [World.size_alloc] at hz
  have HcW := hide hcW
  go_loopg [5] n (fun g s5 wr => ∃ k : Nat, k + g = n ∧ s5 = .int .i64 k ∧ Below W.heap.size W wr)
  case atStart => exact ⟨0, by omega, rfl, Below.refl _ _⟩
  case round =>
    obtain ⟨k, hk, rfl, hbel⟩ := hrel
    have Hk := hide hk
    have hkn : k ≤ n := by omega
    clear hk
    obtain ⟨hcr, hfr⟩ := bcell hbel
    have hs0 : w.heap.size < wr.heap.size := by have := hbel.size; omega
    have hs1 : w.heap.size + 1 < wr.heap.size := by have := hbel.size; omega
    have hkw : Kept w wr := hkW.trans (hbel.mono hkW.size)
    by_cases hlt : k < n
    · obtain ⟨x, b1, o1, hx1, rfl, hb1, hb1r, e1⟩ := i64_at h1 hkw hlt
      obtain ⟨x', b2, o2, hx2, rfl, hb2, hb2r, e2⟩ := i64_at h2 hkw hlt
      rw [hx1] at hx2
      injection hx2 with hxx
      subst hxx
      clear hx1
      have hlt' : (k : Int) < (n : Int) := by omega
      have hk0 : (0 : Int) ≤ (k : Int) := by omega
      go_wp2_with fail
      go_quiet (fail)
      go_wp2_with fail
      go_roundg (gk - 1)
      case measure => have := Hk.out; omega
      case rel => exact ⟨k + 1, by have := Hk.out; omega, by go_num, below_drewN hbel _⟩
    · have hlt' : (n : Int) ≤ (k : Int) := by omega
      go_wp2_with fail
      go_ret
      exact ⟨rfl, hkw⟩
end Go.Proofs.Ytgkhenplbljbbaa
