
/- What the checks of rules and drivers return. The lists read as rules and drivers. -/
import Derived.Test.YtgkhenplbljbbaaChecked
import Derived.Deep.RegionHeld3
import Derived.Deep.DrawnRows
import Derived.Deep.DeepCutAuto
import Derived.Deep.LoopGhost
import Derived.Outline
import Derived.Handy
import Derived.Deep.RegionLaw
import Derived.Deep.QuietTactic
import Derived.BigQuiet
import Derived.Test.YtgkhenplbljbbaaWa
import Derived.Test.YtgkhenplbljbbaaDb
set_option linter.unusedVariables false
set_option linter.unusedSimpArgs false
set_option linter.unusedSectionVars false
namespace Go.Proofs.Ytgkhenplbljbbaa
open Go.RowKit
attribute [local go_sem ↓] Go.wp_at_zero Go.wp_at_succ neq43

set_option maxHeartbeats 1000000 in
theorem badr_any (u v p c s q : Int) (w : World) :
    Calls Try.prog 47 #[.agg #[.int .u8 (u), .int .u16 (v), .int .u16 (p), .int .u8 (c), .int .u8 (s), .int .u8 (q)]] w fun e w' => e = .returned (.bool (badR u v p c s q)) ∧ Kept w w' := by
  by_cases h0 : u = 0
  · have h0' : (u == 0) = true := by simp [h0]
    clear h0
    have Hr : Hid (badR u v p c s q = true) := by unfold badR; rw [h0']; rfl
    go_enter Try.func47, Try.ntmps47
    go_wp2_with fail
    go_quiet (fail)
    go_wp2
    go_ret
    exact ⟨by rw [Hr.out]; rfl, below_drewN (by go_grown) _⟩
  · have h0' : (u == 0) = false := by simp [h0]
    clear h0
    by_cases h1 : 31 < u
    · have Hr : Hid (badR u v p c s q = true) := by unfold badR; rw [h0', decide_eq_true h1]; rfl
      have h1' : decide (31 < u) = true := decide_eq_true h1
      go_enter Try.func47, Try.ntmps47
      go_wp2_with fail
      go_quiet (fail)
      go_wp2
      go_ret
      exact ⟨by rw [Hr.out]; rfl, below_drewN (by go_grown) _⟩
    · have h1' : decide (31 < u) = false := decide_eq_false h1
      have Hr : Hid (badR u v p c s q = neqB u v p c s q u (pick u 16 v) (pick u 8 p) (pick u 4 c) (pick u 2 s) (pick u 1 q)) := by unfold badR; rw [h0', h1']; rfl
      go_enter Try.func47, Try.ntmps47
      go_wp2_with fail
      refine wp_name (B := w.heap.size) (w0 := w) (by go_grown) (fun W hcW hfW hz hkW => ?_)
      simp only [World.size_alloc] at hz
      go_region_held3 (fun w' => (∀ b o, b < W.heap.size → w'.cell? ⟨b, o, none⟩ = W.cell? ⟨b, o, none⟩) ∧ Below W.heap.size W w') (first | assumption | exact since_start | exact since_keep (by assumption) (Nat.le_refl _) hk) (first | (go_at_call 29; refine (counted_any _ _ _ _ _ _ _).mono ?_; rintro e w1 ⟨rfl, hk⟩))
      go_wp2
      go_ret
      exact ⟨by rw [Hr.out]; rfl, since_kept hkW (by assumption) (Nat.le_refl _)⟩

set_option maxHeartbeats 1000000 in
theorem idxr_any (A : Option Addr) (n c : Nat) (l : List Rule) (w : World) (hn : n ≤ maxLen) (hl : Sl ruleT w (low w.heap.size) A n l) :
    Calls Try.prog 53 #[.slice A n c, .func (.func 47) #[] #[]] w fun e w' => e = .returned (.int .i64 (idxS Rule.bad l)) ∧ Kept w w' := by
  unfold maxLen at hn
  have hll := hide hl.1
  go_enter Try.func53, Try.ntmps53
  go_wp2_with fail
  go_loopg [8] n (fun g s8 wr => ∃ k : Nat, k + g = n ∧ s8 = .int .i64 k ∧ Hid (∀ (j : Nat) (y : Rule), j < k → l[j]? = some y → y.bad = false) ∧ Kept w wr)
  case atStart => exact ⟨0, by omega, rfl, fun j y h => by omega, Below.refl _ _⟩
  case round =>
    obtain ⟨k, hk, rfl, Hb, hkw⟩ := hrel
    have Hk := hide hk
    clear hk
    by_cases hlt : k < n
    · obtain ⟨r, b', off', hr, rfl, _, hbw', _, e0, e1, e2, e3, e4, e5⟩ := rule_at hl hkw hlt
      have Hr := hide hr
      clear hr
      have hlt' : (k : Int) < (n : Int) := by omega
      have hk0 : (0 : Int) ≤ (k : Int) := by omega
      cases hbad : badR r.use r.vendor r.product r.cls r.sub r.proto
      · go_wp2_with (go_at_call 47; refine (badr_any _ _ _ _ _ _ _).mono ?_; rintro e w1 ⟨rfl, hk⟩)
        go_roundg (gk - 1)
        case measure => have := Hk.out; omega
        case rel => exact ⟨k + 1, by have := Hk.out; omega, by go_num, clear_succ Hr.out hbad Hb.out, hkw.trans' hk⟩
      · go_wp2_with (go_at_call 47; refine (badr_any _ _ _ _ _ _ _).mono ?_; rintro e w1 ⟨rfl, hk⟩)
        go_ret
        exact ⟨by rw [idxS_found Hr.out hbad Hb.out]; rfl, hkw.trans' hk⟩
    · have hkn : k = l.length := by have := Hk.out; have := hll.out; omega
      have Hf : Hid (idxS Rule.bad l = -1) := idxS_none (hkn ▸ Hb.out)
      clear hkn
      go_wp2
      go_ret
      exact ⟨by rw [Hf.out]; rfl, hkw⟩

theorem conr_any (A : Option Addr) (n c : Nat) (l : List Rule) (w : World) (hn : n ≤ maxLen) (hl : Sl ruleT w (low w.heap.size) A n l) :
    Calls Try.prog 46 #[.slice A n c, .func (.func 47) #[] #[]] w fun e w' => e = .returned (.bool (l.any Rule.bad)) ∧ Kept w w' := by
  have Hi := hide (idxS_any Rule.bad l)
  go_enter Try.func46, Try.ntmps46
  go_wp2_with (go_at_call 53; refine (idxr_any _ _ _ _ _ hn hl).mono ?_; rintro e w1 ⟨rfl, hk⟩)
  go_ret
  exact ⟨by rw [← Hi.out]; rfl, hk⟩

theorem many_any (s : ByteArray) (A : Option Addr) (n c : Nat) (w : World) :
    Calls Try.prog 31 #[.agg #[.string s, .slice A n c]] w fun e w' => e = .returned (.bool (decide (32 < n))) ∧ Kept w w' := by
  go_enter Try.func31, Try.ntmps31
  go_wp2
  go_ret
  exact ⟨ret_bool (decide_eq_decide.2 (by omega)), by go_grown⟩
end Go.Proofs.Ytgkhenplbljbbaa
