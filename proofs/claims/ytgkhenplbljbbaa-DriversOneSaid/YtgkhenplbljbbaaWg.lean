
/- Which drivers are valid. The rules read as rules. -/
import Derived.Test.YtgkhenplbljbbaaChecked
import Derived.Deep.RegionHeld3
import Derived.Deep.DrawnRows
import Derived.Deep.DeepCutAuto
import Derived.Deep.LoopGhost
import Derived.Outline
import Derived.Handy
import Derived.Test.YtgkhenplbljbbaaWf
set_option linter.unusedVariables false
set_option linter.unusedSimpArgs false
set_option linter.unusedSectionVars false
namespace Go.Proofs.Ytgkhenplbljbbaa
open Go.RowKit

set_option maxHeartbeats 1000000 in
theorem valid_any (s : ByteArray) (A : Option Addr) (n c : Nat) (l : List Rule) (w : World) (hn : n ≤ maxLen) (hs : s.size ≤ maxLen) (hl : Sl ruleT w (low w.heap.size) A n l) :
    Calls Try.prog 32 #[.agg #[.string s, .slice A n c]] w fun e w' => e = .returned (.bool (!(Drv.bad ⟨s, l⟩))) ∧ Kept w w' := by
  unfold maxLen at hs
  have hsz0 : s.size ≤ 9223372036854775807 := by omega
  by_cases h0 : s.size = 0
  · have he := bytes_empty h0
    have Hb : Hid (Drv.bad ⟨s, l⟩ = true) := by simp [Hid, Drv.bad, badName, h0]
    clear h0
    go_enter Try.func32, Try.ntmps32
    go_wp2
    go_ret
    exact ⟨by rw [Hb.out]; rfl, by go_grown⟩
  · obtain ⟨hne, he⟩ := bytes_some h0
    have hpos : 0 < s.size := by omega
    by_cases h1 : 32 < s.size
    · have Hb : Hid (Drv.bad ⟨s, l⟩ = true) := by simp [Hid, Drv.bad, badName, h1]
      have h1' : (32 : Int) < (s.size : Int) := by omega
      clear h0
      go_enter Try.func32, Try.ntmps32
      go_wp2
      all_goals go_ret
      all_goals exact ⟨by rw [Hb.out]; rfl, by go_grown⟩
    · have h1' : (s.size : Int) ≤ 32 := by omega
      have Hb : Hid (Drv.bad ⟨s, l⟩ = (s.data.toList.any badC || l.any Rule.bad)) := by
        have e0 : (s.size == 0) = false := by simpa using h0
        have e1 : decide (32 < s.size) = false := decide_eq_false h1
        show (s.size == 0 || decide (32 < s.size) || s.data.toList.any badC || l.any Rule.bad) = _
        rw [e0, e1]; rfl
      clear h0
      go_enter Try.func32, Try.ntmps32
      go_wp2_with fail
      refine wp_name (B := w.heap.size) (w0 := w) (by go_grown) (fun W hcW hfW hz hkW => ?_)
      simp only [World.size_alloc] at hz
      have hlW := hl.below hkW
      go_loopg [16] s.size (fun g s16 wr => ∃ k : Nat, k + g = s.size ∧ s16 = .int .i64 k ∧ Hid (∀ (j : Nat) (y : UInt8), j < k → s.data.toList[j]? = some y → badC y = false) ∧ W = wr)
      case atStart => exact ⟨0, by omega, rfl, fun j y h => by omega, rfl⟩
      case round =>
        obtain ⟨k, hk, rfl, Hc, rfl⟩ := hrel
        have Hk := hide hk
        clear hk
        by_cases hlt : k < s.size
        · have hlt' : (k : Int) < (s.size : Int) := by omega
          have hk0 : (0 : Int) ≤ (k : Int) := by omega
          have Hat := hide (byte_at hlt)
          have bad_yes : badC s[k] = true → Drv.bad ⟨s, l⟩ = true := fun hbt => by
            have ha : s.data.toList.any badC = true := List.any_eq_true.2 ⟨_, List.mem_of_getElem? Hat.out, hbt⟩
            rw [Hb.out, ha]; rfl
          have By := hide bad_yes
          clear bad_yes
          go_wp2
          · have hbt : badC s[k] = true := by simp only [badC, Bool.or_eq_true, decide_eq_true_eq]; omega
            go_ret
            exact ⟨by rw [By.out hbt]; rfl, hkW⟩
          · have hbf : badC s[k] = false := by simp only [badC, Bool.or_eq_false_iff, decide_eq_false_iff_not]; omega
            go_roundg (gk - 1)
            case measure => have := Hk.out; omega
            case rel => exact ⟨k + 1, by have := Hk.out; omega, by go_num, clear_succ Hat.out hbf Hc.out, rfl⟩
          · have hbt : badC s[k] = true := by simp only [badC, Bool.or_eq_true, decide_eq_true_eq]; omega
            go_ret
            exact ⟨by rw [By.out hbt]; rfl, hkW⟩
        · have hkn : k = s.data.toList.length := by have := Hk.out; have : s.data.toList.length = s.size := by simp
                                                    omega
          have ha : s.data.toList.any badC = false := by
            rw [List.any_eq_false]
            intro x hx
            obtain ⟨j, hj, e⟩ := List.getElem_of_mem hx
            rw [← e, Hc.out j _ (by omega) (List.getElem?_eq_getElem hj)]; simp
          have Hb2 : Hid (Drv.bad ⟨s, l⟩ = l.any Rule.bad) := by rw [Hb.out, ha]; exact Bool.false_or _
          clear hkn ha
          go_wp2_with (go_at_call 46; refine (conr_any _ _ _ _ _ hn (hlW.more hkW.size)).mono ?_; rintro e w1 ⟨rfl, hk⟩)
          go_ret
          exact ⟨by rw [Hb2.out]; rfl, hkW.trans (hk.mono hkW.size)⟩
end Go.Proofs.Ytgkhenplbljbbaa
