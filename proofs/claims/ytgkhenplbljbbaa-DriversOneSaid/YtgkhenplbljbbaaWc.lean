
/- What Match returns: the first driver with the greatest score. The list reads as drivers with rules in their range, at most 2^31 each. -/
import Derived.Test.YtgkhenplbljbbaaChecked
import Derived.Deep.RegionHeld3
import Derived.Deep.DrawnRows
import Derived.Deep.DeepCutAuto
import Derived.Deep.LoopGhost
import Derived.Outline
import Derived.Handy
import Derived.Test.YtgkhenplbljbbaaWa
set_option linter.unusedVariables false
set_option linter.unusedSimpArgs false
set_option linter.unusedSectionVars false
namespace Go.Proofs.Ytgkhenplbljbbaa
open Go.RowKit
attribute [local go_sem ↓] Go.wp_at_zero Go.wp_at_succ

set_option maxHeartbeats 2000000 in
theorem match_any (A : Option Addr) (n c : Nat) (l : List Drv) (d0 d1 d2 d3 d4 d5 d6 d7 d8 d9 d10 d11 i0 i1 i2 i3 i4 i5 i6 : Int) (w : World) (hn : n ≤ maxLen) (hl : Sl drvT w (low w.heap.size) A n l) :
    Calls Try.prog 14 #[.slice A n c, .agg #[.int .u16 d0, .int .u8 d1, .int .u8 d2, .int .u8 d3, .int .u8 d4, .int .u16 d5, .int .u16 d6, .int .u16 d7, .int .u8 d8, .int .u8 d9, .int .u8 d10, .int .u8 d11], .agg #[.int .u8 i0, .int .u8 i1, .int .u8 i2, .int .u8 i3, .int .u8 i4, .int .u8 i5, .int .u8 i6]] w fun e w' =>
      e = .returned (.tuple #[.int .i64 (matchS (fun r => r.score d5 d6 i3 i4 i5) l).1, .int .i64 (matchS (fun r => r.score d5 d6 i3 i4 i5) l).2]) ∧ Kept w w' := by
  unfold maxLen at hn
  have hll := hide hl.1
  go_enter Try.func14, Try.ntmps14
  go_wp2_with fail
  refine wp_name (B := w.heap.size) (w0 := w) (by go_grown) (fun W hcW hfW hz hkW => ?_)
  simp only [World.size_alloc] at hz
  generalize hsc : (fun r : Rule => r.score d5 d6 i3 i4 i5) = sc
  have Hsc := hide hsc
  clear hsc
  go_loopg [6, 7, 15] n (fun g s6 s7 s15 wr => ∃ k : Nat, k + g = n ∧ s15 = .int .i64 k ∧ s6 = .int .i64 (upTo (stepD sc l) (-1, -1) k).1 ∧ s7 = .int .i64 (upTo (stepD sc l) (-1, -1) k).2 ∧ Below W.heap.size W wr)
  case atStart => exact ⟨0, by omega, rfl, rfl, rfl, Below.refl _ _⟩
  case round =>
    obtain ⟨k, hk, rfl, rfl, rfl, hbel⟩ := hrel
    have Hk := hide hk
    clear hk
    generalize hacc : upTo (stepD sc l) (-1, -1) k = acc
    have Hacc := hide hacc
    clear hacc
    by_cases hlt : k < n
    · have hkr : Kept w wr := hkW.trans (hbel.mono hkW.size)
      obtain ⟨d, b, off, A', c', hd, rfl, _, hbb, hc1, hc2, _, hcell0, hcell1, hrs⟩ := drv_at hl hkr hlt
      unfold maxLen at hc2
      have Hd := hide hd
      clear hd
      have hlt' : (k : Int) < (n : Int) := by omega
      clear hl
      obtain ⟨hcr, hfr⟩ := bcell hbel
      have hws := hbel.size
      go_wp2_with fail
      obtain ⟨wo, rfl⟩ : ∃ wo : World, wo = wr := ⟨_, rfl⟩
      obtain ⟨go, rfl⟩ : ∃ g : Nat, g = gk := ⟨_, rfl⟩
      go_loopg [6, 7, 23] d.rules.length (fun g s6 s7 s23 wi => ∃ j : Nat, j + g = d.rules.length ∧ s23 = .int .i64 j ∧ s6 = .int .i64 (upTo (stepR sc k d.rules) acc j).1 ∧ s7 = .int .i64 (upTo (stepR sc k d.rules) acc j).2 ∧ Below W.heap.size W wi)
      case atStart => exact ⟨0, by omega, rfl, rfl, rfl, by go_grown⟩
      case round =>
        obtain ⟨j, hj, rfl, rfl, rfl, hbei⟩ := hrel
        have Hj := hide hj
        clear hj
        have hupj := hide (upTo_succ (stepR sc k d.rules) acc j)
        generalize hac2 : upTo (stepR sc k d.rules) acc j = ac2 at hupj
        have Hac2 := hide hac2
        clear hac2
        have hwi := hbei.size
        have hq0 : w.heap.size < wr.heap.size := by omega
        have hq1 : w.heap.size + 1 < wr.heap.size := by omega
        have hkr2 : Kept w wr := hkW.trans (hbei.mono hkW.size)
        clear hcr hfr hcell0 hcell1 hws hkr hbel
        obtain ⟨hci, hfi⟩ := bcell hbei
        by_cases hjt : j < d.rules.length
        · obtain ⟨r, b', off', hr, rfl, _, hbw', hok, e0, e1, e2, e3, e4, e5⟩ := rule_at hrs hkr2 hjt
          have Hr := hide hr
          clear hr
          have hjt' : (j : Int) < (d.rules.length : Int) := by omega
          obtain ⟨hok0, hok1⟩ := hok
          have Hscr : Hid (scoreS r.use r.vendor r.product r.cls r.sub r.proto d5 d6 i3 i4 i5 = sc r) := by rw [← Hsc.out]; exact rfl
          go_wp2_with (go_at_call 11; refine (score_any _ _ _ _ _ _ _ _ _ _ _ _ _ _ _ _ _ _ _ _ _ _ _ _ _ _ hok0 hok1).mono ?_; rintro e w1 ⟨rfl, hk⟩)
          · have hlt2 : ac2.2 < sc r := by rw [← Hscr.out]; assumption
            go_roundg (gk - 1)
            case measure => have := Hj.out; omega
            case rel => exact ⟨j + 1, by have := Hj.out; omega, by go_num, by rw [hupj.out, stepR_yes Hr.out hlt2], by rw [hupj.out, stepR_yes Hr.out hlt2, ← Hscr.out], (hbei.alloc hbei.size _).trans (hk.mono (by simp only [World.size_alloc]; omega))⟩
          · have hlt2 : ¬ ac2.2 < sc r := by rw [← Hscr.out]; omega
            go_roundg (gk - 1)
            case measure => have := Hj.out; omega
            case rel => exact ⟨j + 1, by have := Hj.out; omega, by go_num, by rw [hupj.out, stepR_no Hr.out hlt2], by rw [hupj.out, stepR_no Hr.out hlt2], (hbei.alloc hbei.size _).trans (hk.mono (by simp only [World.size_alloc]; omega))⟩
        · have hjn : j = d.rules.length := by have := Hj.out; omega
          have Hup : Hid (upTo (stepD sc l) (-1, -1) (k + 1) = ac2) := by rw [← Hac2.out, hjn, ← stepD_some Hd.out, ← Hacc.out]; exact rfl
          clear hjn
          go_wp2
          go_roundg (go - 1)
          case measure => have := Hk.out; omega
          case rel => exact ⟨k + 1, by have := Hk.out; omega, by go_num, by rw [Hup.out], by rw [Hup.out], hbei⟩
    · have hkn : k = n := by have := Hk.out; omega
      have Hfin : Hid (matchS sc l = acc) := by rw [← Hacc.out, hkn, ← hll.out]; exact rfl
      clear hkn
      go_wp2
      go_ret2
      exact ⟨by rw [Hsc.out, Hfin.out]; rfl, hkW.trans (hbel.mono hkW.size)⟩
end Go.Proofs.Ytgkhenplbljbbaa
