
/- The law's check. -/
import Derived.Test.YtdkinfglpnajmaaChecked
import Derived.Deep.RegionHeld3
import Derived.Deep.DrawnRows
import Derived.Deep.DeepCutAuto
import Derived.Deep.LoopGhost
import Derived.Outline
import Derived.Handy
import Derived.OwnWalk
import Derived.IntWalk
import Derived.Deep.QuietTactic
import Derived.BigQuiet
import Derived.Test.YtdkinfglpnajmaaGb
set_option linter.unusedVariables false
set_option linter.unusedSimpArgs false
set_option linter.unusedSectionVars false
namespace Go.Proofs.Ytdkinfglpnajmaa
open Go.RowKit
attribute [local go_sem ↓] Go.wp_at_zero Go.wp_at_succ

set_option maxRecDepth 100000 in
set_option maxHeartbeats 1000000 in
theorem lawcheck_any (A : Option Addr) (n c : Nat) (l : List Pc) (size : Int) (w : World) (hl : Sl pcT w (low w.heap.size) A n l) (h64 : ∀ p ∈ l, i64 p.pos ∧ i64 p.len) (hs : i64 size) (hn : n ≤ 1000) :
    Calls Try.prog 24 #[.slice A n c, .int .i64 size] w fun e w' => e = .returned (.int .i64 (chk l size)) ∧ Kept w w' := by
  have hln := hl.1
  obtain ⟨hs1, hs2⟩ := hs
  by_cases hbig : 256 < n
  · have hchk : chk l size = 3 := by rw [chk, if_pos (by omega)]
    replace hchk := Lib.hid hchk
    have hbig' : (256 : Int) < (n : Int) := by omega
    go_enter Try.func24, Try.ntmps24
    go_wp2_with fail
    go_ret
    exact ⟨by rw [hchk.out]; rfl, Below.refl _ _⟩
  · have hlen : l.length ≤ 256 := by omega
    have hbig' : (n : Int) ≤ 256 := by omega
    replace hln := Lib.hid hln
    go_enter Try.func24, Try.ntmps24
    go_wp2_with fail
    go_loopg [5] n (fun g s15 wr => ∃ k : Nat, k + g = n ∧ s15 = .int .i64 (k : Int) ∧ Hid (∀ p ∈ l.take k, badP size p = false) ∧ Kept w wr)
    case atStart => exact ⟨0, by omega, by rfl, Lib.hid (fun p hp => by simp at hp), Below.refl _ _⟩
    case round =>
      obtain ⟨k, hk, rfl, hg, hkw⟩ := hrel
      by_cases hlt : k < n
      · obtain ⟨p, b, off, hx, rfl, hbb, hbw, c0, c1⟩ := pc_at hl hkw hlt
        have hp := h64 p (List.mem_of_getElem? hx)
        obtain ⟨⟨p1, p2⟩, ⟨p3, p4⟩⟩ := hp
        have hlt' : (k : Int) < (n : Int) := by omega
        by_cases b1 : p.pos < 0
        · skip
          have hbp : badP size p = true := by simp only [badP, Bool.or_eq_true, decide_eq_true_eq]; omega
          have hchk := Lib.hid (chk_bad hlen hx hbp)
          clear hx hbp
          go_wp2_with fail
          go_quiet (fail)
          go_wp2_with fail
          go_ret
          exact ⟨by rw [hchk.out]; rfl, below_drewN hkw _⟩
        · have b1' : 0 ≤ p.pos := by omega
          have f1 : decide (p.pos < 0) = false := decide_eq_false b1
          by_cases b2 : p.len < 0
          · skip
            have hbp : badP size p = true := by simp only [badP, Bool.or_eq_true, decide_eq_true_eq]; omega
            have hchk := Lib.hid (chk_bad hlen hx hbp)
            clear hx hbp
            go_wp2_with fail
            go_quiet (fail)
            go_wp2_with fail
            go_ret
            exact ⟨by rw [hchk.out]; rfl, below_drewN hkw _⟩
          · have b2' : 0 ≤ p.len := by omega
            have f2 : decide (p.len < 0) = false := decide_eq_false b2
            by_cases b3 : size < p.len
            · skip
              have hbp : badP size p = true := by simp only [badP, Bool.or_eq_true, decide_eq_true_eq]; omega
              have hchk := Lib.hid (chk_bad hlen hx hbp)
              clear hx hbp
              go_wp2_with fail
              go_quiet (fail)
              go_wp2_with fail
              go_ret
              exact ⟨by rw [hchk.out]; rfl, below_drewN hkw _⟩
            · have b3' : p.len ≤ size := by omega
              have f3 : decide (size < p.len) = false := decide_eq_false b3
              have hw : IntKind.i64.wrap (size - p.len) = size - p.len := IntWalk.i64_in _ ⟨by omega, by omega⟩
              by_cases b4 : size - p.len < p.pos
              · skip
                have hbp : badP size p = true := by simp only [badP, Bool.or_eq_true, decide_eq_true_eq]; omega
                have hchk := Lib.hid (chk_bad hlen hx hbp)
                clear hx hbp
                go_wp2_with fail
                go_quiet (fail)
                go_wp2_with fail
                go_ret
                exact ⟨by rw [hchk.out]; rfl, below_drewN hkw _⟩
              · have b4' : p.pos ≤ size - p.len := by omega
                have f4 : decide (size - p.len < p.pos) = false := decide_eq_false b4
                have hgood : badP size p = false := by simp only [badP, Bool.or_eq_false_iff, decide_eq_false_iff_not]; omega
                have hnext : ∀ q ∈ l.take (k + 1), badP size q = false := fun q hq => by
                  obtain ⟨hk2, e⟩ := List.getElem?_eq_some_iff.1 hx
                  rw [List.take_succ_eq_append_getElem hk2, e] at hq
                  rcases List.mem_append.1 hq with hq | hq
                  · exact hg.out q hq
                  · rw [List.mem_singleton.1 hq]; exact hgood
                replace hnext := Lib.hid hnext
                clear hx hgood
                go_wp2_with fail
                go_quiet (fail)
                go_wp2_with fail
                go_roundg (gk - 1)
                case measure => omega
                case rel => exact ⟨k + 1, by omega, by go_num, hnext, below_drewN hkw _⟩
      · have hlt' : (n : Int) ≤ (k : Int) := by omega
        have hall : l.any (badP size) = false := by
          rw [List.any_eq_false]
          intro p hp
          rw [hg.out p (by rw [List.take_of_length_le (by have := hln.out; omega)]; exact hp)]
          simp
        have hchk : chk l size = if sumBad 0 l then 3 else 0 := by rw [chk, if_neg (by omega), hall]; rfl
        have hpos : ∀ p ∈ l, 0 ≤ p.pos ∧ 0 ≤ p.len := fun p hp => by
          have := hg.out p (by rw [List.take_of_length_le (by have := hln.out; omega)]; exact hp)
          simp only [badP, Bool.or_eq_false_iff, decide_eq_false_iff_not] at this
          omega
        replace hall := Lib.hid hall
        replace hchk := Lib.hid hchk
        replace hpos := Lib.hid hpos
        obtain ⟨W, rfl⟩ : ∃ W, W = wr := ⟨_, rfl⟩
        obtain ⟨g0, rfl⟩ : ∃ g, g = gk := ⟨_, rfl⟩
        go_wp2_with fail
        go_loopg [6, 7] n (fun g s7 s45 wr => ∃ (j : Nat) (z : Int), j + g = n ∧ s45 = .int .i64 (j : Int) ∧ s7 = .int .i64 z ∧ 0 ≤ z ∧ z ≤ 65536 ∧ Hid (sumBad 0 l = sumBad z (l.drop j)) ∧ Kept w wr)
        case atStart => exact ⟨0, 0, by omega, by rfl, by rfl, by omega, by omega, Lib.hid (by simp), hkw⟩
        case round =>
          obtain ⟨j, z, hj, rfl, rfl, hz0, hz1, hsb, hkj⟩ := hrel
          by_cases hjl : j < n
          · obtain ⟨p, b, off, hx, rfl, hbb, hbw, c0, c1⟩ := pc_at hl hkj hjl
            have hp := (hpos.out p (List.mem_of_getElem? hx)).2
            have hp4 := (h64 p (List.mem_of_getElem? hx)).2.2
            have hjl' : (j : Int) < (n : Int) := by omega
            by_cases hb : 65536 - z < p.len
            · have hs3 : sumBad 0 l = true := by rw [hsb.out, drop_sum hx]; simp [hb]
              replace hs3 := Lib.hid hs3
              clear hx
              go_wp2_with fail
              go_ret
              exact ⟨by rw [hchk.out, hs3.out]; rfl, hkj⟩
            · have hb' : p.len ≤ 65536 - z := by omega
              have hs3 : sumBad 0 l = sumBad (z + p.len) (l.drop (j + 1)) := by rw [hsb.out, drop_sum hx]; simp [hb]
              replace hs3 := Lib.hid hs3
              clear hx
              go_wp2_with fail
              go_roundg (gk - 1)
              case measure => omega
              case rel => exact ⟨j + 1, z + p.len, by omega, by go_num, by go_num, by omega, by omega, hs3, hkj⟩
          · have hjl' : (n : Int) ≤ (j : Int) := by omega
            have hs3 : sumBad 0 l = false := by
              rw [hsb.out, List.drop_eq_nil_of_le (by have := hln.out; omega)]
              rfl
            replace hs3 := Lib.hid hs3
            go_wp2_with fail
            go_ret
            exact ⟨by rw [hchk.out, hs3.out]; rfl, hkj⟩
end Go.Proofs.Ytdkinfglpnajmaa
