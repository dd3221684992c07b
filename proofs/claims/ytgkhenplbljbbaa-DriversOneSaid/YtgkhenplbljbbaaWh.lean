
/- What Check returns: the first error of a list of drivers. The list reads as drivers. -/
import Derived.Test.YtgkhenplbljbbaaChecked
import Derived.Deep.RegionHeld3
import Derived.Deep.DrawnRows
import Derived.Deep.DeepCutAuto
import Derived.Deep.LoopGhost
import Derived.Outline
import Derived.Handy
import Derived.Test.YtgkhenplbljbbaaWg
import Derived.Test.YtgkhenplbljbbaaMp
import Derived.OwnWalk
set_option linter.unusedVariables false
set_option linter.unusedSimpArgs false
set_option linter.unusedSectionVars false
namespace Go.Proofs.Ytgkhenplbljbbaa
open Go.RowKit Go.Maps

set_option maxHeartbeats 1000000 in
theorem idxd_any (A : Option Addr) (n c : Nat) (l : List Drv) (w : World) (hn : n ≤ maxLen) (hl : Sl drvT w (low w.heap.size) A n l) :
    Calls Try.prog 45 #[.slice A n c, .func (.func 31) #[] #[]] w fun e w' => e = .returned (.int .i64 (idxS Drv.many l)) ∧ Kept w w' := by
  unfold maxLen at hn
  have hll := hide hl.1
  go_enter Try.func45, Try.ntmps45
  go_wp2_with fail
  go_loopg [8] n (fun g s8 wr => ∃ k : Nat, k + g = n ∧ s8 = .int .i64 k ∧ Hid (∀ (j : Nat) (y : Drv), j < k → l[j]? = some y → y.many = false) ∧ Kept w wr)
  case atStart => exact ⟨0, by omega, rfl, fun j y h => by omega, Below.refl _ _⟩
  case round =>
    obtain ⟨k, hk, rfl, Hb, hkw⟩ := hrel
    have Hk := hide hk
    clear hk
    by_cases hlt : k < n
    · obtain ⟨d, b, off, A', c', hd, rfl, hbw, hbr, hc1, hc2, _, hd0, hd1, _⟩ := drv_at hl hkw hlt
      have Hd := hide hd
      clear hd
      have hlt' : (k : Int) < (n : Int) := by omega
      have hk0 : (0 : Int) ≤ (k : Int) := by omega
      by_cases hbad : 32 < d.rules.length
      · have hb' : decide (32 < d.rules.length) = true := decide_eq_true hbad
        go_wp2_with (go_at_call 31; refine (many_any _ _ _ _ _).mono ?_; rintro e w1 ⟨rfl, hk⟩)
        go_ret
        exact ⟨by rw [idxS_found Hd.out hb' Hb.out]; rfl, hkw.trans' hk⟩
      · have hb' : decide (32 < d.rules.length) = false := decide_eq_false hbad
        go_wp2_with (go_at_call 31; refine (many_any _ _ _ _ _).mono ?_; rintro e w1 ⟨rfl, hk⟩)
        go_roundg (gk - 1)
        case measure => have := Hk.out; omega
        case rel => exact ⟨k + 1, by have := Hk.out; omega, by go_num, clear_succ Hd.out hb' Hb.out, hkw.trans' hk⟩
    · have hkn : k = l.length := by have := Hk.out; have := hll.out; omega
      have Hf : Hid (idxS Drv.many l = -1) := idxS_none (hkn ▸ Hb.out)
      clear hkn
      go_wp2
      go_ret
      exact ⟨by rw [Hf.out]; rfl, hkw⟩

theorem cond_any (A : Option Addr) (n c : Nat) (l : List Drv) (w : World) (hn : n ≤ maxLen) (hl : Sl drvT w (low w.heap.size) A n l) :
    Calls Try.prog 30 #[.slice A n c, .func (.func 31) #[] #[]] w fun e w' => e = .returned (.bool (l.any Drv.many)) ∧ Kept w w' := by
  have Hi := hide (idxS_any Drv.many l)
  go_enter Try.func30, Try.ntmps30
  go_wp2_with (go_at_call 45; refine (idxd_any _ _ _ _ _ hn hl).mono ?_; rintro e w1 ⟨rfl, hk⟩)
  go_ret
  exact ⟨by rw [← Hi.out]; rfl, hk⟩

theorem zero4 : ∀ w : World, (zeroValue 4).run Try.prog w = .ok (.bool false) w := fun w => by kernel_rfl

set_option maxRecDepth 100000 in
set_option maxHeartbeats 2000000 in
theorem check_any (A : Option Addr) (n c : Nat) (l : List Drv) (w : World) (hn : n ≤ maxLen) (hl : Sl drvT w (low w.heap.size) A n l) :
    Calls Try.prog 16 #[.slice A n c] w fun e w' => e = .returned (.int .i64 (checkS l)) ∧ Kept w w' := by
  have hn' := hn
  unfold maxLen at hn
  have hll := hide hl.1
  have hmm := @run_makeMap Try.prog
  by_cases h64 : 64 < n
  · have Hs : Hid (checkS l = 3) := by unfold checkS; exact if_pos (by simp [hl.1, h64])
    have h64' : (64 : Int) < (n : Int) := by omega
    go_enter Try.func16, Try.ntmps16
    go_wp2
    go_ret
    exact ⟨by rw [Hs.out]; rfl, by go_grown⟩
  · have h64' : (n : Int) ≤ 64 := by omega
    cases hmany : l.any Drv.many
    · have Hs : Hid (checkS l = firstErr l) := by unfold checkS; exact if_neg (by simp only [hl.1, hmany]; simpa using h64)
      go_enter Try.func16, Try.ntmps16
      go_wp2_with (go_at_call 30; refine (cond_any _ _ _ _ _ hn' hl).mono ?_; rw [hmany]; rintro e w1 ⟨rfl, hk⟩)
      have hkn : Kept w (w1.alloc (.map #[] 0)) := Below.alloc hk hk.size _
      have hmap := World.ownsMap_made (H := Unit) w1 Try.prog 9 (plainElem Try.prog 4)
      generalize hbm : w1.heap.size = bm at *
      have hbmw : w.heap.size ≤ bm := by rw [← hbm]; exact hk.size
      have Hbm := hide hbm
      clear hbm
      refine wp_at (fun W => Kept w W ∧ W.ownsMap Try.prog 9 (plainElem (H := Unit) Try.prog 4) bm 0 (.map [])) ⟨hkn, hmap⟩ (fun W hW => ?_)
      obtain ⟨hkW, hmW⟩ := hW
      clear hkn hmap hk
      go_loopg [16] n (fun g s16 wr => ∃ k : Nat, k + g = n ∧ s16 = .int .i64 k ∧ Hid (firstErr l = errFrom l g k) ∧ wr.ownsMap Try.prog 9 (plainElem (H := Unit) Try.prog 4) bm k (strSet ((l.take k).map Drv.name)) ∧ Kept w wr)
      case atStart => exact ⟨0, by omega, rfl, by rw [← hll.out]; exact rfl, hmW, hkW⟩
      case round =>
        obtain ⟨k, hk, rfl, He, hmr, hkw⟩ := hrel
        clear hkW hmW
        by_cases hlt : k < n
        · obtain ⟨g, rfl⟩ : ∃ g, gk = g + 1 := ⟨gk - 1, by omega⟩
          have Hk := hide hk
          clear hk
          have hk63 : k < maxLen := by unfold maxLen; omega
          obtain ⟨d, b, off, A', c', hd, rfl, hbw, hbr, hc1, hc2, hns, hd0, hd1, hrs⟩ := drv_at hl hkw hlt
          have Hd := hide hd
          clear hd
          have hlt' : (k : Int) < (n : Int) := by omega
          have Hst := hide (strSet_at ((l.take k).map Drv.name) d.name)
          have Hsn : Hid ((l.take (k + 1)).map Drv.name = (l.take k).map Drv.name ++ [d.name]) := map_take_succ Hd.out
          cases hbad : d.bad
          · cases hdup : ((l.take k).map Drv.name).any (fun x => sameB x d.name)
            · have Hkey := hide (WideMaps.keyOf_string_mk Try.underlying9 hns)
              have Herr := hide (errFrom_no (f := g) Hd.out (oneErr_ok hbad hdup))
              go_wp2_with (first
                | (go_at_call 32; refine (valid_any _ _ _ _ d.rules _ (by omega) hns ((hrs.below (hkw.alloc hkw.size _)).more (Nat.le_trans hkw.size (by simp)))).mono ?_; rw [show (⟨d.name, d.rules⟩ : Drv) = d from rfl, hbad]; rintro e w2 ⟨rfl, hk⟩; obtain ⟨hcq, hfq⟩ := bcell hk
                   have hq2 : wr.heap.size < w2.heap.size := by have := hk.size; simp only [World.size_alloc] at this; omega
                   have hm2 := (hmr.alloc (.cells #[.string d.name, .slice A' d.rules.length c'] 41)).kept (grown_of_kept hk none) (by simp))
                | (at_lookup; refine wpList_lookup_own_bool _ rfl _ _ 107 rfl 9 4 (string_keyed Try.underlying9) Try.underlying107 Try.underlying4 (zero4 _) bm k _ rfl hm2 _ _ rfl Hkey.out ?_
                   intro c0 hc0; obtain rfl : c0 = false := by (rw [Hst.out, hdup] at hc0; injection hc0 with h; injection h with h; exact h.symm))
                | (at_mapUpdate; refine wpList_mapUpdate_own _ rfl _ _ _ 107 rfl 9 4 (string_keyed Try.underlying9) Try.underlying107 (plainElem (H := Unit) Try.prog 4) bm k _ rfl hm2 hk63 _ _ _ rfl rfl Hkey.out (.lit (.bool true)) [] (plainElem_bool Try.underlying4 true) ?_
                   intro w3 hm3 hg3))
              go_roundg g
              case measure => omega
              case rel => exact ⟨k + 1, by have := Hk.out; omega, by go_num, by rw [← Herr.out]; exact He.out, by rw [Hsn.out, strSet_snoc]; exact hm3, (((hkw.alloc hkw.size _).trans (hk.mono (by simp only [World.size_alloc]; have := hkw.size; omega))).grown hg3 (by have h1 := hk.size; have h2 := hkw.size; simp only [World.size_alloc] at h1; omega) (fun q hq => by injection hq with hq; omega))⟩
            · have Hkey := hide (WideMaps.keyOf_string_mk Try.underlying9 hns)
              have Herr := hide (errFrom_yes (f := g) Hd.out (oneErr_dup hbad hdup) (by decide))
              go_wp2_with (first
                | (go_at_call 32; refine (valid_any _ _ _ _ d.rules _ (by omega) hns ((hrs.below (hkw.alloc hkw.size _)).more (Nat.le_trans hkw.size (by simp)))).mono ?_; rw [show (⟨d.name, d.rules⟩ : Drv) = d from rfl, hbad]; rintro e w2 ⟨rfl, hk⟩; obtain ⟨hcq, hfq⟩ := bcell hk
                   have hq2 : wr.heap.size < w2.heap.size := by have := hk.size; simp only [World.size_alloc] at this; omega
                   have hm2 := (hmr.alloc (.cells #[.string d.name, .slice A' d.rules.length c'] 41)).kept (grown_of_kept hk none) (by simp))
                | (at_lookup; refine wpList_lookup_own_bool _ rfl _ _ 107 rfl 9 4 (string_keyed Try.underlying9) Try.underlying107 Try.underlying4 (zero4 _) bm k _ rfl hm2 _ _ rfl Hkey.out ?_
                   intro c0 hc0; obtain rfl : c0 = true := by (rw [Hst.out, hdup] at hc0; injection hc0 with h; injection h with h; exact h.symm)))
              go_ret
              exact ⟨by rw [Hs.out, He.out, Herr.out]; rfl, (hkw.alloc hkw.size _).trans (hk.mono (by simp only [World.size_alloc]; have := hkw.size; omega))⟩
          · have Herr := hide (errFrom_yes (f := g) Hd.out (oneErr_bad (l := l) (k := k) hbad) (by decide))
            go_wp2_with (first
                | (go_at_call 32; refine (valid_any _ _ _ _ d.rules _ (by omega) hns ((hrs.below (hkw.alloc hkw.size _)).more (Nat.le_trans hkw.size (by simp)))).mono ?_; rw [show (⟨d.name, d.rules⟩ : Drv) = d from rfl, hbad]; rintro e w2 ⟨rfl, hk⟩))
            go_ret
            exact ⟨by rw [Hs.out, He.out, Herr.out]; rfl, (hkw.alloc hkw.size _).trans (hk.mono (by simp only [World.size_alloc]; have := hkw.size; omega))⟩
        · have hg0 : gk = 0 := by omega
          have Hz : Hid (firstErr l = 0) := by rw [He.out, hg0]; exact rfl
          clear hk hg0
          go_wp2
          go_ret
          exact ⟨by rw [Hs.out, Hz.out]; rfl, hkw⟩
    · have Hs : Hid (checkS l = 3) := by unfold checkS; exact if_pos (by simp [hmany])
      go_enter Try.func16, Try.ntmps16
      go_wp2_with (go_at_call 30; refine (cond_any _ _ _ _ _ hn' hl).mono ?_; rw [hmany]; rintro e w1 ⟨rfl, hk⟩)
      go_ret
      exact ⟨by rw [Hs.out]; rfl, hk⟩
end Go.Proofs.Ytgkhenplbljbbaa
