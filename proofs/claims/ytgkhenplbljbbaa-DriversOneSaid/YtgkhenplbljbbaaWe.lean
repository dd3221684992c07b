
/- What the drivers of the plain data are: at most six, with at most four rules each. The plain data reads as rows of four bytes. -/
import Derived.Test.YtgkhenplbljbbaaChecked
import Derived.Deep.RegionHeld3
import Derived.Deep.DrawnRows
import Derived.Deep.DeepCutAuto
import Derived.Deep.LoopGhost
import Derived.Outline
import Derived.Handy
import Derived.Deep.RegionLaw
import Derived.Test.YtgkhenplbljbbaaWb
set_option linter.unusedVariables false
set_option linter.unusedSimpArgs false
set_option linter.unusedSectionVars false
namespace Go.Proofs.Ytgkhenplbljbbaa
open Go.RowKit
attribute [local go_sem ↓] Go.wp_at_zero Go.wp_at_succ

theorem info43 : (Try.prog.info? 43).map (fun i => (i.zero, i.size, i.bytes)) = some (some (.agg #[.int .u8 (0), .int .u16 (0), .int .u16 (0), .int .u8 (0), .int .u8 (0), .int .u8 (0)]), 6, 10) := by kernel_rfl
theorem info41 : (Try.prog.info? 41).map (fun i => (i.zero, i.size, i.bytes)) = some (some (.agg #[.string ByteArray.empty, .slice none 0 0]), 2, 40) := by kernel_rfl

def digitS (i : Nat) : ByteArray := (⟨#[48, 49, 50, 51, 52, 53]⟩ : ByteArray).extract i (i + 1)
def nameD (i : Nat) : ByteArray := ⟨#[68]⟩ ++ digitS i
theorem run_digit (k : Nat) (hk : k < 6) : ∀ W : World, (Instr.slice 9 (.string ⟨#[48, 49, 50, 51, 52, 53]⟩) (some (.int .i64 (k : Int))) (some (.int .i64 ((k : Int) + 1))) none).run Try.prog W = .ok (.string (digitS k)) W := by
  intro W
  rcases (by omega : k = 0 ∨ k = 1 ∨ k = 2 ∨ k = 3 ∨ k = 4 ∨ k = 5) with rfl | rfl | rfl | rfl | rfl | rfl <;> kernel_rfl
theorem digit_size (k : Nat) (hk : k < 6) : (digitS k).size ≤ 1 := by
  rcases (by omega : k = 0 ∨ k = 1 ∨ k = 2 ∨ k = 3 ∨ k = 4 ∨ k = 5) with rfl | rfl | rfl | rfl | rfl | rfl <;> decide
theorem name_size (k : Nat) (hk : k < 6) : (nameD k).size ≤ maxLen := by
  rcases (by omega : k = 0 ∨ k = 1 ∨ k = 2 ∨ k = 3 ∨ k = 4 ∨ k = 5) with rfl | rfl | rfl | rfl | rfl | rfl <;> decide
def drvOf (i : Nat) (row : List Rp) : Drv := ⟨nameD i, (row.take 4).map Rp.rule⟩
def dOf (x : List (List Rp)) : List Drv := (x.take 6).mapIdx drvOf

set_option maxRecDepth 100000 in
set_option maxHeartbeats 2000000 in
theorem dof_any (A : Option Addr) (n c : Nat) (x : List (List Rp)) (w : World) (hn : n ≤ maxLen) (hx : Sl rpT.slice w (low w.heap.size) A n x) :
    Calls Try.prog 9 #[.slice A n c] w fun e w' => ∃ v, e = .returned v ∧ Own drvT 41 w.heap.size w' v (dOf x).length (dOf x) ∧ Kept w w' := by
  unfold maxLen at hn
  obtain ⟨i3, hi3, hz30, hz31, hz32⟩ := info_parts info43
  obtain ⟨i1, hi1, hz10, hz11, hz12⟩ := info_parts info41
  have hll := hide hx.1
  go_enter Try.func9, Try.ntmps9
  go_wp2_with fail
  go_loopg [3, 4] 6 (fun g s3 s4 wr => ∃ k : Nat, k + g = 6 ∧ k ≤ n ∧ s4 = .int .i64 k ∧ Own drvT 41 w.heap.size wr s3 k ((x.take k).mapIdx drvOf) ∧ Kept w wr)
  case atStart => exact ⟨0, by omega, by omega, rfl, Own.nil _ _ _ _, Below.refl _ _⟩
  case round =>
    obtain ⟨k, hk, hkn, rfl, hown, hkw⟩ := hrel
    have Hk := hide hk
    have hk6 : k ≤ 6 := by omega
    clear hk
    by_cases hlt : k < n
    · by_cases hlt6 : k < 6
      · obtain ⟨row, b, off, A', c', hrow, rfl, hbw, _, hc1, hc2, hcell, hrs⟩ := slice_at hx (Below.refl _ _) hlt
        unfold maxLen at hc2
        have Hrow := hide hrow
        clear hrow
        have hlt' : (k : Int) < (n : Int) := by omega
        have hlt6' : (k : Int) < 6 := by omega
        have hk0 : (0 : Int) ≤ (k : Int) := by omega
        have hcw := (hkw.cell (p := ⟨b, off + k, none⟩) hbw).trans hcell
        have hbb : b < wr.heap.size := Nat.lt_of_lt_of_le hbw hkw.size
        have hdig := run_digit k hlt6
        have hdsz := digit_size k hlt6
        go_wp2_with fail
        obtain ⟨wo, rfl⟩ : ∃ wo : World, wo = wr := ⟨_, rfl⟩
        obtain ⟨go, rfl⟩ : ∃ g : Nat, g = gk := ⟨_, rfl⟩
        go_loopg [6] 4 (fun g s6 wi => ∃ j : Nat, j + g = 4 ∧ j ≤ row.length ∧ s6 = .int .i64 j ∧ ∃ v2, wi.cell? ⟨wo.heap.size, 0, none⟩ = some (.string (nameD k)) ∧ wi.cell? ⟨wo.heap.size, 1, none⟩ = some v2 ∧
          wi.frozen? ⟨wo.heap.size, 0, none⟩ = false ∧ wi.frozen? ⟨wo.heap.size, 1, none⟩ = false ∧ Own ruleT 43 (wo.heap.size + 1) wi v2 j ((row.take j).map Rp.rule) ∧ Kept wo wi ∧ wo.heap.size + 1 ≤ wi.heap.size)
        case atStart => exact ⟨0, by omega, by omega, rfl, _, by simp [go_sem, nameD], by simp [go_sem], by simp [go_sem], by simp [go_sem], Own.nil _ _ _ _, by go_grown, by simp⟩
        case round =>
          obtain ⟨j, hj, hjr, rfl, v2, hc0, hc1', hf0, hf1, hown2, hko, hsz⟩ := hrel
          have Hj := hide hj
          have hj4 : j ≤ 4 := by omega
          clear hj
          have hkr : Kept w wr := hkw.trans (hko.mono hkw.size)
          have hcr := (hkr.cell (p := ⟨b, off + k, none⟩) hbw).trans hcell
          have hbr : b < wr.heap.size := Nat.lt_of_lt_of_le hbw hkr.size
          have hor : wo.heap.size < wr.heap.size := by omega
          clear hcw hbb
          by_cases hj2 : j < row.length ∧ j < 4
          · obtain ⟨hjt, hjt4⟩ := hj2
            · obtain ⟨r, b', off', hr, rfl, _, hbr', hok, e0, e1, e2, e3⟩ := rp_at hrs hkr hjt
              have Hr := hide hr
              clear hr
              obtain ⟨⟨ok0, ok1⟩, ⟨ok2, ok3⟩, ⟨ok4, ok5⟩, ok6, ok7⟩ := hok
              have hjt' : (j : Int) < (row.length : Int) := by omega
              have hjt4' : (j : Int) < 4 := by omega
              have hj0 : (0 : Int) ≤ (j : Int) := by omega
              have hne : b ≠ wo.heap.size := by have := hkw.size; omega
              go_wp2_with fail
              have hrok : (rofR r.use r.ids r.cls r.oth).ok := r.rule_ok ⟨⟨ok0, ok1⟩, ⟨ok2, ok3⟩, ⟨ok4, ok5⟩, ok6, ok7⟩
              go_region_law (first
                | (refine step_append_el (T := ruleT) rfl (.tmp 37) (.tmp 46) 39 rfl (wo.heap.size + 1) 43 i3 _ 10 Try.underlying39 hi3 hz30 hz31 hz32 rfl (by decide) v2 j _ (by rfl) ((hown2.drew.kept hk).alloc _) _ _ _ (rofR r.use r.ids r.cls r.oth) (by rfl) (heap_alloc_new w1 _) ⟨rfl, hrok⟩ (by simp [Value.oneCell']) (by unfold maxLen; omega) (by omega) (by have := hk.size; simp at this ⊢; omega) ?_; intro g cap w2 hown3 hg3 hbel3 hat3 hlt3; obtain ⟨hcz, hfz⟩ := bcell hbel3)
                | (go_simp; go_at_call 18; refine (rof_any _ _ _ _ _ ⟨ok0, ok1⟩ ⟨ok2, ok3⟩ ⟨ok4, ok5⟩ ⟨ok6, ok7⟩).mono ?_; rintro e w1 ⟨rfl, hk⟩; obtain ⟨hcq, hfq⟩ := bcellD hk; have hs1 : wo.heap.size < w1.heap.size := Nat.lt_of_lt_of_le hor hk.size; dsimp only))
              all_goals go_wp2_with fail
              all_goals
                go_roundg (gk - 1)
                case measure => have := Hj.out; omega
                case rel =>
                  have hk2 : Kept wo w2 := by
                    have hs2 : wr.heap.size ≤ w1.heap.size := hk.size
                    refine Below.trans ((hko.trans ((of_drew hk).mono hko.size)).alloc (by omega) _) (hbel3.mono (by omega))
                  have e5 : (row.take (j + 1)).map Rp.rule = (row.take j).map Rp.rule ++ [rofR r.use r.ids r.cls r.oth] := map_take_succ Hr.out
                  exact ⟨j + 1, by have := Hj.out; omega, by omega, by go_num, .slice (some ⟨g, 0, none⟩) (j + 1) cap, by go_simp, by go_simp, by go_simp, by go_simp, by rw [e5]; exact hown3.setCell (fun h => h) (Nat.lt_succ_self _) _,
                    hk2.setCell (Nat.le_refl _) _, by have h1 := hbel3.size; simp only [World.size_alloc] at h1; simp only [World.size_setCell]; omega⟩
          · have hjr4 : row.take j = row.take 4 := by
              by_cases h : j < row.length
              · rw [show j = 4 by omega]
              · rw [List.take_of_length_le (by omega), List.take_of_length_le (by omega)]
            have hjm : j = (row.take 4).length := by rw [← hjr4, List.length_take]; omega
            obtain ⟨A2, c2, rfl, hjc, hcm⟩ := hown2.isSlice
            have Hrel : Hid (drvT.rel (wr.alloc (.cells #[.string (nameD k), .slice A2 j c2] 41)) (apart (wr.alloc (.cells #[.string (nameD k), .slice A2 j c2] 41)) u3) (drvOf k row) [.string (nameD k), .slice A2 j c2]) := by
              have hown4 := hown2.alloc (.cells #[.string (nameD k), .slice A2 j c2] 41)
              have hlen : (drvOf k row).rules.length = j := by rw [hjm]; exact List.length_map _
              refine ⟨A2, c2, by rw [hlen]; rfl, by rw [hlen]; exact hjc, hcm, name_size k hlt6, ?_⟩
              have h5 := hown4.sl_of (apart (wr.alloc (.cells #[.string (nameD k), .slice A2 j c2] 41)) u3) (fun g h1 h2 => ⟨h2, fun e => by have := (hown.lt e).2; omega⟩) (fun _ _ h => h)
              rw [hlen]; rw [hjr4] at h5; exact h5
            have Hmi : Hid ((x.take (k + 1)).mapIdx drvOf = (x.take k).mapIdx drvOf ++ [drvOf k row]) := mapIdx_take_succ Hrow.out
            clear hjr4 hjm
            by_cases hjt : j < row.length
            all_goals
              (try have hjt4' : (4 : Int) ≤ (j : Int) := by omega)
              go_wp2_with (at_builtin; refine wpList_append_el (T := drvT) rfl (.tmp 49) (.tmp 51) 24 rfl w.heap.size 41 i1 _ 40 Try.underlying24 hi1 hz10 hz11 hz12 rfl (by decide) u3 k _ (by rfl) ((hown.kept hko).alloc _) _ _ _ (drvOf k row) (by rfl) (heap_alloc_new wr _) Hrel.out (by simp [Value.oneCell']) (by unfold maxLen; omega) (by omega) (by have := hkr.size; simp only [World.size_alloc]; omega) ?_; intro g cap w2 hown3 hg3 hbel3 hat3 hlt3)
              go_roundg (go - 1)
              case measure => have := Hk.out; omega
              case rel => exact ⟨k + 1, by have := Hk.out; omega, by omega, by go_num, by rw [Hmi.out]; exact hown3, (hkr.alloc hkr.size _).trans hbel3⟩
      · have hfin : (x.take k).mapIdx drvOf = dOf x := by rw [show k = 6 by omega]; rfl
        have Hfin := hide hfin
        clear hfin
        have hlt' : (k : Int) < (n : Int) := by omega
        have hlt6' : (6 : Int) ≤ (k : Int) := by omega
        have Hlen : Hid ((dOf x).length = k) := by rw [← Hfin.out]; exact hown.1
        go_wp2
        go_ret
        exact ⟨u3, rfl, by rw [Hlen.out, ← Hfin.out]; exact hown, hkw⟩
    · have hfin : (x.take k).mapIdx drvOf = dOf x := by unfold dOf; rw [List.take_of_length_le (by have := hll.out; omega), List.take_of_length_le (by have := hll.out; omega)]
      have Hfin := hide hfin
      clear hfin
      have hlt' : (n : Int) ≤ (k : Int) := by omega
      have Hlen : Hid ((dOf x).length = k) := by rw [← Hfin.out]; exact hown.1
      go_wp2
      go_ret
      exact ⟨u3, rfl, by rw [Hlen.out, ← Hfin.out]; exact hown, hkw⟩
end Go.Proofs.Ytgkhenplbljbbaa
