
/- The walks of DriversMatch and DriversScore. The plain data reads as rows of bytes, the numbers are bytes. -/
import Derived.Test.YtgkhenplbljbbaaChecked
import Derived.Deep.RegionHeld3
import Derived.Deep.DrawnRows
import Derived.Deep.DeepCutAuto
import Derived.Deep.LoopGhost
import Derived.Outline
import Derived.Handy
import Derived.Test.YtgkhenplbljbbaaDc
import Derived.Test.YtgkhenplbljbbaaWi
import Derived.Test.YtgkhenplbljbbaaLf
namespace Go.Proofs.Ytgkhenplbljbbaa
open Go.RowKit
attribute [local go_sem ↓] Go.wp_at_zero Go.wp_at_succ

set_option maxHeartbeats 2000000 in
theorem dmatch_walk (A : Option Addr) (n c : Nat) (x : List (List Rp)) (ids m : Int) (w : World) (hn : n ≤ maxLen) (hx : Sl rpT.slice w (low w.heap.size) A n x) (hok : rowsOk x) (hi : u8ok ids) (hm : u8ok m) :
    Calls Try.prog 3 #[.slice A n c, .int .u8 ids, .int .u8 m] w fun e w' => e = .returned (.bool true) ∧ Kept w w' := by
  obtain ⟨hi0, hi1⟩ := hi
  obtain ⟨hm0, hm1⟩ := hm
  have Hck := hide (check_dOf hok)
  have hrl := dOf_rules hok
  have hlen := dOf_len x
  generalize hl : dOf x = l at *
  have Hl := hide hl
  clear hl
  go_enter Try.func3, Try.ntmps3
  go_wp2_with (first
    | (go_at_call 9; refine (dof_any _ _ _ _ _ hn hx).mono ?_; rw [Hl.out]; rintro e w1 ⟨v, rfl, hown, hk1⟩; obtain ⟨Av, cv, rfl, hv1, hv2⟩ := hown.isSlice)
    | (go_at_call 10; refine (fof0_any _ _ _ hi0 hi1).mono ?_; rintro e w2 ⟨rfl, hk2⟩)
    | (refine wpList_store_row rfl 34 (.tmp 8) (.tmp 20) rfl _ _ (by rfl) (by rfl) 34 _ (by repeat' first | exact heap_at _ (by first | rfl | (simp; done) | (simp; omega)) | exact heap_row (by assumption) | assumption | refine heap_past ?_ | refine heap_drew ?_) (by kernel_rfl) (by rfl) (by simp [Value.oneCell']) ?_))
  have hk12 : Kept w w2 := hk1.trans' hk2
  refine wp_at (fun W => Kept w2 W ∧ w2.heap.size < W.heap.size ∧ ∀ o, W.cell? ⟨w2.heap.size, o, none⟩ = (#[.int .u8 (1), .slice none 0 0, .int .u8 0, .int .u8 0, .int .u8 0, .int .u16 0, .int .u8 0, .int .u8 0, .int .u8 0, .int .u8 0, .int .u16 (venOf ids), .int .u16 (proOf ids), .int .u16 0, .int .u8 0, .int .u8 0, .int .u8 0, .int .u8 0, .slice none 0 0])[o]?) ?_ (fun W hW => ?_)
  · refine ⟨?_, ?_, ?_⟩
    · exact below_row (by go_grown) (by omega) _
    · rw [size_setRow]; simp
    · intro o; exact cell_of_row _ _ _ _ 34 (0, 0) (heap_row (heap_at _ rfl))
  obtain ⟨hk3, hq, hcF⟩ := hW
  have hsl : Sl drvT W (low W.heap.size) Av l.length l := ((hown.sl).kept hk2).kept hk3
  have hkW : Kept w W := hk12.trans' hk3
  have hne : ∀ r : Rule, r.ok → (scoreS r.use r.vendor r.product r.cls r.sub r.proto (venOf ids) (proOf ids) (3 + m % 3) (m / 3 % 3) (m / 9 % 3) != scoreL r.use r.vendor r.product r.cls r.sub r.proto (venOf ids) (proOf ids) (3 + m % 3) (m / 3 % 3) (m / 9 % 3)) = false := by
    intro r hr; rw [score_eq _ _ _ _ _ _ _ _ _ _ _ hr.1 hr.2]; simp
  have Hne := hide hne
  have Hsl := hide hsl
  clear hne hown hsl
  go_loopg [9] l.length (fun g s9 wr => ∃ k : Nat, k + g = l.length ∧ s9 = .int .i64 k ∧ Kept W wr)
  case atStart => exact ⟨0, by omega, rfl, Below.refl _ _⟩
  case round =>
    obtain ⟨k, hk, rfl, hbel⟩ := hrel
    by_cases hlt : k < l.length
    · obtain ⟨d, b, off, A', c', hd, rfl, hbw, _, hc1, hc2, _, hd0, hd1, hrs⟩ := drv_at Hsl.out (Below.refl _ _) hlt
      unfold maxLen at hc2
      have Hk := hide hk
      have Hd := hide hd
      clear hk hd
      have hlt' : (k : Int) < (l.length : Int) := by omega
      have hk0 : (0 : Int) ≤ (k : Int) := by omega
      obtain ⟨wo, rfl⟩ : ∃ wo : World, wo = wr := ⟨_, rfl⟩
      obtain ⟨go, rfl⟩ : ∃ g : Nat, g = gk := ⟨_, rfl⟩
      go_wp2_with fail
      go_loopg [10] d.rules.length (fun g s10 wr => ∃ j : Nat, j + g = d.rules.length ∧ s10 = .int .i64 j ∧ Kept W wr)
      case atStart => exact ⟨0, by omega, rfl, hbel⟩
      case round =>
        obtain ⟨j, hj, rfl, hbe3⟩ := hrel
        have Hj := hide hj
        clear hj hbel
        obtain ⟨hci, hfi⟩ := bcell hbe3
        have hsr := hbe3.size
        have hq3 : w2.heap.size < wr.heap.size := by omega
        have hbr : b < wr.heap.size := by omega
        by_cases hjt : j < d.rules.length
        · obtain ⟨r, b', off', hr, rfl, hbw', _, hok', e0, e1, e2, e3, e4, e5⟩ := rule_at hrs (Below.refl _ _) hjt
          have hbr' : b' < wr.heap.size := by omega
          have hne := Hne.out r hok'
          obtain ⟨hok0, hok1⟩ := hok'
          have hjt' : (j : Int) < (d.rules.length : Int) := by omega
          have hj0 : (0 : Int) ≤ (j : Int) := by omega
          go_wp2_with fail
          refine wp_name (B := wr.heap.size) (w0 := wr) (by go_grown) (fun W2 hcW2 hfW2 hz2 hkW2 => ?_)
          simp only [World.size_alloc] at hz2
          go_region_held3 (fun w' => (∀ b o, b < W2.heap.size → w'.cell? ⟨b, o, none⟩ = W2.cell? ⟨b, o, none⟩) ∧ Below W2.heap.size W2 w') (first | exact since_start | exact since_keep (by assumption) (Nat.le_refl _) hk) (first
            | (go_at_call 12; refine (face_any _ _ hm0 hm1).mono ?_; rintro e w3 ⟨rfl, hk⟩)
            | (go_at_call 11; refine (score_any _ _ _ _ _ _ _ _ _ _ _ _ _ _ _ _ _ _ _ _ _ _ _ _ _ _ hok0 hok1).mono ?_; rintro e w3 ⟨rfl, hk⟩)
            | (go_at_call 13; refine (scoreL_any _ _ _ _ _ _ _ _ _ _ _ _ _ _ _ _ _ _ _ _ _ _ _ _ _ _ hok0 hok1).mono ?_; rintro e w3 ⟨rfl, hk⟩))
          go_wp2
          go_roundg (gk - 1)
          case measure => have := Hj.out; omega
          case rel => exact ⟨j + 1, by have := Hj.out; omega, by go_num, hbe3.trans ((since_kept hkW2 (by assumption) (Nat.le_refl _)).mono hsr)⟩
        · have hjt' : (d.rules.length : Int) ≤ (j : Int) := by omega
          go_wp2
          go_roundg (go - 1)
          case measure => have := Hk.out; omega
          case rel => exact ⟨k + 1, by have := Hk.out; omega, by go_num, hbe3⟩
    · have hlt' : (l.length : Int) ≤ (k : Int) := by omega
      obtain ⟨hci, hfi⟩ := bcell hbel
      have hsr := hbel.size
      have hq3 : w2.heap.size < wr.heap.size := by omega
      have Hsr := hide (Hsl.out.kept hbel)
      have hlm : l.length ≤ maxLen := by unfold maxLen; omega
      go_wp2_with fail
      go_region_held3 (fun w' => (∀ b o, b < wr.heap.size → w'.cell? ⟨b, o, none⟩ = wr.cell? ⟨b, o, none⟩) ∧ Below wr.heap.size wr w') (first | exact since_start | exact since_keep (by assumption) (Nat.le_refl _) hk) (first
        | (go_at_call 12; refine (face_any _ _ hm0 hm1).mono ?_; rintro e w3 ⟨rfl, hk⟩)
        | (go_at_call 14; refine (match_any _ _ _ _ _ _ _ _ _ _ _ _ _ _ _ _ _ _ _ _ _ _ _ _ hlm (by exact Hsr.out.kept (of_drew hk))).mono ?_; rintro e w4 ⟨rfl, hk⟩))
      have hS4 := (‹(∀ b o, b < wr.heap.size → _) ∧ Below wr.heap.size wr w4›).2
      have Hs4 := hide (Hsr.out.kept hS4)
      have hs4 := hS4.size
      have hq4 : w2.heap.size < w4.heap.size := by omega
      go_wp2_with fail
      go_region_held3 (fun w' => (∀ b o, b < w4.heap.size → w'.cell? ⟨b, o, none⟩ = w4.cell? ⟨b, o, none⟩) ∧ Below w4.heap.size w4 w') (first | exact since_start | exact since_keep (by assumption) (Nat.le_refl _) hk) (first
        | (go_at_call 12; refine (face_any _ _ hm0 hm1).mono ?_; rintro e w5 ⟨rfl, hk⟩)
        | (go_at_call 15; refine (matchL_any _ _ _ _ _ _ _ _ _ _ _ _ _ _ _ _ _ _ _ _ _ _ _ _ hlm (by exact Hs4.out.kept (of_drew hk))).mono ?_; rintro e w6 ⟨a, b, rfl, hbest, hk⟩; obtain ⟨rfl, rfl⟩ := match_same hrl hbest))
      have hS6 := (‹(∀ b o, b < w4.heap.size → _) ∧ Below w4.heap.size w4 w6›).2
      have Hs6 := hide (Hs4.out.kept hS6)
      go_wp2_with (first
        | (go_at_call 16; refine (check_any _ _ _ _ _ hlm Hs6.out).mono ?_; rw [Hck.out]; rintro e w7 ⟨rfl, hk7⟩)
        | (go_at_call 17; refine (lives_any _).mono ?_; rintro e w8 ⟨rfl, hk8⟩))
      go_ret
      exact ⟨rfl, (((hkW.trans' hbel).trans' hS4).trans' hS6).trans' (hk7.trans' hk8)⟩
end Go.Proofs.Ytgkhenplbljbbaa
