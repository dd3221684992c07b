
/- The walk of TextsCut. The list reads as numbers of 32 bits; the two tables of unicode/utf8 are as the program lays them. -/
import Derived.Test.YtokijdgakphfiaaDoorChecked
import Derived.Deep.RegionHeld3
import Derived.Deep.DrawnRows
import Derived.Deep.DeepCutAuto
import Derived.Deep.LoopGhost
import Derived.Outline
import Derived.Handy
import Derived.OwnWalk
import Derived.Test.YtokijdgakphfiaaDoorLb
namespace Go.Proofs.YtokijdgakphfiaaDoor
open Go.RowKit
attribute [local go_sem ↓] Go.wp_at_zero Go.wp_at_succ

/-- the beginning of a slice reads as the beginning of the list -/
theorem Sl.take {α : Type} {t : Ty α} {w : World} {F : Nat → Prop} {A : Option Addr} {n k : Nat} {xs : List α} (h : Sl t w F A n xs) (hk : k ≤ n) : Sl t w F A k (xs.take k) :=
  ⟨by rw [List.length_take, h.1]; omega, fun i x hx => h.2 i x (by rw [List.getElem?_take] at hx; split at hx; exact hx; cases hx)⟩
set_option maxRecDepth 100000 in
set_option maxHeartbeats 2000000 in
theorem cut_law (A : Option Addr) (n c : Nat) (l : List Nat) (N : Int) (w : World) (hnc : n ≤ c) (hc : c ≤ maxLen) (hN : N ≤ 9223372036854775807) (hl : Sl u32T w (low w.heap.size) A n l) (hT : Tabs w) :
    Calls Tryd.prog 6 #[.slice A n c, .int .i64 N] w fun e w' => e = .returned (.bool true) ∧ Kept w w' := by
  have hln := hl.1
  by_cases h100 : 100 < n
  · have h100' : (100 : Int) < (n : Int) := by omega
    clear h100 hln
    go_enter Tryd.func6, Tryd.ntmps6
    go_wp2_with (go_at_call 10; refine (lives_any _ hT).mono ?_; rintro e w1 ⟨rfl, hk⟩)
    go_ret
    exact ⟨rfl, hk⟩
  · have h100' : (n : Int) ≤ 100 := by omega
    have hn : n ≤ 100 := by omega
    have hok := charN_all l
    have c12 : ∀ k c' w', k ≤ n → Kept w w' → Calls Tryd.prog 12 #[.slice A k c'] w' fun e w'' => e = .returned (.string (textB ((l.map charN).take k))) ∧ Kept w' w'' := fun k c' w' hkn hk => by
      rw [← List.map_take]
      exact text_any A k c' (l.take k) w' (by omega) ((hl.kept hk).take hkn)
    have c11 : ∀ k c' w', k ≤ n → Kept w w' → Calls Tryd.prog 11 #[.slice A k c'] w' fun e w'' => ∃ A1 c1, e = .returned (.slice A1 (lenU ((l.map charN).take k)) c1) ∧ Kept w' w'' := fun k c' w' hkn hk => by
      refine (units_any A k c' (l.take k) w' (by omega) ((hl.kept hk).take hkn)).mono ?_
      rintro e w'' ⟨v, m, rfl, hown, hk2⟩
      obtain ⟨A1, c1, rfl, _, _⟩ := hown.isSlice
      have hm := hown.1
      rw [List.map_take] at hm
      exact ⟨A1, c1, by rw [← hm]; rfl, hk2⟩
    have hcl : (l.map charN).length = n := by rw [List.length_map]; exact hln
    have hsz : (textB (l.map charN)).size ≤ 100000 := by have := textB_size (l.map charN); omega
    clear hln h100 hl
    generalize l.map charN = ls at *
    have HT := hide hT
    have Hcl := hide hcl
    have Hsz := hide hsz
    have c12f := c12 n c w (Nat.le_refl _) (Below.refl _ _)
    rw [List.take_of_length_le (by omega)] at c12f
    clear hT hcl hsz
    by_cases hneg : N < 0
    · have cC : ∀ w', Tabs w' → _ := fun w' h => cut_neg ls N w' hok Hsz.out h hneg
      clear c11 c12
      go_enter Tryd.func6, Tryd.ntmps6
      go_wp2_with (first
        | (go_at_call 12; refine c12f.mono ?_; rintro e w1 ⟨rfl, hk1⟩)
        | (go_at_call 17; refine (cC _ (HT.out.below hk1)).mono ?_; rintro e w2 ⟨rfl, hk2⟩)
        | (go_at_call 10; refine (lives_any _ (HT.out.below (hk1.trans' hk2))).mono ?_; rintro e w3 ⟨rfl, hk3⟩))
      go_ret
      exact ⟨rfl, hk1.trans' (hk2.trans' hk3)⟩
    · have hpos : 0 ≤ N := by omega
      have cC : ∀ w', Tabs w' → _ := fun w' h => cut_any ls N w' hok Hsz.out h hpos hN
      clear hneg
      go_enter Tryd.func6, Tryd.ntmps6
      go_upto_region 6 with (first
        | (go_at_call 12; refine c12f.mono ?_; rintro e w1 ⟨rfl, hk1⟩)
        | (go_at_call 17; refine (cC _ (HT.out.below hk1)).mono ?_; rintro e w2 ⟨rfl, hk2⟩))
      have hk02 := hk1.trans' hk2
      clear hk1 hk2 c12f cC
      go_wp2_with fail
      go_loopg [7] n (fun gf s7 wr => ∃ k : Nat, k + gf = n ∧ s7 = .int .i64 k ∧ Hid (((lenU (ls.take k) : Nat) : Int) ≤ N) ∧ Kept w wr)
      case atStart => exact ⟨0, by omega, rfl, hide (by rw [List.take_zero, lenU_nil]; exact hpos), hk02⟩
      case round =>
        clear hk02
        obtain ⟨k, hk9, rfl, HL, hkw⟩ := hrel
        have Hk := hide hk9
        have hkn : k ≤ n := by omega
        clear hk9
        by_cases hlt : k < n
        · have hlt' : (k : Int) < (n : Int) := by omega
          have hk0 : (0 : Int) ≤ (k : Int) + 1 := by omega
          have hk1 : (k : Int) + 1 ≤ (c : Int) := by omega
          have hk2 : ((k : Int) + 1).toNat = k + 1 := by omega
          have c11k := c11 (k + 1) c wr (by omega) hkw
          obtain ⟨M, hM⟩ : ∃ M, M = lenU (ls.take (k + 1)) := ⟨_, rfl⟩
          rw [← hM] at c11k
          have HM := hide hM
          clear hM
          by_cases hle : (M : Int) ≤ N
          · go_wp2_with (go_at_call 11; refine c11k.mono ?_; rintro e w3 ⟨A1, c1, rfl, hk3⟩)
            go_roundg (gk - 1)
            case measure => have := Hk.out; omega
            case rel => exact ⟨k + 1, by have := Hk.out; omega, by go_num, hide (by rw [← HM.out]; exact hle), hkw.trans' hk3⟩
          · have hgt : N < (M : Int) := by omega
            have Hcut := hide (show cutN ls N = ls.take k from cut_take ls N k (by have := Hcl.out; omega) HL.out (.inr (by rw [← HM.out]; exact hgt)))
            have c12k : ∀ w', Kept w w' → _ := fun w' h => c12 k c w' hkn h
            rw [← Hcut.out] at c12k
            clear hle
            generalize textB (cutN ls N) = T at *
            have hTT : (T.toList == T.toList) = true := by simp
            have hk3' : (k : Int) ≤ (c : Int) := by omega
            have hk4' : ((k : Int)).toNat = k := by omega
            go_wp2_with (first
              | (go_at_call 11; refine c11k.mono ?_; rintro e w3 ⟨A1, c1, rfl, hk3⟩)
              | (go_at_call 12; refine (c12k _ (hkw.trans' hk3)).mono ?_; rintro e w4 ⟨rfl, hk4⟩)
              | (go_at_call 10; refine (lives_any _ (HT.out.below (hkw.trans' (hk3.trans' hk4)))).mono ?_; rintro e w5 ⟨rfl, hk5⟩))
            go_ret
            exact ⟨rfl, hkw.trans' (hk3.trans' (hk4.trans' hk5))⟩
        · have Hcut := hide (show cutN ls N = ls.take k from cut_take ls N k (by have := Hcl.out; omega) HL.out (.inl (by have := Hcl.out; omega)))
          have c12k : ∀ w', Kept w w' → _ := fun w' h => c12 k c w' hkn h
          rw [← Hcut.out] at c12k
          have hge : (n : Int) ≤ (k : Int) := by omega
          generalize textB (cutN ls N) = T at *
          have hTT : (T.toList == T.toList) = true := by simp
          have hk3' : (k : Int) ≤ (c : Int) := by omega
          have hk4' : ((k : Int)).toNat = k := by omega
          go_wp2_with (first
            | (go_at_call 12; refine (c12k _ hkw).mono ?_; rintro e w4 ⟨rfl, hk4⟩)
            | (go_at_call 10; refine (lives_any _ (HT.out.below (hkw.trans' hk4))).mono ?_; rintro e w5 ⟨rfl, hk5⟩))
          go_ret
          exact ⟨rfl, hkw.trans' (hk4.trans' hk5)⟩
end Go.Proofs.YtokijdgakphfiaaDoor
