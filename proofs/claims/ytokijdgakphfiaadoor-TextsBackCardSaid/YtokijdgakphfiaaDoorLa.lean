
/- The walk of TextsBack. The list reads as numbers of 32 bits; the two tables of unicode/utf8 are as the program lays them. -/
import Derived.Test.YtokijdgakphfiaaDoorChecked
import Derived.Deep.RegionHeld3
import Derived.Deep.DrawnRows
import Derived.Deep.DeepCutAuto
import Derived.Deep.LoopGhost
import Derived.Outline
import Derived.Handy
import Derived.OwnWalk
import Derived.Test.YtokijdgakphfiaaDoorSq
namespace Go.Proofs.YtokijdgakphfiaaDoor
open Go.RowKit
attribute [local go_sem ↓] Go.wp_at_zero Go.wp_at_succ

theorem units_all {ls : List Nat} (h : ∀ c ∈ ls, okN c) : ∀ u ∈ unitsN ls, u < 65536 := fun u hu => by
  obtain ⟨c, hc, hu⟩ := List.mem_flatMap.1 hu
  exact splitN_lt (h c hc) u hu
set_option maxRecDepth 100000 in
set_option maxHeartbeats 2000000 in
theorem back_law (A : Option Addr) (n c : Nat) (l : List Nat) (w : World) (hl : Sl u32T w (low w.heap.size) A n l) (hT : Tabs w) :
    Calls Tryd.prog 3 #[.slice A n c] w fun e w' => e = .returned (.bool true) ∧ Kept w w' := by
  have hln := hl.1
  by_cases h150 : 150 < n
  · have h150' : (150 : Int) < (n : Int) := by omega
    clear h150 hln
    go_enter Tryd.func3, Tryd.ntmps3
    go_wp2_with (go_at_call 10; refine (lives_any _ hT).mono ?_; rintro e w1 ⟨rfl, hk⟩)
    go_ret
    exact ⟨rfl, hk⟩
  · have h150' : (n : Int) ≤ 150 := by omega
    have hn : n ≤ 1000 := by omega
    have hok := charN_all l
    have hcl : (l.map charN).length ≤ 150 := by rw [List.length_map]; omega
    have c11 := units_any A n c l w hn hl
    have c12 : ∀ w', Kept w w' → Calls Tryd.prog 12 #[.slice A n c] w' fun e w'' => e = .returned (.string (textB (l.map charN))) ∧ Kept w' w'' := fun w' hk => text_any A n c l w' hn (hl.kept hk)
    have hsz : (textB (l.map charN)).size ≤ 100000 := by have := textB_size (l.map charN); omega
    have hul := units_all hok
    have hjn := join_units _ hok
    clear hln h150 hl
    generalize l.map charN = ls at *
    obtain ⟨M, hM⟩ : ∃ M, M = lenU ls := ⟨_, rfl⟩
    have HM := hide hM
    have HT := hide hT
    clear hM hT
    by_cases h126 : 126 < M
    · have cE : ∀ w', Tabs w' → Calls Tryd.prog 14 #[.string (textB ls)] w' fun e w'' => e = .returned (.tuple #[.slice none 0 0, .int .i64 3]) ∧ Kept w' w'' := fun w' h => enc_long ls w' hok hsz h (by have := HM.out; omega)
      have cN : ∀ w', Tabs w' → Calls Tryd.prog 13 #[.string (textB ls)] w' fun e w'' => e = .returned (.tuple #[.int .i64 (M : Nat), .int .i64 0]) ∧ Kept w' w'' := fun w' h => by have := count_any ls w' hok hsz h; rw [← HM.out] at this; exact this
      have h126' : (126 : Int) < (M : Int) := by omega
      clear h126 hsz hul hjn hok
      go_enter Tryd.func3, Tryd.ntmps3
      go_wp2_with (first
        | (go_at_call 11; refine c11.mono ?_; rintro e w1 ⟨v, m, rfl, hown, hk1⟩; obtain ⟨A1, c1, rfl, _, _⟩ := hown.isSlice; obtain rfl : m = M := (by have h := hown.1; have h2 := HM.out; unfold lenU at h2; omega); have Hown := hide hown; clear hown)
        | (go_at_call 12; refine (c12 _ (by assumption)).mono ?_; rintro e w2 ⟨rfl, hk2⟩)
        | (go_at_call 13; refine (cN _ (HT.out.below (hk1.trans' hk2))).mono ?_; rintro e w3 ⟨rfl, hk3⟩)
        | (go_at_call 14; refine (cE _ (HT.out.below (hk1.trans' (hk2.trans' hk3)))).mono ?_; rintro e w4 ⟨rfl, hk4⟩)
        | (go_at_call 10; refine (lives_any _ (HT.out.below (hk1.trans' (hk2.trans' (hk3.trans' hk4))))).mono ?_; rintro e w5 ⟨rfl, hk5⟩))
      go_ret
      exact ⟨rfl, hk1.trans' (hk2.trans' (hk3.trans' (hk4.trans' hk5)))⟩
    · obtain ⟨K, hK⟩ : ∃ K, K = 2 + 2 * M := ⟨_, rfl⟩
      have HK := hide hK
      clear hK
      have cE : ∀ w', Tabs w' → Calls Tryd.prog 14 #[.string (textB ls)] w' fun e w'' => ∃ g, e = .returned (.tuple #[.slice (some ⟨g, 0, none⟩) K K, .int .i64 0]) ∧ Fill w'' g 5 K (.int .u8 0) (u8C (toldL (unitsN ls))) ∧ Kept w' w'' := fun w' h => by
        have h2 := enc_any ls w' hok hsz h (by have := HM.out; omega)
        rw [← HM.out, ← HK.out] at h2
        exact h2.mono fun _ _ ⟨g, h1, h2, _, _, h3⟩ => ⟨g, h1, h2, h3⟩
      have cN : ∀ w', Tabs w' → Calls Tryd.prog 13 #[.string (textB ls)] w' fun e w'' => e = .returned (.tuple #[.int .i64 (M : Nat), .int .i64 0]) ∧ Kept w' w'' := fun w' h => by have := count_any ls w' hok hsz h; rw [← HM.out] at this; exact this
      have cD : ∀ g w', Fill w' g 5 K (.int .u8 0) (u8C (toldL (unitsN ls))) → Calls Tryd.prog 15 #[.slice (some ⟨g, 0, none⟩) K K] w' fun e w'' => e = .returned (.tuple #[.string (textB ls), .int .i64 0]) ∧ Kept w' w'' := fun g w' h =>
        dec_yes _ K K (unitsN ls) ls w' (by have := HM.out; unfold lenU at this; omega) hul (fill_bytes h (by rw [toldL_len, HK.out, HM.out]; rfl)) hjn
      have hKl := hide (show (toldL (unitsN ls)).length = K by rw [toldL_len, HK.out, HM.out]; rfl)
      have h126' : (M : Int) ≤ 126 := by omega
      have hM9 := hide (show M ≤ 126 by omega)
      clear h126 hsz hul hjn hok
      go_enter Tryd.func3, Tryd.ntmps3
      go_wp2_with (first
        | (go_at_call 11; refine c11.mono ?_; rintro e w1 ⟨v, m, rfl, hown, hk1⟩; obtain ⟨A1, c1, rfl, _, _⟩ := hown.isSlice; obtain rfl : m = M := (by have h := hown.1; have h2 := HM.out; unfold lenU at h2; omega); have Hown := hide hown; clear hown)
        | (go_at_call 12; refine (c12 _ (by assumption)).mono ?_; rintro e w2 ⟨rfl, hk2⟩)
        | (go_at_call 13; refine (cN _ (HT.out.below (hk1.trans' hk2))).mono ?_; rintro e w3 ⟨rfl, hk3⟩)
        | (go_at_call 14; refine (cE _ (HT.out.below (hk1.trans' (hk2.trans' hk3)))).mono ?_; rintro e w4 ⟨g, rfl, hF, hk4⟩; have HF := hide hF; clear hF)
        | (go_at_call 15; refine (cD _ _ HF.out).mono ?_; rintro e w5 ⟨rfl, hk5⟩))
      have hk15 : Kept w1 w5 := hk2.trans' (hk3.trans' (hk4.trans' hk5))
      have hk05 := hide (hk1.trans' hk15)
      have HT5 := hide (HT.out.below hk05.out)
      have HF5 := hide (HF.out.kept hk5)
      have HU := hide (Hown.out.sl.kept hk15)
      have cT : ∀ w', ((convert 30 9 (.slice (some ⟨g, 0, none⟩) K K)).run Tryd.prog w' = .ok (.string ⟨(toldL (unitsN ls)).toArray⟩) w' ∧ ConvS g K (toldL (unitsN ls)) w5 w') → Calls Tryd.prog 16 #[.slice A1 m c1] w' fun e w'' => e = .returned (.string ⟨(toldL (unitsN ls)).toArray⟩) ∧ Kept w' w'' := fun w' h => told_conv (by have := hM9.out; omega) HU.out h
      generalize toldL (unitsN ls) = bs at *
      clear hk1 hk2 hk3 hk4 hk5 hk15 cE cN cD c11 c12
      go_region_held3 (fun w' => (convert 30 9 (.slice (some ⟨g, 0, none⟩) K K)).run Tryd.prog w' = .ok (.string ⟨bs.toArray⟩) w' ∧ ConvS g K bs w5 w') (first | assumption | exact conv_start HF5.out hKl.out | exact conv_keep (by assumption) hKl.out hk) (first
        | (go_at_call 16; refine (cT _ (by assumption)).mono ?_; rintro e w6 ⟨rfl, hk⟩)
        | (go_at_call 10; refine (lives_conv HT5.out (by assumption)).mono ?_; rintro e w6 ⟨rfl, hk⟩))
      have hkz := conv_kept (by assumption)
      clear cT
      go_wp2_with fail
      go_ret
      exact ⟨rfl, hk05.out.trans' hkz⟩
end Go.Proofs.YtokijdgakphfiaaDoor
