
/- The walk of TextsBytes. The two tables of unicode/utf8 are as the program lays them. -/
import Derived.Test.YtokijdgakphfiaaDoorChecked
import Derived.Deep.RegionHeld3
import Derived.Deep.DrawnRows
import Derived.Deep.DeepCutAuto
import Derived.Deep.LoopGhost
import Derived.Outline
import Derived.Handy
import Derived.OwnWalk
import Derived.Laws.IdiomStrings
import Derived.Laws.Cover4
import Derived.Test.YtokijdgakphfiaaDoorSq
namespace Go.Proofs.YtokijdgakphfiaaDoor
open Go.RowKit
attribute [local go_sem ↓] Go.wp_at_zero Go.wp_at_succ

theorem str_ne {s t : ByteArray} (h : s ≠ t) : (!s.toList == t.toList) = true ∧ (s.toList == t.toList) = false := by
  have h1 : (s.toList == t.toList) = false := by
    rw [beq_eq_false_iff_ne, ByteArray.toList_eq, ByteArray.toList_eq]
    exact fun e => h (bytes_ext e)
  exact ⟨by rw [h1]; rfl, h1⟩
theorem unitsN_le (l : List Nat) : (unitsN l).length ≤ (textL l).length := by
  induction l with
  | nil => simp [unitsN_nil]
  | cons c l ih =>
    have h : (splitN c).length ≤ (encN c).length := by
      unfold splitN encN
      repeat' split
      all_goals simp
      all_goals omega
    rw [unitsN_cons, List.length_append, textL_cons, List.length_append, encL_length]; omega
theorem runesF_len : ∀ (f : Nat) (l : List UInt8), (runesF f l).length ≤ f
  | 0, _ => Nat.le_refl _
  | f + 1, l => by
    unfold runesF
    split
    · simp
    · have := runesF_len f (l.drop (Lib.decodeL l).2)
      simp; omega
theorem rune_round (s : ByteArray) (w : World) (hs : s.size ≤ 100000) : ∃ n cap w1, (convert 9 38 (.string s)).run Tryd.prog w = .ok (.slice (some ⟨w.heap.size, 0, none⟩) n cap) w1 ∧
    (convert 38 9 (.slice (some ⟨w.heap.size, 0, none⟩) n cap)).run Tryd.prog w1 = .ok (.string (textB (runesB s))) w1 ∧ Kept w w1 := by
  have hR := runesFrom_eq s
  have hlen : (runesB s).length ≤ 100000 := by
    have := runesF_len s.data.toList.length s.data.toList
    rw [Lib.size_eq] at hs
    unfold runesB runesL; omega
  have h1 := run_runes_of_string (P := Tryd.prog) w 9 38 21 s Tryd.underlying9 Tryd.underlying38 Tryd.underlying21 (by rw [hR]; simp; unfold runesB at hlen; omega)
  refine ⟨_, _, _, h1, ?_, (Below.refl _ w).drew.alloc (by simp) _⟩
  have hok : ∀ c ∈ runesB s, okN c := runesF_ok _ _
  have hn : (Conv.runesFrom s s.size 0 #[]).size = (runesB s).length := by rw [hR]; simp [runesB]
  have h2 := run_convert_runes (P := Tryd.prog) (w.drew.alloc (.cells (Conv.runesFrom s s.size 0 #[] ++ Array.replicate (grownCap w (Conv.runesFrom s s.size 0 #[]).size 0 21 - (Conv.runesFrom s s.size 0 #[]).size) (.int .i32 0)) 21)) 38 9 21 ⟨w.heap.size, 0, none⟩ (Conv.runesFrom s s.size 0 #[]).size (grownCap w (Conv.runesFrom s s.size 0 #[]).size 0 21) ((runesB s).map (fun n : Nat => (n : Int))) (by rw [hn]; simp) Tryd.underlying38 Tryd.underlying21 Tryd.underlying9 (fun j hj => by
    have hj' : j < (runesB s).length := by simpa using hj
    rw [Addr.add_mid, cell_of_row _ _ _ _ _ _ (heap_at (w := w.drew) (n := w.heap.size) _ rfl), hR]
    simp only [Nat.zero_add]
    rw [Array.getElem?_append_left (by simpa [runesB] using hj')]
    simp [runesB] at hj' ⊢
    simp [List.getD, hj'])
  rw [h2, hn, List.take_of_length_le (by simp), runesBytes_eq hok]
set_option maxRecDepth 100000 in
set_option maxHeartbeats 2000000 in
theorem bytes_law (s : ByteArray) (w : World) (hT : Tabs w) :
    Calls Tryd.prog 4 #[.string s] w fun e w' => e = .returned (.bool true) ∧ Kept w w' := by
  by_cases h100 : 100 < s.size
  · have h100' : (100 : Int) < (s.size : Int) := by omega
    clear h100
    go_enter Tryd.func4, Tryd.ntmps4
    go_wp2_with (go_at_call 10; refine (lives_any _ hT).mono ?_; rintro e w1 ⟨rfl, hk⟩)
    go_ret
    exact ⟨rfl, hk⟩
  · have h100' : (s.size : Int) ≤ 100 := by omega
    have hs : s.size ≤ 100000 := by omega
    have HT := hide hT
    have Hs := hide hs
    by_cases hv : Lib.validD s.data.toList = true
    · obtain ⟨e1, hok⟩ := text_of hv
      generalize hrs : runesB s = l at *
      have hcut := cut_neg l (-1) (hl := hok)
      have hcnt := count_any l (hls := hok)
      have henl := enc_any l (hls := hok)
      rw [← e1] at hcut hcnt henl
      have Hrs := hide (show textB (runesB s) = s by rw [hrs]; exact e1.symm)
      have hlu : lenU l ≤ 100 := by
        have h2 := unitsN_le l
        have h3 := congrArg ByteArray.size e1
        rw [Lib.size_eq (textB l), textB_list] at h3
        unfold lenU; omega
      obtain ⟨M, hM⟩ : ∃ M, M = lenU l := ⟨_, rfl⟩
      rw [← hM] at hcnt henl hlu
      have HM := hide hM
      have hcut2 : ∀ w', Tabs w' → _ := fun w' h => hcut w' Hs.out h (by omega)
      have hcnt2 : ∀ w', Tabs w' → _ := fun w' h => hcnt w' Hs.out h
      have henl2 : ∀ w', Tabs w' → _ := fun w' h => henl w' Hs.out h (by omega)
      have hlu' : (M : Int) ≤ 100 := by omega
      have hss : (s.toList == s.toList) = true := by simp
      clear hv hT hs h100 e1 hrs hM hcut hcnt henl hlu
      go_enter Tryd.func4, Tryd.ntmps4
      go_upto_region 6 with (first
        | (go_at_call 13; refine (hcnt2 _ HT.out).mono ?_; rintro e w1 ⟨rfl, hk1⟩)
        | (go_at_call 14; refine (henl2 _ (HT.out.below hk1)).mono ?_; rintro e w2 ⟨g, rfl, hF, _, _, hk2⟩)
        | (go_at_call 17; refine (hcut2 _ (HT.out.below (hk1.trans' hk2))).mono ?_; rintro e w3 ⟨rfl, hk3⟩))
      obtain ⟨n, cap, w4, hr1, hr2, hk4⟩ := rune_round s w3 Hs.out
      rw [Hrs.out] at hr2
      have hk04 := hide (hk1.trans' (hk2.trans' (hk3.trans' hk4)))
      clear hk1 hk2 hk3 hk4 hF hcut2 hcnt2 henl2
      go_wp2_with (go_at_call 10; refine (lives_any _ (HT.out.below hk04.out)).mono ?_; rintro e w5 ⟨rfl, hk5⟩)
      go_ret
      exact ⟨rfl, hk04.out.trans' hk5⟩
    · have hv' : Lib.validD s.data.toList = false := by simpa using hv
      have hne : textB (runesB s) ≠ s := fun e => hv ((back_iff s).1 e)
      have HN := hide hne
      have HV := hide hv'
      clear hv hv' hT hs h100 hne
      go_enter Tryd.func4, Tryd.ntmps4
      go_upto_region 6 with (first
        | (go_at_call 13; refine (count_bad s _ Hs.out HT.out HV.out).mono ?_; rintro e w1 ⟨rfl, hk1⟩)
        | (go_at_call 14; refine (enc_bad s _ Hs.out (HT.out.below hk1) HV.out).mono ?_; rintro e w2 ⟨rfl, hk2⟩)
        | (go_at_call 17; refine (cut_bad s _ _ Hs.out (HT.out.below (hk1.trans' hk2)) HV.out).mono ?_; rintro e w3 ⟨rfl, hk3⟩))
      obtain ⟨n, cap, w4, hr1, hr2, hk4⟩ := rune_round s w3 Hs.out
      have hk04 := hide (hk1.trans' (hk2.trans' (hk3.trans' hk4)))
      clear hk1 hk2 hk3 hk4
      generalize textB (runesB s) = t at *
      obtain ⟨hn1, hn2⟩ := str_ne HN.out
      go_wp2_with (go_at_call 10; refine (lives_any _ (HT.out.below hk04.out)).mono ?_; rintro e w5 ⟨rfl, hk5⟩)
      go_ret
      exact ⟨rfl, hk04.out.trans' hk5⟩
end Go.Proofs.YtokijdgakphfiaaDoor
