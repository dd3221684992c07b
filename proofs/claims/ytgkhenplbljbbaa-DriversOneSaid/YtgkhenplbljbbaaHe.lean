
/- Choose, with the choice told to lie in new memory (the text of Choose again). The slices read as lists. -/
import Derived.Test.YtgkhenplbljbbaaChecked
import Derived.Deep.RegionHeld3
import Derived.Deep.DrawnRows
import Derived.Deep.DeepCutAuto
import Derived.Deep.LoopGhost
import Derived.Outline
import Derived.Handy
import Derived.Deep.RegionLaw
import Derived.Test.YtgkhenplbljbbaaEf
import Derived.Test.YtgkhenplbljbbaaWh
import Derived.Test.YtgkhenplbljbbaaPd
import Derived.Test.YtgkhenplbljbbaaEg
set_option linter.unusedVariables false
set_option linter.unusedSimpArgs false
set_option linter.unusedSectionVars false
namespace Go.Proofs.Ytgkhenplbljbbaa
open Go.RowKit

set_option maxRecDepth 100000 in
set_option maxHeartbeats 4000000 in
theorem choose_new (A : Option Addr) (n c : Nat) (l : List Drv) (a v p : Int) (A2 : Option Addr) (m c2 : Nat) (cfs : List Cf) (cur : Int) (w : World) (hn : n ≤ maxLen) (hl : Sl drvT w (low w.heap.size) A n l) (hr : allR l (fun _ _ r => r.ok)) (hck : checkS l = 0)
    (hm : m ≤ 4) (hcf : Sl cfT w (low w.heap.size) A2 m cfs) :
    Calls Try.prog 19 #[.slice A n c, .agg #[.int .u8 (a), .slice none 0 0, .int .u8 0, .int .u8 0, .int .u8 0, .int .u16 0, .int .u8 0, .int .u8 0, .int .u8 0, .int .u8 0, .int .u16 (v), .int .u16 (p), .int .u16 0, .int .u8 0, .int .u8 0, .int .u8 0, .int .u8 0, .slice A2 m c2], .int .i64 cur] w fun e w' =>
      ∃ A', e = .returned (.tuple #[.agg #[.int .u8 ((choiceB (mtS l v p) cur cfs).1), .slice A' (choiceB (mtS l v p) cur cfs).2.1.length (choiceB (mtS l v p) cur cfs).2.1.length], .int .i64 ((choiceB (mtS l v p) cur cfs).2.2)]) ∧
        Sl i64T w' (fun b => w.heap.size ≤ b ∧ b < w'.heap.size) A' (choiceB (mtS l v p) cur cfs).2.1.length (choiceB (mtS l v p) cur cfs).2.1 ∧ Kept w w' := by
  obtain ⟨i1, hi1, hz10, hz11, hz12⟩ := info_parts info114
  have hll := hide hcf.1
  by_cases hm0 : m = 0
  · have hcz := choiceB_none (mtS l v p) cur (l := cfs) (by rw [hcf.1]; exact hm0)
    rw [hcz]
    clear hcz
    subst hm0
    go_enter Try.func19, Try.ntmps19
    go_wp2_with (go_at_call 16; refine (check_any _ _ _ l _ hn (by exact hl.kept (by go_grown))).mono ?_; rw [hck]; rintro e w1 ⟨rfl, hk⟩; obtain ⟨hcq, hfq⟩ := bcell hk; have hk1 : Kept w w1 := (Below.trans (by go_grown) (hk.mono (by simp only [World.size_alloc]; omega))))
    refine bodyPost_ret (v := .tuple #[.agg #[.int .u8 (0), .slice none 0 0], .int .i64 (7)]) (by simp [results, Try.results19, go_sem, *]) rfl ?_
    exact ⟨none, rfl, Sl.nil _ _ _ _, by go_grown⟩
  · have hmp : (0 : Int) < (m : Int) := by omega
    have hm0b : ((m : Int) == 0) = false := by simp; omega
    have hml : ¬ cfs.length = 0 := by rw [hcf.1]; exact hm0
    have Hcz := hide hml
    clear hml
    have hmt := hide (mtS_ok hr v p)
    go_enter Try.func19, Try.ntmps19
    go_upto_region 6 with (go_at_call 16; refine (check_any _ _ _ l _ hn (by exact hl.kept (by go_grown))).mono ?_; rw [hck]; rintro e w1 ⟨rfl, hk⟩; obtain ⟨hcq, hfq⟩ := bcell hk; have hk1 : Kept w w1 := (Below.trans (by go_grown) (hk.mono (by simp only [World.size_alloc]; omega))))
    refine wp_at (fun W => W.heap[w.heap.size]? = some (.cells #[.int .u8 (a), .slice none 0 0, .int .u8 0, .int .u8 0, .int .u8 0, .int .u16 0, .int .u8 0, .int .u8 0, .int .u8 0, .int .u8 0, .int .u16 (v), .int .u16 (p), .int .u16 0, .int .u8 0, .int .u8 0, .int .u8 0, .int .u8 0, .slice A2 m c2] 34 (0, 0)) ∧ W.heap[w.heap.size + 1]? = some (.cells #[.int .u8 0, .slice none 0 0] 63 (0, 0)) ∧ Kept w W) ⟨?_, ?_, ?_⟩ (fun W hW => ?_)
    · exact heap_kept hk (heap_past (heap_at _ rfl))
    · exact heap_kept hk (heap_at _ (by simp))
    · exact hk1
    clear hk hcq hfq
    obtain ⟨HX, HR, hkW⟩ := hW
    have HX' := hide HX
    have HR' := hide HR
    have b17 := cell_heap HX (o := 17) rfl
    have hxl := heap_lt HX
    clear HX HR
    go_wp2_with fail
    go_loopg [9, 27] m (fun g s9 s27 wr => ∃ k : Nat, k + g = m ∧ s27 = .int .i64 k ∧ ∃ A9 n9 c9, s9 = .slice A9 n9 c9 ∧ n9 ≤ k ∧ Own (ofrT.from W.heap.size) 114 W.heap.size wr (.slice A9 n9 c9) n9 (offersB (mtS l v p) cur (cfs.take k)) ∧ Kept W wr)
    case atStart => exact ⟨0, by omega, rfl, none, 0, 0, rfl, by omega, Own.nil _ _ _ _, Below.refl _ _⟩
    case round =>
      clear b17 hxl
      obtain ⟨k, hk, rfl, A9, n9, c9, rfl, hn9, hown, hko⟩ := hrel
      have Hk := hide hk
      have hkm : k ≤ m := by omega
      clear hk
      have hkw : Kept w wr := hkW.trans' hko
      by_cases hlt : k < m
      · obtain ⟨cf, b, off, A3, c3, hx, rfl, hbw, hbr, hc1, hc2, hl5, ⟨hp0, hp1⟩, e0, e1, e2, e3, e4, e5, e6, e7, hif⟩ := cf_at hcf hkw hlt
        have Hx := hide hx
        clear hx
        have hlt' : (k : Int) < (m : Int) := by omega
        have hk0 : (0 : Int) ≤ (k : Int) := by omega
        unfold maxLen at hc2
        by_cases haf : cf.power * 2 ≤ cur
        · go_upto_region 11 with (fail)
          have hcl : cf.ifs.length = (ofrOf (mtS l v p) cf).drv.length := by simp [ofrOf]
          generalize hq : cf.ifs.length = q at *
          have Hq := hide hq
          have Hcl := hide hcl
          clear hq hcl
          refine wp_at (fun W2 => W2.heap[wr.heap.size]? = some (.cells #[.int .u16 0, .int .u8 0, .int .u8 cf.num, .int .u8 0, .bool false, .bool false, .int .u8 cf.power, .slice A3 q c3] 96 (0, 0)) ∧ Kept wr W2) ⟨heap_at _ rfl, by go_grown⟩ (fun W2 hW2 => ?_)
          obtain ⟨HC, hkr⟩ := hW2
          have hk2 : Kept w W2 := hkw.trans' hkr
          have HX2 := heap_kept hkr (heap_kept hko HX'.out)
          have hown2 := hown.kept hkr
          have Hsl := hide (hl.kept hk2)
          have Hif := hide (hif.kept hk2)
          have hX := heap_lt HX2
          have hC := heap_lt HC
          have x5 := cell_heap HX2 (o := 5) rfl
          have x6 := cell_heap HX2 (o := 6) rfl
          have x7 := cell_heap HX2 (o := 7) rfl
          have x8 := cell_heap HX2 (o := 8) rfl
          have x9 := cell_heap HX2 (o := 9) rfl
          have x10 := cell_heap HX2 (o := 10) rfl
          have x11 := cell_heap HX2 (o := 11) rfl
          have x12 := cell_heap HX2 (o := 12) rfl
          have x13 := cell_heap HX2 (o := 13) rfl
          have x14 := cell_heap HX2 (o := 14) rfl
          have x15 := cell_heap HX2 (o := 15) rfl
          have x16 := cell_heap HX2 (o := 16) rfl
          have y0 := cell_heap HC (o := 0) rfl
          have y1 := cell_heap HC (o := 1) rfl
          have y2 := cell_heap HC (o := 2) rfl
          have y3 := cell_heap HC (o := 3) rfl
          have y4 := cell_heap HC (o := 4) rfl
          have y5 := cell_heap HC (o := 5) rfl
          have y6 := cell_heap HC (o := 6) rfl
          have y7 := cell_heap HC (o := 7) rfl
          have Hrel : Hid (∀ (W' w1 : World) (N1 : Nat) (u : Value) (A7 : Option Addr), Sl i64T w1 (fun b => N1 ≤ b ∧ b < w1.heap.size) A7 q (cf.ifs.map (drvAt (mtS l v p))) → Kept w1 W' → (∀ g, u.ownBlock = some g → g < N1) → W.heap.size ≤ N1 →
              (ofrT.from W.heap.size).rel W' (apart W' u) (ofrOf (mtS l v p) cf) [.int .u8 cf.num, .slice A7 q q, .int .i64 (total (oneAt (mtS l v p)) cf.ifs), .int .i64 (total (sumAt (mtS l v p)) cf.ifs)]) := by
            intro W' w1 N1 u A7 hs hkk hu hWN
            refine ⟨A7, by rw [← Hcl.out]; rfl, by rw [← Hcl.out]; unfold maxLen; omega, ?_⟩
            rw [← Hcl.out]
            exact hs.keep (fun b hb => ⟨⟨Nat.lt_of_lt_of_le hb.2 hkk.size, fun e => by have := hu b e; omega⟩, Nat.le_trans hWN hb.1⟩) (fun b o hb => hkk.cell (p := ⟨b, o, none⟩) hb.2)
          have hn94 : n9 ≤ 4 := by omega
          clear HC HX2 e0 e1 e2 e3 e4 e5 e6 e7 hown
          go_wp2_with (first
            | (at_builtin; refine wpList_append_el (T := ofrT.from W.heap.size) rfl (.tmp 38) (.tmp 44) 112 rfl W.heap.size 114 i1 _ 48 Try.underlying112 hi1 hz10 hz11 hz12 rfl (by show 0 < 4; decide) (.slice A9 n9 c9) n9 _ (by rfl) ((hown2.kept hk).alloc _) _ _ _ (ofrOf (mtS l v p) cf) (by rfl) (heap_alloc_new w1 _) (Hrel.out _ w1 _ _ _ hs7 (by go_grown) (fun g hg => (hown2.lt hg).2) (by have := hkr.size; have := hko.size; omega)) (by simp [Value.oneCell']) (by unfold maxLen; omega) (by omega) (by have := hk.size; have := hkr.size; have := hko.size; simp only [World.size_alloc]; omega) ?_; intro g6 cap6 w6 hown6 hg6 hb hat6 hlt6)
            | (go_at_call 33; refine (offers_any _ _ _ _ _ _ _ _ _ _ _ _ _ _ _ _ _ _ _ _ _ cf.ifs _ hn Hsl.out hl5 Hif.out hr).mono ?_; rintro e w1 ⟨A7, rfl, hs7, hk⟩))
          go_roundg (gk - 1)
          case measure => have := Hk.out; omega
          case rel =>
            have hk6 : Kept W w6 := Below.trans (((hko.trans' hkr).trans' hk).alloc (by have := ((hko.trans' hkr).trans' hk).size; omega) _) (hb.mono (Nat.le_refl _))
            exact ⟨k + 1, by have := Hk.out; omega, by go_num, some ⟨g6, 0, none⟩, n9 + 1, cap6, by go_simp, by omega, by rw [offersB_yes Hx.out haf]; exact hown6, hk6⟩
        · have haf' : cur < cf.power * 2 := by omega
          go_wp2_with fail
          go_roundg (gk - 1)
          case measure => have := Hk.out; omega
          case rel => exact ⟨k + 1, by have := Hk.out; omega, by go_num, A9, n9, c9, by go_simp, by omega, by rw [offersB_no Hx.out (by omega)]; exact hown.alloc _, hko.alloc hko.size _⟩
      · have hkm' : k = m := by omega
        have hall : cfs.take k = cfs := by rw [hkm', ← hll.out, List.take_length]
        rw [hall] at hown
        clear hall
        have HXr := heap_kept hko HX'.out
        have HRr := heap_kept hko HR'.out
        have r0 := cell_heap HRr (o := 0) rfl
        have r1 := cell_heap HRr (o := 1) rfl
        have q0 := frozen_heap HRr (o := 0)
        have q1 := frozen_heap HRr (o := 1)
        have hrl := heap_lt HRr
        clear HXr HRr
        have hlen := hown.1
        by_cases hn0 : n9 = 0
        · have hb := choiceB_power (mt := mtS l v p) (cur := cur) Hcz.out (by rw [List.eq_nil_of_length_eq_zero (hlen.trans hn0)]; rfl)
          have Hb := hide hb
          clear hb
          subst hn0
          go_wp2_with fail
          refine bodyPost_ret (v := .tuple #[.agg #[.int .u8 (0), .slice none 0 0], .int .i64 (15)]) (by simp [results, Try.results19, go_sem, *]) rfl ?_
          exact ⟨none, by rw [Hb.out]; rfl, by rw [Hb.out]; exact Sl.nil _ _ _ _, by go_grown⟩
        · have hn1 : 0 < n9 := by omega
          have hn94 : n9 ≤ 4 := by omega
          have Hsl := hide (hown.slF (fun b => W.heap.size ≤ b ∧ b < wr.heap.size) (fun g h h' => ⟨h, h'⟩) (fun g h h' => ⟨h, h'⟩))
          clear hlen
          go_wp2_with (first
            | (go_at_call 34; refine (max_any _ _ _ _ _ _ (fun b hb => hb.2) (by unfold maxLen; omega) hn1 Hsl.out).mono ?_; rintro e w1 ⟨o, A7, hbo, rfl, hol, hs7, hk⟩; obtain ⟨hcq, hfq⟩ := bcell hk; have hrl1 : w.heap.size + 1 < w1.heap.size := Nat.lt_of_lt_of_le hrl hk.size; have hkw1 : Kept w w1 := hkw.trans' hk))
          have Hb := hide (choiceB_best (mt := mtS l v p) (cur := cur) Hcz.out hbo)
          refine bodyPost_ret (v := .tuple #[.agg #[.int .u8 (o.num), .slice A7 o.drv.length o.drv.length], .int .i64 (0)]) (by simp [results, Try.results19, go_sem, *]) rfl ?_
          refine ⟨A7, by rw [Hb.out], ?_, by go_grown⟩
          rw [Hb.out]
          have hWw : w.heap.size + 1 < W.heap.size := heap_lt HR'.out
          refine hs7.keep (fun b hb => ⟨by have := hb.1; omega, by have := hb.2; have := hk.size; simp; omega⟩) (fun b o hb => ?_)
          have hb1 : b < w1.heap.size := Nat.lt_of_lt_of_le hb.2 hk.size
          rw [World.cell?_alloc_lt _ _ _ (by simpa using hb1), World.cell?_setCell_other _ _ _ _ (fun e => by have := congrArg Addr.block e; simp only at this; omega), World.cell?_setCell_other _ _ _ _ (fun e => by have := congrArg Addr.block e; simp only at this; omega)]
          exact hk.cell (p := ⟨b, o, none⟩) hb.2
end Go.Proofs.Ytgkhenplbljbbaa
