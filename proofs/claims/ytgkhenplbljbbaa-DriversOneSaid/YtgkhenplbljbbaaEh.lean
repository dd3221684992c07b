
/- What the definition's choice returns. The lists read as drivers and configurations. -/
import Derived.Test.YtgkhenplbljbbaaChecked
import Derived.Deep.RegionHeld3
import Derived.Deep.DrawnRows
import Derived.Deep.DeepCutAuto
import Derived.Deep.LoopGhost
import Derived.Outline
import Derived.Handy
import Derived.Deep.RegionLaw
import Derived.Deep.QuietTactic
import Derived.BigQuiet
import Derived.Test.YtgkhenplbljbbaaEg
import Derived.Test.YtgkhenplbljbbaaWd
set_option linter.unusedVariables false
set_option linter.unusedSimpArgs false
set_option linter.unusedSectionVars false
namespace Go.Proofs.Ytgkhenplbljbbaa
open Go.RowKit
attribute [local go_sem ↓] Go.wp_at_zero Go.wp_at_succ

theorem info3 : (Try.prog.info? 3).map (fun i => (i.zero, i.size, i.bytes)) = some (some (.int .i64 0), 1, 8) := by kernel_rfl
/-- the definition's variables: the error, and the best offer so far -/
def bE : Option Ofr → Int | none => 15 | some _ => 0
def bO : Option Ofr → Ofr | none => ⟨0, [], 0, 0⟩ | some o => o
theorem offersB_take_yes {mt : Int → Int × Int} {cur : Int} {l : List Cf} {k : Nat} {c : Cf} (h : l[k]? = some c) (ha : c.power * 2 ≤ cur) : bestB (offersB mt cur (l.take (k + 1))) = stepB (bestB (offersB mt cur (l.take k))) (ofrOf mt c) := by
  rw [offersB_yes h ha, bestB_snoc]
theorem choiceB_any {mt : Int → Int × Int} {cur : Int} {l : List Cf} (h : ¬ l.length = 0) : choiceB mt cur l = ((bO (bestB (offersB mt cur l))).num, (bO (bestB (offersB mt cur l))).drv, bE (bestB (offersB mt cur l))) := by
  cases hb : bestB (offersB mt cur l) with
  | none => rw [choiceB_power h hb]; rfl
  | some o => rw [choiceB_best h hb]; rfl

set_option maxRecDepth 100000 in
set_option maxHeartbeats 4000000 in
theorem lchoose_new (A : Option Addr) (n c : Nat) (l : List Drv) (a v p : Int) (A2 : Option Addr) (m c2 : Nat) (cfs : List Cf) (cur : Int) (w : World) (hn : n ≤ maxLen) (hl : Sl drvT w (low w.heap.size) A n l) (hr : allR l (fun _ _ r => r.ok))
    (hm : m ≤ 4) (hcf : Sl cfT w (low w.heap.size) A2 m cfs) :
    Calls Try.prog 20 #[.slice A n c, .agg #[.int .u8 (a), .slice none 0 0, .int .u8 0, .int .u8 0, .int .u8 0, .int .u16 0, .int .u8 0, .int .u8 0, .int .u8 0, .int .u8 0, .int .u16 (v), .int .u16 (p), .int .u16 0, .int .u8 0, .int .u8 0, .int .u8 0, .int .u8 0, .slice A2 m c2], .int .i64 cur] w fun e w' =>
      ∃ A' c', e = .returned (.tuple #[.agg #[.int .u8 ((choiceB (mtS l v p) cur cfs).1), .slice A' (choiceB (mtS l v p) cur cfs).2.1.length c'], .int .i64 ((choiceB (mtS l v p) cur cfs).2.2)]) ∧
        Sl i64T w' (fun b => w.heap.size ≤ b ∧ b < w'.heap.size) A' (choiceB (mtS l v p) cur cfs).2.1.length (choiceB (mtS l v p) cur cfs).2.1 ∧ Kept w w' := by
  obtain ⟨i3, hi3, hz30, hz31, hz32⟩ := info_parts info3
  have hll := hide hcf.1
  by_cases hm0 : m = 0
  · have hcz := choiceB_none (mtS l v p) cur (l := cfs) (by rw [hcf.1]; exact hm0)
    rw [hcz]
    clear hcz
    subst hm0
    go_enter Try.func20, Try.ntmps20
    go_wp2_with fail
    refine bodyPost_ret (v := .tuple #[.agg #[.int .u8 (0), .slice none 0 0], .int .i64 (7)]) (by simp [results, Try.results20, go_sem, *]) rfl ?_
    exact ⟨none, 0, rfl, Sl.nil _ _ _ _, by go_grown⟩
  · have hmp : (0 : Int) < (m : Int) := by omega
    have hm0b : ((m : Int) == 0) = false := by simp; omega
    have hml : ¬ cfs.length = 0 := by rw [hcf.1]; exact hm0
    have Hcz := hide (choiceB_any (mt := mtS l v p) (cur := cur) hml)
    clear hml
    have hmt := hide (mtS_ok hr v p)
    have Hmd := hide (fun (n a b : Int) (h : isBest (fun r => scoreL r.use r.vendor r.product r.cls r.sub r.proto v p (3 + n % 3) (n / 3 % 3) (n / 9 % 3)) l a b) => show a = (mtS l v p n).1 ∧ b = (mtS l v p n).2 from match_same hr h)
    generalize mtS l v p = mt at *
    go_enter Try.func20, Try.ntmps20
    go_upto_region 6 with (fail)
    refine wp_at (fun W => W.heap[w.heap.size]? = some (.cells #[.int .u8 (a), .slice none 0 0, .int .u8 0, .int .u8 0, .int .u8 0, .int .u16 0, .int .u8 0, .int .u8 0, .int .u8 0, .int .u8 0, .int .u16 (v), .int .u16 (p), .int .u16 0, .int .u8 0, .int .u8 0, .int .u8 0, .int .u8 0, .slice A2 m c2] 34 (0, 0)) ∧ W.heap[w.heap.size + 1]? = some (.cells #[.int .u8 0, .slice none 0 0] 63 (0, 0)) ∧ W.heap[w.heap.size + 1 + 1]? = some (.cells #[.int .u8 0, .slice none 0 0] 63 (0, 0)) ∧ Kept w W) ⟨?_, ?_, ?_, ?_⟩ (fun W hW => ?_)
    · exact heap_past (heap_past (heap_at _ rfl))
    · exact heap_past (heap_at _ (by simp))
    · exact heap_at _ (by simp)
    · go_grown
    obtain ⟨HX, HR, HB, hkW⟩ := hW
    have HX' := hide HX
    have HR' := hide HR
    have HB' := hide HB
    have b17 := cell_heap HX (o := 17) rfl
    have hxl := heap_lt HX
    have HWs : Hid (w.heap.size + 1 + 1 < W.heap.size) := heap_lt HB
    clear HX HR HB
    go_wp2_with fail
    go_loopg [9, 10, 11, 12] m (fun g s9 s10 s11 s12 wr => ∃ k : Nat, k + g = m ∧ s12 = .int .i64 k ∧ ∃ opt, Hid (bestB (offersB mt cur (cfs.take k)) = opt) ∧ s9 = .int .i64 (bE opt) ∧ s10 = .int .i64 (bO opt).many ∧ s11 = .int .i64 (bO opt).sum ∧
      ∃ A8 c8, wr.heap[w.heap.size]? = some (.cells #[.int .u8 (a), .slice none 0 0, .int .u8 0, .int .u8 0, .int .u8 0, .int .u16 0, .int .u8 0, .int .u8 0, .int .u8 0, .int .u8 0, .int .u16 (v), .int .u16 (p), .int .u16 0, .int .u8 0, .int .u8 0, .int .u8 0, .int .u8 0, .slice A2 m c2] 34 (0, 0)) ∧ wr.heap[w.heap.size + 1]? = some (.cells #[.int .u8 0, .slice none 0 0] 63 (0, 0)) ∧ wr.heap[w.heap.size + 1 + 1]? = some (.cells #[.int .u8 (bO opt).num, .slice A8 (bO opt).drv.length c8] 63 (0, 0)) ∧
      Hid (Sl i64T wr (fun b => W.heap.size ≤ b ∧ b < wr.heap.size) A8 (bO opt).drv.length (bO opt).drv) ∧ Kept w wr ∧ W.heap.size ≤ wr.heap.size)
    case atStart => exact ⟨0, by omega, rfl, none, hide rfl, rfl, rfl, rfl, none, 0, HX'.out, HR'.out, HB'.out, hide (Sl.nil _ _ _ _), hkW, Nat.le_refl _⟩
    case round =>
      clear b17 hxl
      obtain ⟨k, hk, rfl, opt, Hopt, rfl, rfl, rfl, A8, c8, HX, HR, HB, Hs8, hkw, hWr⟩ := hrel
      have Hk := hide hk
      have hkm : k ≤ m := by omega
      clear hk
      have b17 := cell_heap HX (o := 17) rfl
      have hxl := heap_lt HX
      have HX2 := hide HX
      have HR2 := hide HR
      have HB2 := hide HB
      clear HX HR HB
      by_cases hlt : k < m
      · obtain ⟨cf, b, off, A3, c3, hx, rfl, hbw, hbr, hc1, hc2, hl5, ⟨hp0, hp1⟩, e0, e1, e2, e3, e4, e5, e6, e7, hif⟩ := cf_at hcf hkw hlt
        have Hx := hide hx
        clear hx
        have hlt' : (k : Int) < (m : Int) := by omega
        have hk0 : (0 : Int) ≤ (k : Int) := by omega
        unfold maxLen at hc2
        by_cases haf : cf.power * 2 ≤ cur
        · have haf' : 2 * cf.power ≤ cur := by omega
          generalize hq : cf.ifs.length = q at *
          have Hq := hide hq
          clear hq
          go_wp2_with fail
          obtain ⟨wo, rfl⟩ : ∃ wo : World, wo = wr := ⟨_, rfl⟩
          obtain ⟨go, rfl⟩ : ∃ g : Nat, g = gk := ⟨_, rfl⟩
          have hbo : b < wo.heap.size := hbr
          clear e0 e1 e2 e3 e4 e5 e6 e7 b17 hxl hbr
          go_loopg [15, 16, 17] q (fun g s15 s16 s17 wi => ∃ j : Nat, j + g = q ∧ s17 = .int .i64 j ∧ s15 = .int .i64 (total (oneAt mt) (cf.ifs.take j)) ∧ s16 = .int .i64 (total (sumAt mt) (cf.ifs.take j)) ∧
            ∃ A4 c4, wi.heap[wo.heap.size + 1]? = some (.cells #[.int .u8 cf.num, .slice A4 j c4] 63 (0, 0)) ∧ wi.heap[wo.heap.size]? = some (.cells #[.int .u16 0, .int .u8 0, .int .u8 cf.num, .int .u8 0, .bool false, .bool false, .int .u8 cf.power, .slice A3 q c3] 96 (0, 0)) ∧
            Own i64T 3 (wo.heap.size + 1 + 1) wi (.slice A4 j c4) j ((cf.ifs.take j).map (drvAt mt)) ∧ Kept wo wi)
          case atStart => exact ⟨0, by omega, rfl, rfl, rfl, none, 0, heap_at _ (by simp), heap_past (heap_at _ rfl), Own.nil _ _ _ _, by go_grown⟩
          case round =>
            obtain ⟨j, hj, rfl, rfl, rfl, A4, c4, HXb, HCb, hown2, hko⟩ := hrel
            have Hj := hide hj
            have hjq : j ≤ q := by omega
            clear hj
            have hkr : Kept w wr := hkw.trans' hko
            obtain ⟨t0, t1⟩ := total_take (oneAt mt) (oneAt_bound mt) (by decide) cf.ifs j (by rw [Hq.out]; exact hl5)
            obtain ⟨t2, t3⟩ := total_take (sumAt mt) (sumAt_bound hmt.out) (by decide) cf.ifs j (by rw [Hq.out]; exact hl5)
            generalize hq1 : total (oneAt mt) (cf.ifs.take j) = q1 at *
            generalize hq2 : total (sumAt mt) (cf.ifs.take j) = q2 at *
            have Hq1 := hide hq1
            have Hq2 := hide hq2
            clear hq1 hq2
            have y7 := cell_heap HCb (o := 7) rfl
            have z0 := cell_heap HXb (o := 0) rfl
            have z1 := cell_heap HXb (o := 1) rfl
            have g1 := frozen_heap HXb (o := 1)
            have hcl := heap_lt HCb
            have hxbl := heap_lt HXb
            have HXb := hide HXb
            have HCb := hide HCb
            have Hown2 := hide hown2
            clear hown2
            by_cases hltj : j < q
            · obtain ⟨yl, b', off', A', c', hy, rfl, hbw', hbr', hd1, hd2, hcell, hys⟩ := slice_at hif (Below.refl _ _) hltj
              have Hy := hide hy
              clear hy
              have hltj' : (j : Int) < (q : Int) := by omega
              have hj0 : (0 : Int) ≤ (j : Int) := by omega
              have hbr2 : b' < wr.heap.size := Nat.lt_of_lt_of_le hbw' hkr.size
              have hcell2 := (hkr.cell (p := ⟨b', off' + j, none⟩) hbw').trans hcell
              clear hcell hbr'
              unfold maxLen at hd2
              cases yl with
              | nil =>
                obtain ⟨a1, a2, a3⟩ := at_nil mt
                have f1 : total (oneAt mt) (cf.ifs.take (j + 1)) = q1 := by rw [total_succ Hy.out, Hq1.out, a2]; omega
                have f2 : total (sumAt mt) (cf.ifs.take (j + 1)) = q2 := by rw [total_succ Hy.out, Hq2.out, a3]; omega
                have Hf1 := hide f1
                have Hf2 := hide f2
                clear f1 f2 a2 a3
                go_wp2_with (at_builtin; refine wpList_append_el (T := i64T) rfl (.tmp 87) (.tmp 89) 61 rfl (wo.heap.size + 1 + 1) 3 i3 _ 8 Try.underlying61 hi3 hz30 hz31 hz32 rfl (by decide) (.slice A4 j c4) j _ (by rfl) ((Hown2.out.kept (Below.refl _ wr : Kept wr wr)).alloc _) _ _ _ (-1) (by rfl) (heap_alloc_new wr _) ⟨rfl, trivial⟩ (by simp [Value.oneCell']) (by unfold maxLen; omega) (by omega) (by have := ((Below.refl _ wr : Kept wr wr)).size; have := hko.size; simp only [World.size_alloc]; omega) ?_; intro g6 cap6 w6 hown6 hg6 hb6 hat6 hlt6; obtain ⟨hcz, hfz⟩ := bcell hb6)
                go_roundg (gk - 1)
                case measure => have := Hj.out; omega
                case rel =>
                  have hk6 : Kept wo w6 := Below.trans ((hko.trans' (Below.refl _ wr : Kept wr wr)).alloc (by have := (hko.trans' (Below.refl _ wr : Kept wr wr)).size; omega) _) (hb6.mono (by omega))
                  have e3 : (cf.ifs.take (j + 1)).map (drvAt mt) = (cf.ifs.take j).map (drvAt mt) ++ [-1] := by rw [map_take_succ Hy.out, a1]
                  refine ⟨j + 1, by have := Hj.out; omega, by go_num, by first | (rw [Hf1.out]; done) | (rw [Hf1.out]; go_num), by first | (rw [Hf2.out]; done) | (rw [Hf2.out]; go_num), some ⟨g6, 0, none⟩, cap6, ?_, ?_, by rw [e3]; exact hown6.setCell (fun h => h) (by show wo.heap.size + 1 < wo.heap.size + 1 + 1; omega) _, hk6.setCell (by show wo.heap.size ≤ wo.heap.size + 1; omega) _⟩
                  · exact heap_store (i := 1) (heap_below hb6 (heap_past (heap_kept (Below.refl _ wr : Kept wr wr) HXb.out)) (by omega)) (.slice (some ⟨g6, 0, none⟩) (j + 1) cap6)
                  · exact heap_other (heap_below hb6 (heap_past (heap_kept (Below.refl _ wr : Kept wr wr) HCb.out)) (by omega)) (by show wo.heap.size ≠ wo.heap.size + 1; omega)
              | cons y t =>
                obtain ⟨b3, off3, rfl, hb3, hal⟩ := alt_at hys
                have y0 : w.cell? ⟨b3, off3, none⟩ = some (.int .u8 0) := hal 0 _ rfl
                have y1 : w.cell? ⟨b3, off3 + 1, none⟩ = some (.int .u8 0) := hal 1 _ rfl
                have y2 : w.cell? ⟨b3, off3 + 2, none⟩ = some (.int .u8 0) := hal 2 _ rfl
                have y3 : w.cell? ⟨b3, off3 + 3, none⟩ = some (.int .u8 (3 + y % 3)) := hal 3 _ rfl
                have y4 : w.cell? ⟨b3, off3 + 4, none⟩ = some (.int .u8 (y / 3 % 3)) := hal 4 _ rfl
                have y5 : w.cell? ⟨b3, off3 + 5, none⟩ = some (.int .u8 (y / 9 % 3)) := hal 5 _ rfl
                have y6 : w.cell? ⟨b3, off3 + 6, none⟩ = some (.int .u8 0) := hal 6 _ rfl
                have hlen : (y :: t).length = t.length + 1 := rfl
                clear hal hys
                obtain ⟨hcr, hfr⟩ := bcell hkr
                have hb3' : b3 < w.heap.size := hb3
                have hb3r : b3 < wr.heap.size := by have := hkr.size; omega
                have HXr := heap_kept hko HX2.out
                have x5 := cell_heap HXr (o := 5) rfl
                have x6 := cell_heap HXr (o := 6) rfl
                have x7 := cell_heap HXr (o := 7) rfl
                have x8 := cell_heap HXr (o := 8) rfl
                have x9 := cell_heap HXr (o := 9) rfl
                have x10 := cell_heap HXr (o := 10) rfl
                have x11 := cell_heap HXr (o := 11) rfl
                have x12 := cell_heap HXr (o := 12) rfl
                have x13 := cell_heap HXr (o := 13) rfl
                have x14 := cell_heap HXr (o := 14) rfl
                have x15 := cell_heap HXr (o := 15) rfl
                have x16 := cell_heap HXr (o := 16) rfl
                have hxl := heap_lt HXr
                clear HXr
                have Hsl := hide (hl.kept hkr)
                rcases hmt.out y with hym | ⟨hy1, hy2, hy3⟩
                · obtain ⟨a1, a2, a3⟩ := at_no (t := t) hym
                  have Hf1 := hide (show total (oneAt mt) (cf.ifs.take (j + 1)) = q1 by rw [total_succ Hy.out, Hq1.out, a2]; omega)
                  have Hf2 := hide (show total (sumAt mt) (cf.ifs.take (j + 1)) = q2 by rw [total_succ Hy.out, Hq2.out, a3]; omega)
                  clear a2 a3
                  have hym1 : (mt y).1 = -1 := by rw [hym]
                  have hym2 : (mt y).2 = -1 := by rw [hym]
                  go_wp2_with fail
                  go_region_held3 (fun w' => (∀ b o, b < wr.heap.size → w'.cell? ⟨b, o, none⟩ = wr.cell? ⟨b, o, none⟩) ∧ Below wr.heap.size wr w') (first | assumption | exact since_start | exact since_keep (by assumption) (Nat.le_refl _) hk) (first
                    | (go_at_call 15; refine (matchL_any _ _ _ l _ _ _ _ _ _ _ _ _ _ _ _ _ _ _ _ _ _ _ _ hn (by exact Hsl.out.kept (Below.drew (Below.refl _ _)))).mono ?_; rintro e w1 ⟨ra, rb, rfl, hbst, hk⟩; obtain ⟨rfl, rfl⟩ := Hmd.out _ _ _ hbst))
                  have hS : Kept wr w1 := (‹(∀ b o, b < wr.heap.size → _) ∧ Below wr.heap.size wr w1›).2
                  obtain ⟨hcs, hfs⟩ := bcell hS
                  have hxbl1 := Nat.lt_of_lt_of_le hxbl hS.size
                  go_wp2_with (at_builtin; refine wpList_append_el (T := i64T) rfl (.tmp 87) (.tmp 89) 61 rfl (wo.heap.size + 1 + 1) 3 i3 _ 8 Try.underlying61 hi3 hz30 hz31 hz32 rfl (by decide) (.slice A4 j c4) j _ (by rfl) ((Hown2.out.kept hS).alloc _) _ _ _ (-1) (by rfl) (heap_alloc_new w1 _) ⟨rfl, trivial⟩ (by simp [Value.oneCell']) (by unfold maxLen; omega) (by omega) (by have := (hS).size; have := hko.size; simp only [World.size_alloc]; omega) ?_; intro g6 cap6 w6 hown6 hg6 hb6 hat6 hlt6; obtain ⟨hcz, hfz⟩ := bcell hb6)
                  go_roundg (gk - 1)
                  case measure => have := Hj.out; omega
                  case rel =>
                    have hk6 : Kept wo w6 := Below.trans ((hko.trans' hS).alloc (by have := (hko.trans' hS).size; omega) _) (hb6.mono (by omega))
                    have e3 : (cf.ifs.take (j + 1)).map (drvAt mt) = (cf.ifs.take j).map (drvAt mt) ++ [-1] := by rw [map_take_succ Hy.out, a1]
                    refine ⟨j + 1, by have := Hj.out; omega, by go_num, by first | (rw [Hf1.out]; done) | (rw [Hf1.out]; go_num), by first | (rw [Hf2.out]; done) | (rw [Hf2.out]; go_num), some ⟨g6, 0, none⟩, cap6, ?_, ?_, by rw [e3]; exact hown6.setCell (fun h => h) (by show wo.heap.size + 1 < wo.heap.size + 1 + 1; omega) _, hk6.setCell (by show wo.heap.size ≤ wo.heap.size + 1; omega) _⟩
                    · exact heap_store (i := 1) (heap_below hb6 (heap_past (heap_kept hS HXb.out)) (by omega)) (.slice (some ⟨g6, 0, none⟩) (j + 1) cap6)
                    · exact heap_other (heap_below hb6 (heap_past (heap_kept hS HCb.out)) (by omega)) (by show wo.heap.size ≠ wo.heap.size + 1; omega)
                · obtain ⟨a1, a2, a3⟩ := at_yes (t := t) hy1
                  have Hf1 := hide (show total (oneAt mt) (cf.ifs.take (j + 1)) = q1 + 1 by rw [total_succ Hy.out, Hq1.out, a2])
                  have Hf2 := hide (show total (sumAt mt) (cf.ifs.take (j + 1)) = q2 + (mt y).2 by rw [total_succ Hy.out, Hq2.out, a3])
                  clear a2 a3
                  go_wp2_with fail
                  go_region_held3 (fun w' => (∀ b o, b < wr.heap.size → w'.cell? ⟨b, o, none⟩ = wr.cell? ⟨b, o, none⟩) ∧ Below wr.heap.size wr w') (first | assumption | exact since_start | exact since_keep (by assumption) (Nat.le_refl _) hk) (first
                    | (go_at_call 15; refine (matchL_any _ _ _ l _ _ _ _ _ _ _ _ _ _ _ _ _ _ _ _ _ _ _ _ hn (by exact Hsl.out.kept (Below.drew (Below.refl _ _)))).mono ?_; rintro e w1 ⟨ra, rb, rfl, hbst, hk⟩; obtain ⟨rfl, rfl⟩ := Hmd.out _ _ _ hbst))
                  have hS : Kept wr w1 := (‹(∀ b o, b < wr.heap.size → _) ∧ Below wr.heap.size wr w1›).2
                  obtain ⟨hcs, hfs⟩ := bcell hS
                  have hxbl1 := Nat.lt_of_lt_of_le hxbl hS.size
                  go_wp2_with (at_builtin; refine wpList_append_el (T := i64T) rfl (.tmp 87) (.tmp 89) 61 rfl (wo.heap.size + 1 + 1) 3 i3 _ 8 Try.underlying61 hi3 hz30 hz31 hz32 rfl (by decide) (.slice A4 j c4) j _ (by rfl) ((Hown2.out.kept hS).alloc _) _ _ _ ((mt y).1) (by rfl) (heap_alloc_new w1 _) ⟨rfl, trivial⟩ (by simp [Value.oneCell']) (by unfold maxLen; omega) (by omega) (by have := (hS).size; have := hko.size; simp only [World.size_alloc]; omega) ?_; intro g6 cap6 w6 hown6 hg6 hb6 hat6 hlt6; obtain ⟨hcz, hfz⟩ := bcell hb6)
                  go_roundg (gk - 1)
                  case measure => have := Hj.out; omega
                  case rel =>
                    have hk6 : Kept wo w6 := Below.trans ((hko.trans' hS).alloc (by have := (hko.trans' hS).size; omega) _) (hb6.mono (by omega))
                    have e3 : (cf.ifs.take (j + 1)).map (drvAt mt) = (cf.ifs.take j).map (drvAt mt) ++ [(mt y).1] := by rw [map_take_succ Hy.out, a1]
                    refine ⟨j + 1, by have := Hj.out; omega, by go_num, by first | (rw [Hf1.out]; done) | (rw [Hf1.out]; go_num), by first | (rw [Hf2.out]; done) | (rw [Hf2.out]; go_num), some ⟨g6, 0, none⟩, cap6, ?_, ?_, by rw [e3]; exact hown6.setCell (fun h => h) (by show wo.heap.size + 1 < wo.heap.size + 1 + 1; omega) _, hk6.setCell (by show wo.heap.size ≤ wo.heap.size + 1; omega) _⟩
                    · exact heap_store (i := 1) (heap_below hb6 (heap_past (heap_kept hS HXb.out)) (by omega)) (.slice (some ⟨g6, 0, none⟩) (j + 1) cap6)
                    · exact heap_other (heap_below hb6 (heap_past (heap_kept hS HCb.out)) (by omega)) (by show wo.heap.size ≠ wo.heap.size + 1; omega)
            · have hjq' : j = q := by omega
              have Hm1 : Hid (total (oneAt mt) cf.ifs = q1) := by have := Hq1.out; rwa [hjq', ← Hq.out, List.take_length] at this
              have Hm2 : Hid (total (sumAt mt) cf.ifs = q2) := by have := Hq2.out; rwa [hjq', ← Hq.out, List.take_length] at this
              have Hd0 : (cf.ifs.take j).map (drvAt mt) = (ofrOf mt cf).drv := by rw [hjq', ← Hq.out, List.take_length]; rfl
              have Hdr : Hid (Own i64T 3 (wo.heap.size + 1 + 1) wr (.slice A4 j c4) j (ofrOf mt cf).drv) := by rw [← Hd0]; exact Hown2
              clear hjq'
              have Hdl : Hid ((ofrOf mt cf).drv.length = j) := Hdr.out.1
              have HXr := hide (heap_kept hko HX2.out)
              have HRr := hide (heap_kept hko HR2.out)
              have HBr := hide (heap_kept hko HB2.out)
              have s0 := cell_heap HBr.out (o := 0) rfl
              have s1 := cell_heap HBr.out (o := 1) rfl
              have k0 := frozen_heap HBr.out (o := 0)
              have k1 := frozen_heap HBr.out (o := 1)
              have hbl := heap_lt HBr.out
              have HB9 := hide (heap_store (i := 1) (heap_store (i := 0) HBr.out (.int .u8 cf.num)) (.slice A4 j c4))
              have HX9 := hide (heap_other (heap_other HXr.out (a := ⟨w.heap.size + 1 + 1, 0, none⟩) (v := .int .u8 cf.num) (by show w.heap.size ≠ w.heap.size + 1 + 1; omega)) (a := ⟨w.heap.size + 1 + 1, 1, none⟩) (v := .slice A4 j c4) (by show w.heap.size ≠ w.heap.size + 1 + 1; omega))
              have HR9 := hide (heap_other (heap_other HRr.out (a := ⟨w.heap.size + 1 + 1, 0, none⟩) (v := .int .u8 cf.num) (by show w.heap.size + 1 ≠ w.heap.size + 1 + 1; omega)) (a := ⟨w.heap.size + 1 + 1, 1, none⟩) (v := .slice A4 j c4) (by show w.heap.size + 1 ≠ w.heap.size + 1 + 1; omega))
              have Hs9 : Hid (Sl i64T ((wr.setCell ⟨w.heap.size + 1 + 1, 0, none⟩ (.int .u8 cf.num)).setCell ⟨w.heap.size + 1 + 1, 1, none⟩ (.slice A4 j c4)) (fun b => W.heap.size ≤ b ∧ b < ((wr.setCell ⟨w.heap.size + 1 + 1, 0, none⟩ (.int .u8 cf.num)).setCell ⟨w.heap.size + 1 + 1, 1, none⟩ (.slice A4 j c4)).heap.size) A4 j (ofrOf mt cf).drv) := by
                have hW := HWs.out
                have h := Hdr.out.sl_of (fun b => W.heap.size ≤ b ∧ b < wr.heap.size) (fun g h1 h2 => ⟨by omega, h2⟩) (fun _ _ h => h)
                refine h.keep (fun b hb => ⟨hb.1, by simpa using hb.2⟩) (fun b o hb => ?_)
                rw [World.cell?_setCell_other _ _ _ _ (fun e => by have := congrArg Addr.block e; simp only at this; omega), World.cell?_setCell_other _ _ _ _ (fun e => by have := congrArg Addr.block e; simp only at this; omega)]
              have Hk9 : Hid (Kept w ((wr.setCell ⟨w.heap.size + 1 + 1, 0, none⟩ (.int .u8 cf.num)).setCell ⟨w.heap.size + 1 + 1, 1, none⟩ (.slice A4 j c4))) :=
                (hkr.setCell (by show w.heap.size ≤ w.heap.size + 1 + 1; omega) _).setCell (by show w.heap.size ≤ w.heap.size + 1 + 1; omega) _
              have hWr9 : W.heap.size ≤ wr.heap.size := by have := hko.size; omega
              have hbE : ∀ o, bE (some o) = 0 := fun _ => rfl
              have hbO : ∀ o, bO (some o) = o := fun _ => rfl
              cases opt with
              | none =>
                have hbN : bE none = 15 := rfl
                have hbP : (bO none).num = 0 ∧ (bO none).many = 0 ∧ (bO none).sum = 0 := ⟨rfl, rfl, rfl⟩
                have hst : stepB none (ofrOf mt cf) = some (ofrOf mt cf) := rfl
                go_wp2_with fail
                go_roundg (go - 1)
                case measure => have := Hk.out; omega
                case rel =>
                  exact ⟨k + 1, by have := Hk.out; omega, by go_num, some (ofrOf mt cf), hide (by rw [offersB_take_yes Hx.out haf, Hopt.out]; exact hst), rfl, by rw [← Hm1.out]; rfl, by rw [← Hm2.out]; rfl, A4, c4, HX9.out, HR9.out,
                    by rw [show (bO (some (ofrOf mt cf))).drv.length = j from Hdl.out]; exact HB9.out, by rw [show (bO (some (ofrOf mt cf))).drv.length = j from Hdl.out]; exact Hs9, Hk9.out, by simp only [World.size_setCell]; exact hWr9⟩
              | some bo =>
                have hmo : moreB (ofrOf mt cf) bo = (decide (bo.many < q1) || (q1 == bo.many && decide (bo.sum < q2))) := by rw [← Hm1.out, ← Hm2.out]; rfl
                by_cases h1 : bo.many < q1
                · have hst : stepB (some bo) (ofrOf mt cf) = some (ofrOf mt cf) := stepB_more (by rw [hmo]; simp [h1])
                  clear hmo
                  have Hst := hide hst
                  clear hst
                  go_wp2_with fail
                  go_roundg (go - 1)
                  case measure => have := Hk.out; omega
                  case rel =>
                    exact ⟨k + 1, by have := Hk.out; omega, by go_num, some (ofrOf mt cf), hide (by rw [offersB_take_yes Hx.out haf, Hopt.out]; exact Hst.out), rfl, by rw [← Hm1.out]; rfl, by rw [← Hm2.out]; rfl, A4, c4, HX9.out, HR9.out,
                      by rw [show (bO (some (ofrOf mt cf))).drv.length = j from Hdl.out]; exact HB9.out, by rw [show (bO (some (ofrOf mt cf))).drv.length = j from Hdl.out]; exact Hs9, Hk9.out, by simp only [World.size_setCell]; exact hWr9⟩
                · by_cases h2 : q1 = bo.many ∧ bo.sum < q2
                  · have hst : stepB (some bo) (ofrOf mt cf) = some (ofrOf mt cf) := stepB_more (by rw [hmo]; simp [h2.1, h2.2])
                    obtain ⟨h21, h22⟩ := h2
                    have Hst := hide hst
                    clear hst hmo
                    have h21' : (q1 == bo.many) = true := by simp [h21]
                    clear h21
                    go_wp2_with fail
                    go_roundg (go - 1)
                    case measure => have := Hk.out; omega
                    case rel =>
                      exact ⟨k + 1, by have := Hk.out; omega, by go_num, some (ofrOf mt cf), hide (by rw [offersB_take_yes Hx.out haf, Hopt.out]; exact Hst.out), rfl, by rw [← Hm1.out]; rfl, by rw [← Hm2.out]; rfl, A4, c4, HX9.out, HR9.out,
                        by rw [show (bO (some (ofrOf mt cf))).drv.length = j from Hdl.out]; exact HB9.out, by rw [show (bO (some (ofrOf mt cf))).drv.length = j from Hdl.out]; exact Hs9, Hk9.out, by simp only [World.size_setCell]; exact hWr9⟩
                  · have hst : stepB (some bo) (ofrOf mt cf) = some bo := stepB_less (by rw [hmo]; simp; omega)
                    have Hst := hide hst
                    clear hst hmo
                    by_cases h3 : q1 = bo.many
                    · have h4 : ¬ bo.sum < q2 := fun h => h2 ⟨h3, h⟩
                      have h21' : (q1 == bo.many) = true := by simp [h3]
                      clear h2 h3
                      go_wp2_with fail
                      go_roundg (go - 1)
                      case measure => have := Hk.out; omega
                      case rel =>
                        exact ⟨k + 1, by have := Hk.out; omega, by go_num, some bo, hide (by rw [offersB_take_yes Hx.out haf, Hopt.out]; exact Hst.out), rfl, by go_simp, by go_simp, A8, c8, HXr.out, HRr.out, HBr.out,
                          hide (Hs8.out.keep (fun b hb => ⟨hb.1, Nat.lt_of_lt_of_le hb.2 hko.size⟩) (fun b o hb => hko.cell (p := ⟨b, o, none⟩) hb.2)), hkr, hWr9⟩
                    · have h21' : (q1 == bo.many) = false := by simp [h3]
                      clear h2 h3
                      go_wp2_with fail
                      go_roundg (go - 1)
                      case measure => have := Hk.out; omega
                      case rel =>
                        exact ⟨k + 1, by have := Hk.out; omega, by go_num, some bo, hide (by rw [offersB_take_yes Hx.out haf, Hopt.out]; exact Hst.out), rfl, by go_simp, by go_simp, A8, c8, HXr.out, HRr.out, HBr.out,
                          hide (Hs8.out.keep (fun b hb => ⟨hb.1, Nat.lt_of_lt_of_le hb.2 hko.size⟩) (fun b o hb => hko.cell (p := ⟨b, o, none⟩) hb.2)), hkr, hWr9⟩
        · have haf' : cur < 2 * cf.power := by omega
          go_wp2_with fail
          go_roundg (gk - 1)
          case measure => have := Hk.out; omega
          case rel => exact ⟨k + 1, by have := Hk.out; omega, by go_num, opt, hide (by rw [offersB_no Hx.out (by omega)]; exact Hopt.out), by go_simp, by go_simp, by go_simp, A8, c8, heap_past HX2.out, heap_past HR2.out, heap_past HB2.out,
              hide (Hs8.out.keep (fun b hb => ⟨hb.1, by simp; omega⟩) (fun b o hb => World.cell?_alloc_lt _ _ _ hb.2)), hkw.alloc hkw.size _, by simp; omega⟩
      · have hkm' : k = m := by omega
        have hopt : bestB (offersB mt cur cfs) = opt := by have := Hopt.out; rwa [hkm', ← hll.out, List.take_length] at this
        have Hcb := hide (Hcz.out.trans (by rw [hopt]))
        clear hopt hkm'
        have s0 := cell_heap HB2.out (o := 0) rfl
        have s1 := cell_heap HB2.out (o := 1) rfl
        have r0 := cell_heap HR2.out (o := 0) rfl
        have r1 := cell_heap HR2.out (o := 1) rfl
        have k0 := frozen_heap HR2.out (o := 0)
        have k1 := frozen_heap HR2.out (o := 1)
        have hbl := heap_lt HB2.out
        have hrl := heap_lt HR2.out
        have hW := HWs.out
        have hlt' : (m : Int) ≤ (k : Int) := by omega
        go_wp2_with fail
        refine bodyPost_ret (v := .tuple #[.agg #[.int .u8 ((bO opt).num), .slice A8 (bO opt).drv.length c8], .int .i64 (bE opt)]) (by simp [results, Try.results20, go_sem, *]) rfl ?_
        refine ⟨A8, c8, by rw [Hcb.out], ?_, by go_grown⟩
        rw [Hcb.out]
        refine Hs8.out.keep (fun b hb => ⟨by have := hb.1; omega, by simpa using hb.2⟩) (fun b o hb => ?_)
        rw [World.cell?_setCell_other _ _ _ _ (fun e => by have := congrArg Addr.block e; simp only at this; omega), World.cell?_setCell_other _ _ _ _ (fun e => by have := congrArg Addr.block e; simp only at this; omega)]
theorem lchoose_any (A : Option Addr) (n c : Nat) (l : List Drv) (a v p : Int) (A2 : Option Addr) (m c2 : Nat) (cfs : List Cf) (cur : Int) (w : World) (hn : n ≤ maxLen) (hl : Sl drvT w (low w.heap.size) A n l) (hr : allR l (fun _ _ r => r.ok))
    (hm : m ≤ 4) (hcf : Sl cfT w (low w.heap.size) A2 m cfs) :
    Calls Try.prog 20 #[.slice A n c, .agg #[.int .u8 (a), .slice none 0 0, .int .u8 0, .int .u8 0, .int .u8 0, .int .u16 0, .int .u8 0, .int .u8 0, .int .u8 0, .int .u8 0, .int .u16 (v), .int .u16 (p), .int .u16 0, .int .u8 0, .int .u8 0, .int .u8 0, .int .u8 0, .slice A2 m c2], .int .i64 cur] w fun e w' =>
      ∃ A' c', e = .returned (.tuple #[.agg #[.int .u8 ((choiceB (mtS l v p) cur cfs).1), .slice A' (choiceB (mtS l v p) cur cfs).2.1.length c'], .int .i64 ((choiceB (mtS l v p) cur cfs).2.2)]) ∧
        Sl i64T w' (low w'.heap.size) A' (choiceB (mtS l v p) cur cfs).2.1.length (choiceB (mtS l v p) cur cfs).2.1 ∧ Kept w w' := by
  refine (lchoose_new A n c l a v p A2 m c2 cfs cur w hn hl hr hm hcf).mono ?_
  rintro e w' ⟨A', c', h2, h3, h4⟩
  exact ⟨A', c', h2, h3.keep (fun b hb => hb.2) (fun _ _ _ => rfl), h4⟩
end Go.Proofs.Ytgkhenplbljbbaa
