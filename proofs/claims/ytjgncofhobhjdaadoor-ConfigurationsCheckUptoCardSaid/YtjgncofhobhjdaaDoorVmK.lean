/- ConfigurationsCheck, walked. Printed by gen_vm.py. -/
import Derived.Test.YtjgncofhobhjdaaDoorChecked
import Derived.Deep.RegionHeld3
import Derived.Deep.DrawnRows
import Derived.Deep.DeepCutAuto
import Derived.Deep.LoopGhost
import Derived.Outline
import Derived.Handy
import Derived.OwnWalk
import Derived.BigQuiet
import Derived.Test.YtjgncofhobhjdaaDoorVhK
import Derived.Test.YtjgncofhobhjdaaDoorVjK
import Derived.Test.YtjgncofhobhjdaaDoorVkK
import Derived.Test.YtjgncofhobhjdaaDoorVlK
import Derived.Test.YtjgncofhobhjdaaDoorYoK
import Derived.Test.YtjgncofhobhjdaaDoorN15
set_option linter.unusedVariables false
set_option linter.unusedSimpArgs false
set_option linter.unusedSectionVars false
namespace Go.Proofs.YtjgncofhobhjdaaDoor
open Go.RowKit
attribute [local go_sem ↓] Go.wp_at_zero Go.wp_at_succ

set_option maxRecDepth 1000000 in
set_option maxHeartbeats 16000000 in
theorem check_law (x : PC) (A : Option Addr) (cap : Nat) (h0 h1 what : Int) (w : World) (hC : PcIs w x A cap) (hx : x.ok) (hh0 : u8k h0) (hh1 : u8k h1) (hw : u8k what) (hz : countP x.ifs ≤ 2000000) (hT : Tabs w) :
    Calls Tryd.prog 6 #[.agg (x.cells A cap).toArray, .agg #[.int .u8 h0, .int .u8 h1], .int .u8 what] w fun e w' => e = .returned (.bool true) ∧ Kept w w' := by
  have HTw := hide hT
  have hlv := fun w' (hk : Kept w w') => lives_any w' (hT.kept hk)
  have hb1 := fun w' (hk : Kept w w') => big_any x A cap w' (hC.kept hk) hz
  have hoa := fun w' (hk : Kept w w') hb => of_any x A cap w' (hC.kept hk) hb hx
  have hs1 := fun hb => of_size (x := x) hb hx
  have hc1 := fun hb => of_check (x := x) hb hx
  have hk1 := fun hb => of_ok (x := x) hb hx
  have hy1 := fun hb => of_many (x := x) hb
  obtain ⟨bg1, hbg1⟩ : ∃ bg, bigS x = bg := ⟨_, rfl⟩
  obtain ⟨E1, hE1⟩ : ∃ C, ofS x = C := ⟨_, rfl⟩
  simp only [hbg1, hE1] at hb1 hoa hs1 hc1 hk1 hy1
  obtain ⟨nu, te, po, se, wa, L⟩ := x
  obtain ⟨n0, hn0⟩ : ∃ n0, L.length = n0 := ⟨_, rfl⟩
  unfold PC.cells at hb1 hoa ⊢
  simp only [hn0] at hb1 hoa ⊢
  clear hC hx hz hT hn0 hbg1 hE1
  go_enter Tryd.func6, Tryd.ntmps6
  go_upto_region 1 with (fail)
  refine wp_at (fun W => W.heap[w.heap.size]? = some (.cells #[.int .u8 nu, .int .u8 te, .int .u8 po, .bool se, .bool wa, .slice A n0 cap] 24 (0, 0)) ∧ W.heap[w.heap.size + 1]? = some (.cells #[.int .u8 h0, .int .u8 h1] 44 (0, 0)) ∧ Kept w W) ⟨heap_past (heap_at _ rfl), heap_at _ (by first | rfl | simp), by go_grown⟩ (fun W hW => ?_)
  obtain ⟨hI, hH, hkW⟩ := hW
  obtain ⟨I0, hI0⟩ : ∃ I0, w.heap.size = I0 := ⟨_, rfl⟩
  obtain ⟨B0, hB0⟩ : ∃ B0, I0 + 1 = B0 := ⟨_, rfl⟩
  rw [hI0, hB0] at hH
  rw [hI0] at hI
  simp only [hI0, hB0]
  have i0 := cell_heap hI (o := 0) rfl; have i1 := cell_heap hI (o := 1) rfl; have i2 := cell_heap hI (o := 2) rfl; have i3 := cell_heap hI (o := 3) rfl; have i4 := cell_heap hI (o := 4) rfl; have i5 := cell_heap hI (o := 5) rfl
  have lI := heap_lt hI
  have HI := hide hI
  have HH := hide hH
  have HkW := hide hkW
  clear hI hH hkW hI0 hB0
  cases bg1 with
  | true =>
    clear hoa hs1 hc1 hk1 hy1
    go_wp2_with (first
      | (go_at_call 12; refine (hb1 _ HkW.out).mono ?_; rintro e w1 ⟨⟨k, rfl, hk0⟩, hkk⟩; have hkp : 0 < k := by simpa using hk0)
      | (go_at_call 13; refine (hlv _ (HkW.out.trans' hkk)).mono ?_; rintro e w2 ⟨rfl, hk3⟩))
    go_ret
    exact ⟨rfl, (HkW.out.trans' hkk).trans' hk3⟩
  | false =>
  replace hoa := fun w' hk => hoa w' hk rfl
  replace hs1 := hs1 rfl
  replace hc1 := hc1 rfl
  replace hk1 := hk1 rfl
  replace hy1 := hy1 rfl
  obtain ⟨D1, I1⟩ := E1
  obtain ⟨n1, hn1⟩ : ∃ n, I1.length = n := ⟨_, rfl⟩
  unfold Cfg.cells CfgD.cells at hoa
  simp only [hn1, List.cons_append, List.nil_append] at hoa
  have hy2 : n1 ≤ 6 := by rw [← hn1]; exact hy1
  have Hn1 := hide hn1
  have Hs1 := hide hs1
  have Hc1 := hide hc1
  have Hk1 := hide hk1
  clear hs1 hc1 hk1 hn1 hy1
  go_upto_region 3 with (go_at_call 12; refine (hb1 _ HkW.out).mono ?_; rintro e w1 ⟨⟨k, rfl, hk0⟩, hkk⟩; have hkp : k ≤ 0 := (by simpa using hk0))
  have hkA := HkW.out.trans' hkk
  have hI3 := heap_kept hkk HI.out
  have HH3 := hide (heap_kept hkk HH.out)
  clear i0 i1 i2 i3 i4 i5 lI HI HH hk0 hkk HkW hkp
  have i0 := cell_heap hI3 (o := 0) rfl; have i1 := cell_heap hI3 (o := 1) rfl; have i2 := cell_heap hI3 (o := 2) rfl; have i3 := cell_heap hI3 (o := 3) rfl; have i4 := cell_heap hI3 (o := 4) rfl; have i5 := cell_heap hI3 (o := 5) rfl
  have lI := heap_lt hI3
  clear hI3 hb1
  go_upto_region 4 with (go_at_call 14; refine (hoa _ hkA).mono ?_; rintro e w4 ⟨⟨A1, c1, L1, rfl, hpl, hl1, hm1, hli⟩, hk4⟩)
  refine wp_at (fun V => ∃ BB, V.heap[BB]? = some (.cells #[.int .u16 D1.total, .int .u8 D1.ifs, .int .u8 D1.number, .int .u8 D1.text, .bool D1.self, .bool D1.wake, .int .u8 D1.power, .slice A1 n1 c1] 32 (0, 0)) ∧ BB = w4.heap.size ∧ Kept w4 V) ⟨_, heap_at _ rfl, rfl, by go_grown⟩ (fun V hV => ?_)
  obtain ⟨BB, hBB, hBBd, hkV⟩ := hV
  rw [← hBBd]
  have hkB := (hkA.trans' hk4).trans' hkV
  have hHV := heap_kept (hk4.trans' hkV) HH3.out
  have hmid : MidC w V w1.heap.size BB (.slice A1 n1 c1) D1 L1 := ⟨hkB, ⟨hkA.size, by rw [hBBd]; exact hk4.size⟩, hBB, hli.kept hkV⟩
  have Hmid := hide hmid
  have HBB := hide hBB
  clear i0 i1 i2 i3 i4 i5 lI hBBd hkV hk4 hli HH3 hoa hmid
  have b0 := cell_heap hBB (o := 0) rfl; have b1 := cell_heap hBB (o := 1) rfl; have b2 := cell_heap hBB (o := 2) rfl; have b3 := cell_heap hBB (o := 3) rfl; have b4 := cell_heap hBB (o := 4) rfl; have b5 := cell_heap hBB (o := 5) rfl; have b6 := cell_heap hBB (o := 6) rfl; have b7 := cell_heap hBB (o := 7) rfl
  have lBB := heap_lt hBB
  have q0 := cell_heap hHV (o := 0) rfl; have q1 := cell_heap hHV (o := 1) rfl
  have lH := heap_lt hHV
  clear hBB hHV
  have hcc := check_of Hc1.out
  have hn1p : 0 < n1 := by
    have h1 := hcc.ifs
    have h2 := hcc.valid.d
    unfold okCfg at h2
    simp only [Bool.and_eq_true, decide_eq_true_eq] at h2
    have h4 : (1 : Int) ≤ (I1.length : Int) := by rw [← h1]; exact h2.1.1.1.2
    rw [Hn1.out] at h4
    omega
  obtain ⟨i, hi⟩ : ∃ i : Nat, h0 % (n1 : Int) = (i : Int) := ⟨(h0 % (n1 : Int)).toNat, by have := Int.emod_nonneg h0 (show (n1 : Int) ≠ 0 by omega); omega⟩
  have hin : i < n1 := by have := Int.emod_lt_of_pos h0 (show (0 : Int) < (n1 : Int) by omega); omega
  obtain ⟨y0, y1⟩ := hh0
  obtain ⟨z0, z1⟩ := hh1
  have hwh0 : IntKind.i64.wrap h0 = h0 := by rw [IntKind.wrap_i64]; omega
  have hwh1 : IntKind.i64.wrap h1 = h1 := by rw [IntKind.wrap_i64]; omega
  have hmi : h0.tmod (n1 : Int) = (i : Int) := by rw [Int.tmod_eq_emod_of_nonneg y0]; exact hi
  have hn0i : ¬ (n1 : Int) = 0 := by omega
  have hn0n : ¬ n1 = 0 := by omega
  have hpl1 : plainL L1 = I1 := hpl
  have hi1 : i < I1.length := by rw [Hn1.out]; exact hin
  obtain ⟨y, hyL, hyl⟩ := plainL_at (show (plainL L1)[i]? = some I1[i] by rw [hpl1]; exact List.getElem?_eq_getElem hi1)
  obtain ⟨l, hl⟩ : ∃ l, I1[i] = l := ⟨_, rfl⟩
  have hIl : I1[i]? = some l := by rw [List.getElem?_eq_getElem hi1, hl]
  rw [hl] at hyl
  have hl0 : 0 < l.length := List.length_pos_iff.2 (hcc.each l (List.mem_of_getElem? hIl)).2
  have hl16 := (hcc.each l (List.mem_of_getElem? hIl)).1
  have hym : y.alts.length = l.length := by rw [hyl, List.length_map]
  have hyr := Hmid.out.lis.rows y (List.mem_of_getElem? hyL)
  have hL1n : L1.length = n1 := by rw [← Hn1.out, ← hpl1]; unfold plainL; rw [List.length_map]
  have hown := Hmid.out.lis.own
  rw [hL1n] at hown
  obtain ⟨gI, cI, curI, hvI, hgI, hhI, hcI1, hcI2, hbI⟩ := own_block hown hn1p
  injection hvI with hvI1 _ hvI3
  subst hvI1 hvI3
  obtain ⟨g, cA, curA, hvA, hgA, hhA, hcA1, hcA2, hbA⟩ := own_block hyr.1 (by omega)
  obtain ⟨m, hmm⟩ : ∃ m, y.alts.length = m := ⟨_, rfl⟩
  rw [hmm] at hvA hcA1 hym
  have hm0 : 0 < m := by omega
  obtain ⟨j, hj⟩ : ∃ j : Nat, h1 % (m : Int) = (j : Int) := ⟨(h1 % (m : Int)).toNat, by have := Int.emod_nonneg h1 (show (m : Int) ≠ 0 by omega); omega⟩
  have hjm : j < m := by have := Int.emod_lt_of_pos h1 (show (0 : Int) < (m : Int) by omega); omega
  have hmj : h1.tmod (m : Int) = (j : Int) := by rw [Int.tmod_eq_emod_of_nonneg z0]; exact hj
  have hm0i : ¬ (m : Int) = 0 := by omega
  have hm0n : ¬ m = 0 := by omega
  obtain ⟨p, hp⟩ : ∃ p, y.alts[j]? = some p := ⟨_, List.getElem?_eq_getElem (by omega)⟩
  have hcellI := own_cells (j := i) (cs := [y.v]) hown hyL (fun F c hr => hr.1) 0 _ rfl
  have hcellI' : V.cell? ⟨gI, i, none⟩ = some (.slice (some ⟨g, 0, none⟩) m cA) := by rw [← hvA]; simpa [lfT, Ty.flat] using hcellI
  have lg := heap_lt hhA
  have lgI := heap_lt hhI
  have hj0 : (0 : Int) ≤ (j : Int) := by omega
  have hjmi : (j : Int) < (m : Int) := by omega
  have hi0 : (0 : Int) ≤ (i : Int) := by omega
  have hini : (i : Int) < (n1 : Int) := by omega
  have hck : CK w V w1.heap.size BB gI g n1 c1 m cA i j D1 I1 l L1 y p := ⟨Hmid.out, hpl1, hcc, Hs1.out, Hk1.out, ⟨Hn1.out, hy2, hL1n⟩, ⟨hcI1, hcI2, hcA1, hcA2⟩, hyL, hp, hvA, hmm, hyl⟩
  have Hck := hide hck
  clear hck hcc hpl hpl1 hi1 hyL hyl hl hIl hl0 hl16 hym hyr hL1n hown hvA hgA hhA hcA1 hcA2 hbA hcI1 hcI2 hbI hgI hhI hmm hp hcellI Hmid HBB Hc1 Hs1 Hk1 Hn1 hm1 hl1 hi hj
  go_upto_region 5 with (fail)
  go_quiet (fail)
  go_upto_region 8 with (fail)
  refine wp_at (fun Z => Kept V Z) (by first | exact below_drewN (Below.refl _ _) _ | go_grown) (fun Z hZ => ?_)
  have Hk := hide (Hck.out.keep hZ)
  clear b0 b1 b2 b3 b4 b5 b6 b7 q0 q1 lH lBB lg lgI hcellI' hZ Hck hkA hkB hmi hmj hwh0 hwh1 hlv
  obtain ⟨r, hr⟩ : ∃ r, what % 16 = r := ⟨_, rfl⟩
  have hr16 : r = 0 ∨ r = 1 ∨ r = 2 ∨ r = 3 ∨ r = 4 ∨ r = 5 ∨ r = 6 ∨ r = 7 ∨ r = 8 ∨ r = 9 ∨ r = 10 ∨ r = 11 ∨ r = 12 ∨ r = 13 ∨ r = 14 ∨ r = 15 := by have h5 := hw.1; omega
  rcases hr16 with rfl | rfl | rfl | rfl | rfl | rfl | rfl | rfl | rfl | rfl | rfl | rfl | rfl | rfl | rfl | rfl
  · refine chk_0 Hk.out hw hr HTw.out _ _ ?_ ?_ <;> assumption
  · refine chk_1 Hk.out hw hr HTw.out _ _ ?_ ?_ <;> assumption
  · refine chk_2 Hk.out hw hr HTw.out _ _ ?_ ?_ <;> assumption
  · refine chk_3 Hk.out hw hr HTw.out _ _ ?_ ?_ <;> assumption
  · refine chk_4 Hk.out hw hr HTw.out _ _ ?_ ?_ <;> assumption
  · refine chk_5 Hk.out hw hr HTw.out _ _ ?_ ?_ <;> assumption
  · refine chk_6 Hk.out hw hr HTw.out _ _ ?_ ?_ <;> assumption
  · refine chk_7 Hk.out hw hr HTw.out _ _ ?_ ?_ <;> assumption
  · obtain ⟨q4, hq4⟩ : ∃ q4, what / 16 % 4 = q4 := ⟨_, rfl⟩
    have hq44 : q4 = 0 ∨ q4 = 1 ∨ q4 = 2 ∨ q4 = 3 := by have h5 := hw.1; omega
    rcases hq44 with rfl | rfl | rfl | rfl
    · refine chk_8_0 Hk.out hw hr hq4 HTw.out _ _ ?_ ?_ <;> assumption
    · refine chk_8_1 Hk.out hw hr hq4 HTw.out _ _ ?_ ?_ <;> assumption
    · refine chk_8_2 Hk.out hw hr hq4 HTw.out _ _ ?_ ?_ <;> assumption
    · refine chk_8_3 Hk.out hw hr hq4 HTw.out _ _ ?_ ?_ <;> assumption
  · refine chk_9 Hk.out hw hr HTw.out _ _ ?_ ?_ <;> assumption
  · refine chk_10 Hk.out hw hr HTw.out _ _ ?_ ?_ <;> assumption
  · refine chk_11 Hk.out hw hr HTw.out _ _ ?_ ?_ <;> assumption
  · refine chk_12 Hk.out hw hr HTw.out _ _ ?_ ?_ <;> assumption
  · refine chk_13 Hk.out hw hr HTw.out _ _ ?_ ?_ <;> assumption
  · refine chk_14 Hk.out hw hr HTw.out _ _ ?_ ?_ <;> assumption
  · refine chk_15 Hk.out hw hr HTw.out _ _ ?_ ?_ <;> assumption
end Go.Proofs.YtjgncofhobhjdaaDoor
