/- The law of the chapter on reports, part 24: Wt Xa Xb. -/
import Derived.Test.YtegdigfcgeoboaaK23
set_option maxHeartbeats 16000000
set_option linter.unusedVariables false
set_option linter.unusedSimpArgs false
set_option linter.unusedSectionVars false
namespace Go.Proofs.Ytegdigfcgeoboaa
open Go.RowKit
attribute [local go_sem ↓] Go.wp_at_zero Go.wp_at_succ
theorem stI_depth (w3 w2 : Int) (x : PD) : ∀ i, (stI w3 w2 x i).depth ≤ 5
 | 0 => by show (1 : Nat) ≤ 5; omega
 | i + 1 => by
  have h := stI_depth w3 w2 x i
  unfold stI
  cases x.fields[i]? with
  | none => exact h
  | some f =>
   show d2 f (d1 f (stI w3 w2 x i).depth) ≤ 5
   have h1 : d1 f (stI w3 w2 x i).depth ≤ 5 := by
    unfold d1
    split
    ·rename_i hb
     unfold beginsB at hb
     simp only [Bool.and_eq_true, decide_eq_true_eq] at hb
     omega
    ·exact h
   unfold d2
   split <;> omega
set_option maxRecDepth 1000000 in
theorem ditems_any (x : PD) (A : Option Addr) (cap : Nat) (way : Int) (w : World) (hx : PdIs w x A cap) (hok : ∀ f ∈ x.fields, f.ok) (hway : u8k way) :
  Calls Try.prog 18 #[.agg #[.bool x.numbers, .slice A x.fields.length cap], .int .u8 way] w fun e w' => (∃ A' c', e = .returned (.slice A' (itemsS way x).length c') ∧ Own itT 29 w.heap.size w' (.slice A' (itemsS way x).length c') (itemsS way x).length (itemsS way x)) ∧ Kept w w' := by
 obtain ⟨i29, hi29, hz0, hz1, hz2⟩ := info_parts info29
 obtain ⟨y0, hy0⟩ : ∃ y, itemS 1 0 1 false = y := ⟨_, rfl⟩
 have hit0 := item17n 1 0 1 false (by decide) y0 hy0
 obtain ⟨y1, hy1⟩ : ∃ y, itemS 2 0 6 false = y := ⟨_, rfl⟩
 have hit1 := item17n 2 0 6 false (by decide) y1 hy1
 obtain ⟨y2, hy2⟩ : ∃ y, itemS 0 10 1 false = y := ⟨_, rfl⟩
 have hit2 := item17n 0 10 1 false (by decide) y2 hy2
 obtain ⟨y3, hy3⟩ : ∃ y, itemS 1 0 7 false = y := ⟨_, rfl⟩
 have hit3 := item17n 1 0 7 false (by decide) y3 hy3
 have hyok : ∀ x ∈ [y0, y1, y2, y3], x.ok := by
  intro x hx
  simp only [List.mem_cons, List.not_mem_nil, or_false] at hx
  rcases hx with rfl | rfl | rfl | rfl
  ·rw [← hy0]; exact (itemS_ok (by omega) (by omega)).2
  ·rw [← hy1]; exact (itemS_ok (by omega) (by omega)).2
  ·rw [← hy2]; exact (itemS_ok (by omega) (by omega)).2
  ·rw [← hy3]; exact (itemS_ok (by omega) (by omega)).2
 have Hy0 := hide hy0
 have Hy1 := hide hy1
 have Hy2 := hide hy2
 have Hy3 := hide hy3
 clear hy0 hy1 hy2 hy3
 obtain ⟨n, hn⟩ : ∃ n, x.fields.length = n := ⟨_, rfl⟩
 obtain ⟨nb, hnb⟩ : ∃ b, x.numbers = b := ⟨_, rfl⟩
 rw [hn, hnb]
 have hkc : Kept (w.alloc (.cells #[.bool nb, .slice A n cap] 52)) (w.alloc (.cells #[.bool nb, .slice A n cap] 52)) := Below.refl _ _
 have Hx := hide hx
 have Hok := hide hok
 have Hn := hide hn
 have Hnb := hide hnb
 have Hway := hide hway
 clear hx hok hn hnb hway
 go_enter Try.func18, Try.ntmps18
 go_upto_region 6 with (first
   | (go_at_call 17; have hg0 := hkq2; refine (hit3 _).mono ?_; rintro e w5 ⟨rfl, hkq3⟩; replace hkc := hkc.trans' hkq3; try dsimp only)
   | (go_at_call 17; have hg0 := hkq1; refine (hit2 _).mono ?_; rintro e w5 ⟨rfl, hkq2⟩; replace hkc := hkc.trans' hkq2; try dsimp only)
   | (go_at_call 17; have hg0 := hkq0; refine (hit1 _).mono ?_; rintro e w5 ⟨rfl, hkq1⟩; replace hkc := hkc.trans' hkq1; try dsimp only)
   | (go_at_call 17; refine (hit0 _).mono ?_; rintro e w5 ⟨rfl, hkq0⟩; replace hkc := hkc.trans' hkq0; try dsimp only)
   | (at_builtin; refine wpList_append_sl (T := itT) rfl (.tmp 14) (.tmp 19) 22 rfl w.heap.size 29 i29 _ 24 Try.underlying22 hi29 hz0 hz1 hz2 rfl (by decide) _ 0 [] (by rfl) (Own.nil _ _ _ _) (some ⟨_, 0, none⟩) 4 4 [y0, y1, y2, y3] (by rfl) (by exact sl_it_heap (heap_at _ rfl) rfl hyok ⟨by simp, fun e => by cases e⟩) (by_one29 _ _) (by unfold maxLen; omega) (by omega) (by have h8 := hkc.size; simp at h8 ⊢; omega) ?_; intro v9 w9 hown9 hg9 hb9 hat9))
 have hk0 : Kept w (w.alloc (.cells #[.bool nb, .slice A n cap] 52)) := (Below.refl _ w).alloc (Nat.le_refl _) _
 have hk9 : Kept w w9 := ((hk0.trans' hkc).alloc (hk0.trans' hkc).size _).trans hb9
 have hD0 := heap_kept hkc (show (w.alloc (.cells #[.bool nb, .slice A n cap] 52)).heap[w.heap.size]? = some (.cells #[.bool nb, .slice A n cap] 52 (0, 0)) from heap_at _ rfl)
 have hD9 := heap_grown hg9 (heap_past hD0) (fun e => by cases e)
 refine wp_at (fun V => ∃ LB, V.heap[LB]? = some (.cells #[.int .u8 0, .int .u8 0, .int .i64 0, .slice none 0 0, .int .i64 0, .int .i64 0, .int .i64 0, .int .i64 0, .int .i64 0, .bool false, .bool false, .bool false, .bool false] 59 (0, 0)) ∧ LB = w9.heap.size ∧ Kept w9 V) ⟨_, heap_at _ rfl, rfl, by go_grown⟩ (fun V hV => ?_)
 obtain ⟨LB, hLB, hLBd, hkV⟩ := hV
 rw [← hLBd]
 have hDV := heap_kept hkV hD9
 have hoV := hown9.kept hkV
 have hkwV : Kept w V := hk9.trans' hkV
 have hDL : w.heap.size ≠ LB := by have h5 := hk9.size; have h6 := heap_lt hD9; omega
 have HDV := hide hDV
 have HLB := hide hLB
 have HoV := hide (show Own itT 29 w.heap.size V v9 headI2.length headI2 from by unfold headI2; rw [Hy0.out, Hy1.out, Hy2.out, Hy3.out]; exact hoV)
 have HkV := hide hkwV
 have Hlow := hide (show w.heap.size ≤ LB by have h5 := hk9.size; omega)
 clear hDV hLB hoV hkwV hkV hD9 hD0 hk9 hk0 hown9 hg9 hb9 hat9 hkc hLBd hyok hit0 hit1 hit2 hit3
 have hld : lenD x = min n 20 := by unfold lenD; rw [Hn.out]
 go_wp2_with fail
 go_loopg [5, 6, 8, 9] (min n 20) (fun g' s5 s6 s8 s9 wx => ∃ (i : Nat) (v vl : Value), i + g' = min n 20 ∧ s5 = v ∧ s6 = .int .i64 ((stI (way % 3) (way / 3 % 2) x i).depth : Int) ∧ s8 = .int .i64 (i : Int) ∧ Kept w wx ∧ wx.heap[w.heap.size]? = some (.cells #[.bool nb, .slice A n cap] 52 (0, 0)) ∧ wx.heap[LB]? = some (.cells ((stI (way % 3) (way / 3 % 2) x i).last.cellsAt vl) 59 (0, 0)) ∧ Own itT 29 w.heap.size wx v (stI (way % 3) (way / 3 % 2) x i).out.length (stI (way % 3) (way / 3 % 2) x i).out ∧ (stI (way % 3) (way / 3 % 2) x i).out.length ≤ 4 + 20 * i)
 case atStart => exact ⟨0, v9, .slice none 0 0, by omega, rfl, rfl, rfl, HkV.out, HDV.out, HLB.out, HoV.out, (show headI2.length ≤ 4 + 20 * 0 from by decide)⟩
 case round =>
  obtain ⟨i, v, vl, hgi, hv5, rfl, rfl, hkx, hD, hL, hO, hB⟩ := hrel
  replace hv5 := hv5.symm
  subst hv5
  obtain ⟨st, hst⟩ : ∃ st, stI (way % 3) (way / 3 % 2) x i = st := ⟨_, rfl⟩
  have hd5 := stI_depth (way % 3) (way / 3 % 2) x i
  rw [hst] at hL hO hB hd5 ⊢
  have Hst := hide hst
  have Hgi := hide hgi
  clear hst hgi
  by_cases hlt : i < min n 20
  case pos =>
   obtain ⟨f, hf⟩ : ∃ f, x.fields[i]? = some f := ⟨_, List.getElem?_eq_getElem (by rw [Hn.out]; omega)⟩
   have hfo := Hok.out f (List.mem_of_getElem? hf)
   have hst1 : stI (way % 3) (way / 3 % 2) x (i + 1) = stepI (way % 3) (way / 3 % 2) nb i st f := by
    conv => lhs; unfold stI
    rw [hf, Hst.out, Hnb.out]
   obtain ⟨ba, oa, csa, rfl, hba, hrel2, hca⟩ := Hx.out.sl.2 i f hf
   obtain ⟨rfl, _⟩ : csa = f.cells ∧ f.ok := hrel2
   have h7 : w.cell? ⟨ba, oa + i * 8 + 7, none⟩ = some (.int .u8 f.flags) := hca 7 _ rfl
   have hdf := dfield_any x _ cap i f wr (Hx.out.kept hkx) hf Hok.out
   rw [Hn.out, Hnb.out] at hdf
   have dl0 : wr.cell? ⟨w.heap.size, 0, none⟩ = some (.bool nb) := cell_heap hD (o := 0) rfl
   have dl1 : wr.cell? ⟨w.heap.size, 1, none⟩ = some (.slice (some ⟨ba, oa, none⟩) n cap) := cell_heap hD (o := 1) rfl
   have lD := heap_lt hD
   have lL := heap_lt hL
   have hin : (i : Int) < (n : Int) := by omega
   have hi20 : (i : Int) < 20 := by omega
   have HD := hide hD
   have HL := hide hL
   have HO := hide hO
   have Hkx := hide hkx
   have Hf := hide hf
   have Hst1 := hide hst1
   have Hlt := hide hlt
   have Hfo := hide hfo
   clear hD hL hO hkx hf hst1 hlt hca hfo
   go_upto_region 9 with (first
    | (go_at_call 33; refine hdf.mono ?_; rintro e w5 ⟨⟨U, c, rfl, hown⟩, hkq⟩; replace hkq : Kept wr w5 := hkq; try dsimp only)
    | (refine wpList_store_row rfl 59 (.tmp 9) (.tmp 34) rfl w5.heap.size ((fdS nb f).cellsAt (.slice U (manyF f) c)) (by rfl) (by rfl) 59 _ (heap_at _ rfl) (by kernel_rfl) (by rfl) (by unfold Fd.cellsAt; simp [Value.oneCell']) ?_))
   have hnew : w.heap.size ≤ w5.heap.size := Nat.le_trans Hkx.out.size hkq.size
   refine wp_at (fun V => ∃ FB, V.heap[FB]? = some (.cells ((fdS nb f).cellsAt (.slice U (manyF f) c)) 59 (0, 0)) ∧ FB = w5.heap.size ∧ Kept w5 V) ⟨_, heap_row (heap_at _ rfl), rfl, below_row ((Below.refl _ _).alloc (Nat.le_refl _) _) (Nat.le_refl _) _⟩ (fun V hV => ?_)
   obtain ⟨FB, hFB, hFBd, hkV⟩ := hV
   rw [← hFBd]
   have hLF : LB ≠ FB := by have := heap_lt HL.out; have := hkq.size; omega
   have hkV0 := hkq.trans' hkV
   have hul : (usagesF f).length = manyF f := by unfold usagesF; simp
   obtain ⟨mm, hmm⟩ : ∃ mm, manyF f = mm + 1 := ⟨manyF f - 1, by unfold manyF; omega⟩
   have hm5 : mm ≤ 5 := by unfold manyF at hmm; omega
   have hIS : IS w V w.heap.size LB FB nb (some ⟨ba, oa, none⟩) n cap st.out.length (4 + 20 * i) v vl (.slice U (manyF f) c) st.out st.last (fdS nb f) (usagesF f) :=
    ⟨Hkx.out.trans' hkV0, heap_kept hkV0 HD.out, heap_kept hkV0 HL.out, hFB, ⟨Nat.le_refl _, Hlow.out, by omega, hLF⟩, HO.out.kept hkV0, by rw [hul]; exact (hown.lower Hkx.out.size).kept hkV, rfl, hB⟩
   obtain ⟨f1, f2, f3, f4, f5, f6, f7, f8⟩ := Hfo.out
   have hsz := sizeF_ok Hfo.out
   have hw3 : way.tmod 3 = way % 3 := Int.tmod_eq_emod_of_nonneg Hway.out.1
   have hw2 : (way.tdiv 3).tmod 2 = way / 3 % 2 := by rw [Int.tdiv_eq_ediv_of_nonneg Hway.out.1, Int.tmod_eq_emod_of_nonneg (by have := Hway.out.1; omega)]
   have hus : usesI (way / 3 % 2) f = if way / 3 % 2 = 0 then [itemS 2 1 f.first false, itemS 2 2 (f.first + (mm : Int)) false] else (List.range (mm + 1)).map fun (k : Nat) => itemS 2 0 (f.first + (k : Int)) false := by unfold usesI; rw [hmm]; rfl
   have hur : usagesF f = (List.range (mm + 1)).map fun (q : Nat) => 458752 + f.first + (q : Int) := by unfold usagesF; rw [hmm]
   have he : st.out ++ (i1 f i st.depth ++ (i2 (way % 3) ++ (i3 (way % 3) i st.last (fdS nb f) ++ (i4 (way % 3) i st.last (fdS nb f) ++ (i5 (way % 3) i st.last (fdS nb f) ++ (i6 (way % 3) i st.last (fdS nb f) ++ (i7 nb (way % 3) i st.last (fdS nb f) ++ (usesI (way / 3 % 2) f ++ (i9 f (fdS nb f) ++ i10 f (d1 f st.depth)))))))))) = (stepI (way % 3) (way / 3 % 2) nb i st f).out := by unfold stepI; simp only [List.append_assoc]
   have hdp : d2 f (d1 f st.depth) = (stepI (way % 3) (way / 3 % 2) nb i st f).depth := rfl
   have hla : (stepI (way % 3) (way / 3 % 2) nb i st f).last = fdS nb f := rfl
   obtain ⟨fin, hfin⟩ : ∃ l, (stepI (way % 3) (way / 3 % 2) nb i st f).out = l := ⟨_, rfl⟩
   obtain ⟨dfin, hdfin⟩ : ∃ l, (stepI (way % 3) (way / 3 % 2) nb i st f).depth = l := ⟨_, rfl⟩
   rw [hfin] at he
   rw [hdfin] at hdp
   have hk3 := fd_kind (nb := nb) Hfo.out
   have HIS := hide hIS
   have Hfin := hide hfin
   have Hdfin := hide hdfin
   have Hla := hide hla
   have Hsz := hide hsz
   have Hmm := hide hmm
   clear hIS hfin hdfin hla hFB hFBd hkV hLF hkV0 hul hown hkq hnew hsz hmm hdf
   refine p9 (f := f) (w3 := way % 3) (w2 := way / 3 % 2) (dd := st.depth) (B := 4 + 20 * i) (BF := 4 + 20 * (i + 1)) HIS.out h7 hba hin f8 hk3 f3 hm5 hus hw2 Hway.out he hdp (by omega) (by omega) hd5 (by omega) hur hw3 ?_ ?_ ?_ ?_ ?_ _ _ _ ?_ ?_ ?_
   ·show 0 ≤ (if nb then 1 + f.report % 3 else 0 : Int) ∧ (if nb then 1 + f.report % 3 else 0 : Int) < 4294967296
    split <;> omega
   ·show 0 ≤ 1 + f.count % 6 ∧ 1 + f.count % 6 < 4294967296
    omega
   ·show (0 : Int) ≤ (sizeF f.lo (f.lo + f.more) : Int) ∧ (sizeF f.lo (f.lo + f.more) : Int) < 4294967296
    have := Hsz.out.2; omega
   ·show -32768 ≤ f.lo + f.more ∧ f.lo + f.more < 2147483648
    omega
   ·show -32768 ≤ f.lo ∧ f.lo < 2147483648
    omega
   ·assumption
   ·assumption
   clear HIS hus hur he hdp hk3 hw3 hw2 HD HL HO
   intro tM tP tN tO rX rY rZ sA sB sD sE sF sG sH sI tB tC tD tE tF tG tH tI tJ tK tL sJ sK sL sM sN sO sP sQ sR sS sT oD rL rM rN rO rP rQ rR rS rT rU rV rW sU sV sW sX sY sZ tA qZ rA rB rC rD rE rF rG rH rI rJ rK jI lP lS lT lU lO lV lW kX kY kZ lA lB lC lE lG lH lI lJ lK lN lX lY mO mP mQ mR mS mA mB mD mE mF mG mH mI mJ mK mL mM mN mT oE oF oG oH oI oJ mU mV mW mX mY mZ nA nB nC nD nE nF nG nH nI nJ nK oK oL oM oN oO oP oQ oR oS oT oU oV oW oX oY oZ pA pB pC pD pE pF pG pH pI pJ pK pL pM pN pO pP pQ pR pS pT pU pV pW pX pY pZ qA qB qC qD nL nM nN nO nP nQ nR qE qF qG qH qI qJ qK qL qM qN qO qP qQ nS nT nU nV nW nX nY nZ oA oB oC qR qS qT qU qV qW qX qY v' m' w' hIS
   have hm' := hIS.len
   have hb' := hIS.bnd
   have HIS := hide hIS
   clear hIS
   have hwi : IntKind.i64.wrap ((i : Int) + 1) = ((i + 1 : Nat) : Int) := by rw [IntKind.wrap_i64]; omega
   go_wp2_with fail
   go_roundg (gk - 1)
   case measure => have := Hgi.out; omega
   case rel =>
    refine ⟨i + 1, v', .slice U (manyF f) c, by have := Hgi.out; omega, rfl, ?_, by first | rfl | go_num | (rw [hwi]), HIS.out.kept, HIS.out.dbox, ?_, ?_, ?_⟩
    ·rw [Hst1.out, Hdfin.out]
    ·rw [Hst1.out, Hla.out]; exact HIS.out.lbox
    ·rw [Hst1.out, Hfin.out]; exact HIS.out.own
    ·rw [Hst1.out, Hfin.out]; omega
  case neg =>
   have hO20 : i = min n 20 := by have := Hgi.out; omega
   have HO := hide hO
   have Hkx := hide hkx
   have Hi20 := hide hO20
   have dl1 : wr.cell? ⟨w.heap.size, 1, none⟩ = some (.slice A n cap) := cell_heap hD (o := 1) rfl
   have lD := heap_lt hD
   clear hD hL hO hkx
   by_cases hin : (i : Int) < (n : Int)
   case pos =>
    have hi20 : ¬ (i : Int) < 20 := by have := Hi20.out; omega
    go_wp2_with fail
    obtain ⟨wo, rfl⟩ : ∃ wo : World, wo = wr := ⟨_, rfl⟩
    go_loopg [5, 6] st.depth (fun g' s5 s6 wr => ∃ (k : Nat) (vv : Value), k + g' = st.depth ∧ s5 = vv ∧ s6 = .int .i64 ((st.depth - k : Nat) : Int) ∧ Kept w wr ∧ Own itT 29 w.heap.size wr vv (st.out ++ List.replicate k endI).length (st.out ++ List.replicate k endI))
    case atStart => exact ⟨0, v, by omega, rfl, rfl, Hkx.out, by simpa using HO.out⟩
    case round =>
     clear HO
     obtain ⟨k, vv, hk, hv5, rfl, hkz, hoz⟩ := hrel
     replace hv5 := hv5.symm
     subst hv5
     have Hkz := hide hkz
     obtain ⟨ol, hol⟩ : ∃ l, st.out ++ List.replicate k endI = l := ⟨_, rfl⟩
     have hll : ol.length = st.out.length + k := by rw [← hol]; simp
     rw [hol] at hoz
     have Hol := hide hol
     have Hk := hide hk
     have Hoz := hide hoz
     clear hol hk hoz
     obtain ⟨m, hm⟩ : ∃ m, ol.length = m := ⟨_, rfl⟩
     rw [hm] at Hoz hll
     have hmb : m ≤ 900 := by have := Hi20.out; have := Hgi.out; have := Hk.out; omega
     have Hll := hide hll
     clear hll
     have Hm := hide hm
     clear hm
     obtain ⟨q, hq⟩ : ∃ q : Nat, st.depth - k = q := ⟨_, rfl⟩
     rw [hq]
     have Hq := hide hq
     clear hq
     by_cases hlt : k < st.depth
     case pos =>
      have hq0 : (0 : Int) < (q : Int) := by have := Hq.out; omega
      have hwq : IntKind.i64.wrap ((q : Int) - 1) = ((st.depth - (k + 1) : Nat) : Int) := by rw [IntKind.wrap_i64]; have := Hq.out; omega
      obtain ⟨y0, hy0⟩ : ∃ y, itemS 0 12 0 false = y := ⟨_, rfl⟩
      have hit0 := item17n 0 12 0 false (by decide) y0 hy0
      have hyok : ∀ x ∈ [y0], x.ok := by
       intro x hx
       have : x = y0 := by simpa using hx
       rw [this, ← hy0]
       exact (itemS_ok (by omega) (by omega)).2
      have Hy0 := hide hy0
      have hkc : Kept wr wr := Below.refl _ _
      have hszz := hkz.size
      clear hy0
      go_upto_region 38 with (first
       | (go_at_call 17; refine (hit0 _).mono ?_; rintro e w5 ⟨rfl, hkq0⟩; replace hkc := hkc.trans' hkq0; try dsimp only)
       | (at_builtin; refine wpList_append_sl (T := itT) rfl (.tmp 254) (.tmp 256) 22 rfl w.heap.size 29 i29 _ 24 Try.underlying22 hi29 hz0 hz1 hz2 rfl (by decide) _ m ol (by rfl) ((Hoz.out.kept hkc).alloc _) (some ⟨_, 0, none⟩) 1 1 [y0] (by rfl) (by exact sl_it_heap (heap_at _ rfl) rfl hyok ⟨by simp, fun e => by have h9 := ((Hoz.out.kept hkc).lt e).2; omega⟩) (by_one29 _ _) (by unfold maxLen; omega) (by omega) (by have h8 := hkc.size; simp; omega) ?_; intro v9 w9 hown9 hg9 hb9 hat9))
      have e2 : ol ++ [y0] = st.out ++ List.replicate (k + 1) endI := by rw [← Hol.out, List.append_assoc, ← Hy0.out, List.replicate_succ']; rfl
      rw [e2] at hown9
      have hkz9 : Kept w w9 := ((hkz.trans' hkc).alloc (Nat.le_trans hkz.size hkc.size) _).trans hb9
      have hown9' := hown9
      have Hown := hide (show Own itT 29 w.heap.size w9 v9 (st.out ++ List.replicate (k + 1) endI).length (st.out ++ List.replicate (k + 1) endI) from by rw [List.length_append, List.length_replicate]; rw [show st.out.length + (k + 1) = m + 1 by have := Hll.out; omega]; exact hown9')
      have Hkz9 := hide hkz9
      clear hown9 hown9' hg9 hb9 hat9 hit0 hyok hkc e2 hkz9 hkz Hoz
      go_wp2_with fail
      go_roundg (gk - 1)
      case measure => have := Hk.out; omega
      case rel => exact ⟨k + 1, v9, by have := Hk.out; omega, rfl, by first | rfl | go_num | (rw [hwq]), Hkz9.out, Hown.out⟩
     case neg =>
      have hq0 : ¬ (0 : Int) < (q : Int) := by have := Hq.out; omega
      have hkk : k = st.depth := by have := Hk.out; omega
      have hfin : itemsS way x = ol := by rw [← Hol.out, hkk]; unfold itemsS; rw [hld, ← Hi20.out, Hst.out]
      obtain ⟨Az, cz, rfl, hz1', hz2'⟩ := Hoz.out.isSlice
      have Hfin := hide hfin
      clear hfin hkk hkz
      have hkz0 := Hkz.out
      have Hkz0 := hide hkz0
      clear hkz0
      go_wp2_with fail
      go_ret
      refine ⟨⟨Az, cz, ?_, by rw [Hfin.out, Hm.out]; exact Hoz.out⟩, Hkz0.out⟩
      rw [Hfin.out, Hm.out]
      rfl
   case neg =>
    go_wp2_with fail
    obtain ⟨wo, rfl⟩ : ∃ wo : World, wo = wr := ⟨_, rfl⟩
    go_loopg [5, 6] st.depth (fun g' s5 s6 wr => ∃ (k : Nat) (vv : Value), k + g' = st.depth ∧ s5 = vv ∧ s6 = .int .i64 ((st.depth - k : Nat) : Int) ∧ Kept w wr ∧ Own itT 29 w.heap.size wr vv (st.out ++ List.replicate k endI).length (st.out ++ List.replicate k endI))
    case atStart => exact ⟨0, v, by omega, rfl, rfl, Hkx.out, by simpa using HO.out⟩
    case round =>
     clear HO
     obtain ⟨k, vv, hk, hv5, rfl, hkz, hoz⟩ := hrel
     replace hv5 := hv5.symm
     subst hv5
     have Hkz := hide hkz
     obtain ⟨ol, hol⟩ : ∃ l, st.out ++ List.replicate k endI = l := ⟨_, rfl⟩
     have hll : ol.length = st.out.length + k := by rw [← hol]; simp
     rw [hol] at hoz
     have Hol := hide hol
     have Hk := hide hk
     have Hoz := hide hoz
     clear hol hk hoz
     obtain ⟨m, hm⟩ : ∃ m, ol.length = m := ⟨_, rfl⟩
     rw [hm] at Hoz hll
     have hmb : m ≤ 900 := by have := Hi20.out; have := Hgi.out; have := Hk.out; omega
     have Hll := hide hll
     clear hll
     have Hm := hide hm
     clear hm
     obtain ⟨q, hq⟩ : ∃ q : Nat, st.depth - k = q := ⟨_, rfl⟩
     rw [hq]
     have Hq := hide hq
     clear hq
     by_cases hlt : k < st.depth
     case pos =>
      have hq0 : (0 : Int) < (q : Int) := by have := Hq.out; omega
      have hwq : IntKind.i64.wrap ((q : Int) - 1) = ((st.depth - (k + 1) : Nat) : Int) := by rw [IntKind.wrap_i64]; have := Hq.out; omega
      obtain ⟨y0, hy0⟩ : ∃ y, itemS 0 12 0 false = y := ⟨_, rfl⟩
      have hit0 := item17n 0 12 0 false (by decide) y0 hy0
      have hyok : ∀ x ∈ [y0], x.ok := by
       intro x hx
       have : x = y0 := by simpa using hx
       rw [this, ← hy0]
       exact (itemS_ok (by omega) (by omega)).2
      have Hy0 := hide hy0
      have hkc : Kept wr wr := Below.refl _ _
      have hszz := hkz.size
      clear hy0
      go_upto_region 38 with (first
       | (go_at_call 17; refine (hit0 _).mono ?_; rintro e w5 ⟨rfl, hkq0⟩; replace hkc := hkc.trans' hkq0; try dsimp only)
       | (at_builtin; refine wpList_append_sl (T := itT) rfl (.tmp 254) (.tmp 256) 22 rfl w.heap.size 29 i29 _ 24 Try.underlying22 hi29 hz0 hz1 hz2 rfl (by decide) _ m ol (by rfl) ((Hoz.out.kept hkc).alloc _) (some ⟨_, 0, none⟩) 1 1 [y0] (by rfl) (by exact sl_it_heap (heap_at _ rfl) rfl hyok ⟨by simp, fun e => by have h9 := ((Hoz.out.kept hkc).lt e).2; omega⟩) (by_one29 _ _) (by unfold maxLen; omega) (by omega) (by have h8 := hkc.size; simp; omega) ?_; intro v9 w9 hown9 hg9 hb9 hat9))
      have e2 : ol ++ [y0] = st.out ++ List.replicate (k + 1) endI := by rw [← Hol.out, List.append_assoc, ← Hy0.out, List.replicate_succ']; rfl
      rw [e2] at hown9
      have hkz9 : Kept w w9 := ((hkz.trans' hkc).alloc (Nat.le_trans hkz.size hkc.size) _).trans hb9
      have hown9' := hown9
      have Hown := hide (show Own itT 29 w.heap.size w9 v9 (st.out ++ List.replicate (k + 1) endI).length (st.out ++ List.replicate (k + 1) endI) from by rw [List.length_append, List.length_replicate]; rw [show st.out.length + (k + 1) = m + 1 by have := Hll.out; omega]; exact hown9')
      have Hkz9 := hide hkz9
      clear hown9 hown9' hg9 hb9 hat9 hit0 hyok hkc e2 hkz9 hkz Hoz
      go_wp2_with fail
      go_roundg (gk - 1)
      case measure => have := Hk.out; omega
      case rel => exact ⟨k + 1, v9, by have := Hk.out; omega, rfl, by first | rfl | go_num | (rw [hwq]), Hkz9.out, Hown.out⟩
     case neg =>
      have hq0 : ¬ (0 : Int) < (q : Int) := by have := Hq.out; omega
      have hkk : k = st.depth := by have := Hk.out; omega
      have hfin : itemsS way x = ol := by rw [← Hol.out, hkk]; unfold itemsS; rw [hld, ← Hi20.out, Hst.out]
      obtain ⟨Az, cz, rfl, hz1', hz2'⟩ := Hoz.out.isSlice
      have Hfin := hide hfin
      clear hfin hkk hkz
      have hkz0 := Hkz.out
      have Hkz0 := hide hkz0
      clear hkz0
      go_wp2_with fail
      go_ret
      refine ⟨⟨Az, cz, ?_, by rw [Hfin.out, Hm.out]; exact Hoz.out⟩, Hkz0.out⟩
      rw [Hfin.out, Hm.out]
      rfl
end Go.Proofs.Ytegdigfcgeoboaa
namespace Go.Proofs.Ytegdigfcgeoboaa
open Go.RowKit Go.Maps
def i64D : Ty Int := Ty.flat 1 (fun n => [.int .i64 n]) (fun _ => True) (fun _ => rfl)
theorem flat_i64D : Flat i64D := fun {_ _ _ _ _ _} h => h
def zeroD : Obj := .cells #[.slice none 0 0, .slice none 0 0, .bool false] 40 (0, 0)
theorem Own.sl_at {α : Type} {t : Ty α} {e : TypeId} {w : World} {base n m c : Nat} {A : Option Addr} {xs : List α} (h : Own t e base w (.slice A m c) n xs) (F : Nat → Prop) (hF : ∀ g, (Value.slice A m c).ownBlock = some g → F g)
  (hrel : ∀ x cs, t.rel w (apart w (.slice A m c)) x cs → t.rel w F x cs) : Sl t w F A n xs := by
 obtain ⟨h1, cells, h2, h3⟩ := h
 refine ⟨h1, fun i x hx => ?_⟩
 have hi : i < n := by rw [← h1]; exact (List.getElem?_eq_some_iff.1 hx).1
 rcases h2.2 with ⟨_, h0⟩ | ⟨g, cap, cur, hv, hg, hh, _, _, _, htk⟩
 ·omega
 ·injection hv with hA _ _
  have hr := h3 i x hx
  refine ⟨g, 0, _, hA, hF g (by rw [hA]; rfl), hrel _ _ hr, fun j u hu => ?_⟩
  have hj : j < t.size := by rw [← t.len hr]; exact (List.getElem?_eq_some_iff.1 hu).1
  rw [List.getElem?_take_of_lt hj, List.getElem?_drop] at hu
  rw [← h2.cells (g := g) (by rw [hA]; rfl) _ _ hu, Addr.add_mid]; simp
def BusyD (RB MB FB : Nat) (vo vf vc : Value) : Nat → Prop := fun b => b ≠ RB ∧ b ≠ MB ∧ b ≠ FB ∧ vo.ownBlock ≠ some b ∧ vf.ownBlock ≠ some b ∧ vc.ownBlock ≠ some b
structure MD (w W : World) (DB RB MB FB : Nat) (nb nm : Bool) (A : Option Addr) (n cap : Nat) (vo vf vc : Value) (ol : List Int) (fl : List Fd) (cl : List Co) : Prop where
 kept : Kept w W
 bd : W.heap[DB]? = some (.cells #[.bool nb, .slice A n cap] 52 (0, 0))
 br : W.heap[RB]? = some zeroD
 bm : W.heap[MB]? = some (.cells #[vf, vc, .bool nm] 40 (0, 0))
 op : Own i64D 3 w.heap.size W vo ol.length ol
 fs : Own (fdM.on (BusyD RB MB FB vo vf vc)) 59 w.heap.size W vf fl.length fl
 cs : Own coT 68 w.heap.size W vc cl.length cl
 low : w.heap.size ≤ DB ∧ w.heap.size ≤ RB ∧ w.heap.size ≤ MB ∧ DB ≠ MB ∧ RB ≠ MB
 nf : vf.ownBlock ≠ some FB
structure FX (w W : World) (FB : Nat) (U : Option Addr) (c : Nat) (g : Fd) : Prop where
 box : W.heap[FB]? = some (.cells (g.cellsAt (.slice U g.usages.length c)) 59 (0, 0))
 us : Own u32T 27 w.heap.size W (.slice U g.usages.length c) g.usages.length g.usages
 lo : w.heap.size ≤ FB
section
variable {w W W' : World} {DB RB MB n cap FB c : Nat} {nb nm : Bool} {A U : Option Addr} {vo vf vc v' : Value} {ol : List Int} {fl : List Fd} {cl : List Co} {g : Fd}
theorem own_ne_or {α : Type} {t : Ty α} {e e' : TypeId} {w : World} {base n BB : Nat} {v : Value} {xs : List α} {cs : Array Value} {fr : Nat × Nat} (h : Own t e base w v n xs) (hB : w.heap[BB]? = some (.cells cs e' fr)) (hne : e ≠ e') : v.ownBlock = none ∨ v.ownBlock ≠ some BB := .inr (own_type_ne h hB hne)
theorem MD.keep (h : MD w W DB RB MB FB nb nm A n cap vo vf vc ol fl cl) (hk : Kept W W') : MD w W' DB RB MB FB nb nm A n cap vo vf vc ol fl cl :=
 ⟨h.kept.trans' hk, heap_kept hk h.bd, heap_kept hk h.br, heap_kept hk h.bm, h.op.kept hk, h.fs.kept hk, h.cs.kept hk, h.low, h.nf⟩
theorem FX.keep (h : FX w W FB U c g) (hk : Kept W W') : FX w W' FB U c g := ⟨heap_kept hk h.box, h.us.kept hk, h.lo⟩
theorem FX.grown (h : FX w W FB U c g) {α : Type} {t : Ty α} {e : TypeId} {base m : Nat} {v : Value} {xs : List α} (ho : Own t e base W v m xs) (h1 : e ≠ 59) (h2 : e ≠ 27) (hg : W.grownBy W' v.ownBlock) : FX w W' FB U c g :=
 ⟨heap_grown hg h.box (fun e => own_type_ne ho h.box h1 e.symm), h.us.grownF flat_u32 hg (rows_apart h.us ho (Ne.symm h2)), h.lo⟩
theorem FX.other (h : FX w W FB U c g) {BB : Nat} {cs : Array Value} {e : TypeId} {fr : Nat × Nat} (hB : W.heap[BB]? = some (.cells cs e fr)) (h1 : e ≠ 59) (h2 : e ≠ 27) (i : Nat) (u : Value) : FX w (W.setCell ⟨BB, i, none⟩ u) FB U c g := by
 have hg : W.grownBy (W.setCell ⟨BB, i, none⟩ u) (some BB) := grown_at grown_self i u
 refine ⟨heap_grown hg h.box (fun e2 => ?_), h.us.grownF flat_u32 hg (own_ne_or h.us hB (Ne.symm h2)), h.lo⟩
 injection e2 with e2
 subst e2
 have h3 := h.box
 rw [hB] at h3
 injection h3 with h3
 injection h3 with _ h4 _
 exact h1 h4
theorem FX.set (h : FX w W FB U c g) (i : Nat) (u : Value) {g' : Fd} (hu : g'.usages = g.usages) (hc : (g.cellsAt (.slice U g.usages.length c)).setIfInBounds i u = g'.cellsAt (.slice U g.usages.length c)) : FX w (W.setCell ⟨FB, i, none⟩ u) FB U c g' := by
 have hg : W.grownBy (W.setCell ⟨FB, i, none⟩ u) (some FB) := grown_at grown_self i u
 refine ⟨by rw [hu, ← hc]; exact heap_store h.box u, by rw [hu]; exact h.us.grownF flat_u32 hg (own_ne_or h.us h.box (by decide)), h.lo⟩
theorem MD.fresh (h : MD w W DB RB MB FB nb nm A n cap vo vf vc ol fl cl) {FB' : Nat} (hF : W.heap.size ≤ FB') : MD w W DB RB MB FB' nb nm A n cap vo vf vc ol fl cl :=
 ⟨h.kept, h.bd, h.br, h.bm, h.op, h.fs.widen (fun b hb ⟨b9, b1, _, b2, b3, b4⟩ => ⟨b9, b1, by omega, b2, b3, b4⟩), h.cs, h.low, fun e => by have := (h.fs.lt e).2; omega⟩
theorem MD.box (h : MD w W DB RB MB FB nb nm A n cap vo vf vc ol fl cl) (hF : FX w W FB U c g) (i : Nat) (u : Value) : MD w (W.setCell ⟨FB, i, none⟩ u) DB RB MB FB nb nm A n cap vo vf vc ol fl cl := by
 have hg : W.grownBy (W.setCell ⟨FB, i, none⟩ u) (some FB) := grown_at grown_self i u
 have hne : ∀ {B : Nat} {cs : Array Value} {e : TypeId} {fr : Nat × Nat}, W.heap[B]? = some (.cells cs e fr) → e ≠ 59 → some B ≠ some FB := fun hB he e2 => by
  injection e2 with e2
  subst e2
  rw [hF.box] at hB
  injection hB with hB
  injection hB with _ h4 _
  exact he h4.symm
 exact ⟨h.kept.trans ((Below.refl _ _).setCell (p := ⟨FB, i, none⟩) hF.lo _), heap_grown hg h.bd (hne h.bd (by decide)), heap_grown hg h.br (hne h.br (by decide)), heap_grown hg h.bm (hne h.bm (by decide)), h.op.grownF flat_i64D hg (own_ne_or h.op hF.box (by decide)), h.fs.grownX hg (fun b e hx => hx.2.2.1 (by injection e)) (.inr h.nf), h.cs.grownF flat_co hg (own_ne_or h.cs hF.box (by decide)), h.low, h.nf⟩
theorem MD.opTo (h : MD w W DB RB MB FB nb nm A n cap vo vf vc ol fl cl) {l : List Int} (hg : W.grownBy W' vo.ownBlock) (hb : Below w.heap.size W W') (ho : Own i64D 3 w.heap.size W' v' l.length l) (hat : v'.ownBlock = none ∨ v'.ownBlock = vo.ownBlock ∨ v'.ownBlock = some W.heap.size) : MD w W' DB RB MB FB nb nm A n cap v' vf vc l fl cl := by
 have hX : ∀ b, b < W.heap.size → BusyD RB MB FB vo vf vc b → BusyD RB MB FB v' vf vc b := fun b hb ⟨b9, b1, b0, b2, b3, b4⟩ => ⟨b9, b1, b0, own_new hat hb b2, b3, b4⟩
 exact ⟨h.kept.trans hb, heap_grown hg h.bd (fun e => own_type_ne h.op h.bd (by decide) e.symm), heap_grown hg h.br (fun e => own_type_ne h.op h.br (by decide) e.symm), heap_grown hg h.bm (fun e => own_type_ne h.op h.bm (by decide) e.symm), ho, h.fs.step hg (fun b e hx => hx.2.2.2.1 e.symm) (rows_apart h.fs h.op (by decide)) hX, h.cs.grownF flat_co hg (rows_apart h.cs h.op (by decide)), h.low, h.nf⟩
theorem MD.cell (h : MD w W DB RB MB FB nb nm A n cap vo vf vc ol fl cl) (i : Nat) (u : Value) {vf' vc' : Value} {nm' : Bool} (hc : (#[vf, vc, .bool nm] : Array Value).setIfInBounds i u = #[vf', vc', .bool nm'])
  (hf : Own (fdM.on (BusyD RB MB FB vo vf' vc')) 59 w.heap.size W vf' fl.length fl) (hcs : Own coT 68 w.heap.size W vc' cl.length cl) (hnf : vf'.ownBlock ≠ some FB) : MD w (W.setCell ⟨MB, i, none⟩ u) DB RB MB FB nb nm' A n cap vo vf' vc' ol fl cl := by
 have hg : W.grownBy (W.setCell ⟨MB, i, none⟩ u) (some MB) := grown_at grown_self i u
 obtain ⟨l1, l2, l3, l4, l5⟩ := h.low
 exact ⟨h.kept.trans ((Below.refl _ _).setCell (p := ⟨MB, i, none⟩) l3 _), heap_grown hg h.bd (fun e => l4 (by injection e)), heap_grown hg h.br (fun e => l5 (by injection e)), by rw [← hc]; exact heap_store h.bm u, h.op.grownF flat_i64D hg (own_ne_or h.op h.bm (by decide)), hf.grownX hg (fun b e hx => hx.2.1 (by injection e)) (own_ne_or hf h.bm (by decide)), hcs.grownF flat_co hg (own_ne_or hcs h.bm (by decide)), h.low, hnf⟩
theorem MD.csTo (h : MD w W DB RB MB FB nb nm A n cap vo vf vc ol fl cl) {l : List Co} (hg : W.grownBy W' vc.ownBlock) (hb : Below w.heap.size W W') (ho : Own coT 68 w.heap.size W' v' l.length l) (hat : v'.ownBlock = none ∨ v'.ownBlock = vc.ownBlock ∨ v'.ownBlock = some W.heap.size) : MD w (W'.setCell ⟨MB, 1, none⟩ v') DB RB MB FB nb nm A n cap vo vf v' ol fl l := by
 have hX : ∀ b, b < W.heap.size → BusyD RB MB FB vo vf vc b → BusyD RB MB FB vo vf v' b := fun b hb ⟨b9, b1, b0, b2, b3, b4⟩ => ⟨b9, b1, b0, b2, b3, own_new hat hb b4⟩
 obtain ⟨l1, l2, l3, l4, l5⟩ := h.low
 have hg2 : W'.grownBy (W'.setCell ⟨MB, 1, none⟩ v') (some MB) := grown_at grown_self 1 v'
 have hbm : W'.heap[MB]? = some (.cells #[vf, vc, .bool nm] 40 (0, 0)) := heap_grown hg h.bm (fun e => own_type_ne h.cs h.bm (by decide) e.symm)
 have hop := h.op.grownF flat_i64D hg (rows_apart h.op h.cs (by decide))
 have hfs := h.fs.step hg (X' := BusyD RB MB FB vo vf v') (fun b e hx => hx.2.2.2.2.2 e.symm) (rows_apart h.fs h.cs (by decide)) hX
 exact ⟨(h.kept.trans hb).trans ((Below.refl _ _).setCell (p := ⟨MB, 1, none⟩) l3 _), heap_grown hg2 (heap_grown hg h.bd (fun e => own_type_ne h.cs h.bd (by decide) e.symm)) (fun e => l4 (by injection e)), heap_grown hg2 (heap_grown hg h.br (fun e => own_type_ne h.cs h.br (by decide) e.symm)) (fun e => l5 (by injection e)), heap_store hbm v', hop.grownF flat_i64D hg2 (own_ne_or hop hbm (by decide)), hfs.grownX hg2 (fun b e hx => hx.2.1 (by injection e)) (own_ne_or hfs hbm (by decide)), ho.grownF flat_co hg2 (own_ne_or ho hbm (by decide)), h.low, h.nf⟩
theorem MD.fsTo (h : MD w W DB RB MB FB nb nm A n cap vo vf vc ol fl cl) {l : List Fd} (hg : W.grownBy W' vf.ownBlock) (hb : Below w.heap.size W W') (ho : Own (fdM.on (fun b => BusyD RB MB FB vo vf vc b ∧ b < W.heap.size)) 59 w.heap.size W' v' l.length l) (hat : v'.ownBlock = none ∨ v'.ownBlock = vf.ownBlock ∨ v'.ownBlock = some W.heap.size) (hFl : FB < W.heap.size) : MD w (W'.setCell ⟨MB, 0, none⟩ v') DB RB MB FB nb nm A n cap vo v' vc ol l cl := by
 have hX : ∀ b, BusyD RB MB FB vo vf vc b ∧ b < W.heap.size → BusyD RB MB FB vo v' vc b := fun b ⟨⟨b9, b1, b0, b2, b3, b4⟩, hb⟩ => ⟨b9, b1, b0, b2, own_new hat hb b3, b4⟩
 obtain ⟨l1, l2, l3, l4, l5⟩ := h.low
 have hg2 : W'.grownBy (W'.setCell ⟨MB, 0, none⟩ v') (some MB) := grown_at grown_self 0 v'
 have hbm : W'.heap[MB]? = some (.cells #[vf, vc, .bool nm] 40 (0, 0)) := heap_grown hg h.bm (fun e => own_type_ne h.fs h.bm (by decide) e.symm)
 have hop := h.op.grownF flat_i64D hg (rows_apart h.op h.fs (by decide))
 have hcs := h.cs.grownF flat_co hg (rows_apart h.cs h.fs (by decide))
 have hfs := ho.widen (X' := BusyD RB MB FB vo v' vc) (fun b _ h => hX b h)
 exact ⟨(h.kept.trans hb).trans ((Below.refl _ _).setCell (p := ⟨MB, 0, none⟩) l3 _), heap_grown hg2 (heap_grown hg h.bd (fun e => own_type_ne h.fs h.bd (by decide) e.symm)) (fun e => l4 (by injection e)), heap_grown hg2 (heap_grown hg h.br (fun e => own_type_ne h.fs h.br (by decide) e.symm)) (fun e => l5 (by injection e)), heap_store hbm v', hop.grownF flat_i64D hg2 (own_ne_or hop hbm (by decide)), hfs.grownX hg2 (fun b e hx => hx.2.1 (by injection e)) (own_ne_or hfs hbm (by decide)), hcs.grownF flat_co hg2 (own_ne_or hcs hbm (by decide)), h.low, own_new hat hFl h.nf⟩
theorem fx_rel (h : MD w W DB RB MB FB nb nm A n cap vo vf vc ol fl cl) (hF : FX w W FB U c g) : (fdM.on (fun b => BusyD RB MB FB vo vf vc b ∧ b < W.heap.size)).rel W (apart W vf) g (g.cellsAt (.slice U g.usages.length c)).toList := by
 obtain ⟨A', c', e, hc1, hc2⟩ := hF.us.isSlice
 injection e with e1 e2 e3
 subst e1 e3
 refine ⟨U, c, rfl, hc1, hc2, hF.us.sl_at _ (fun b hb => ?_) (fun _ _ hr => hr)⟩
 obtain ⟨_, cur, _, hh⟩ := ownBlock_heap34 hF.us hb
 have hlt := heap_lt hh
 have hne : ∀ {B : Nat} {cs : Array Value} {e : TypeId} {fr : Nat × Nat}, W.heap[B]? = some (.cells cs e fr) → e ≠ 27 → b ≠ B := fun hB he e2 => by
  subst e2
  rw [hh] at hB
  injection hB with hB
  injection hB with _ h4 _
  exact he h4.symm
 exact ⟨⟨hlt, own_type_ne h.fs hh (by decide)⟩, ⟨hne h.br (by decide), hne h.bm (by decide), hne hF.box (by decide), own_type_ne h.op hh (by decide), own_type_ne h.fs hh (by decide), own_type_ne h.cs hh (by decide)⟩, hlt⟩
end
end Go.Proofs.Ytegdigfcgeoboaa
namespace Go.Proofs.Ytegdigfcgeoboaa
open Go.RowKit Go.Maps
attribute [local go_sem ↓] Go.wp_at_zero Go.wp_at_succ
variable {u0 u7 u8 u9 gI kI gJ jY eG eH u16 eE eF dX dY dZ eA eB eC eD eI eJ eK eL eM eN u32 eO eP iN iO iP iQ iR fK iS iT iU iV iW iX gK gL gM gN gO gP gQ gR gS gT iY iZ jA jB jC jD jE u64 jF jG jH jJ jK jL jM jN jO jP jQ jR jZ kE kF kG kH jS jT jU jV jW jX kJ kK kM kN kO kP kQ kR kS kT kU kV aK aG aA aB aC aD aE aF aH aI aJ aL bC bD bE bF bG bH bI bJ bK bL aR aM aN aO aP aQ aS aT aU aV aW aX aY aZ bA bM bN bP bQ bS bR : Value}
theorem MD.pop {w W : World} {DB RB MB FB n cap g k m co : Nat} {nb nm : Bool} {A : Option Addr} {vf vc : Value} {ol : List Int} {fl : List Fd} {cl : List Co} (h : MD w W DB RB MB FB nb nm A n cap (.slice (some ⟨g, 0, none⟩) m co) vf vc ol fl cl) (hm : ol.length = m) (hk : k ≤ m) : MD w W DB RB MB FB nb nm A n cap (.slice (some ⟨g, 0, none⟩) k co) vf vc (ol.take k) fl cl := by
 have hop := h.op
 rw [hm] at hop
 have h2 := hop.take hk
 exact ⟨h.kept, h.bd, h.br, h.bm, by rw [List.length_take, hm, Nat.min_eq_left hk]; exact h2, h.fs.widen (fun b _ hx => hx), h.cs, h.low, h.nf⟩
noncomputable def code18d : Code := (Try.f19.body.bind (findQ 18)).getD .skip
set_option maxRecDepth 1000000 in
theorem q18 {w W : World} {DB RB MB FB ba oa n cap i : Nat} {nb nm : Bool} {vo vf vc : Value} {ol olf : List Int} {fl flf : List Fd} {cl clf : List Co} {f : PF} {dd : Nat} (hM : MD w W DB RB MB FB nb nb (some ⟨ba, oa, none⟩) n cap vo vf vc ol flf clf) (h7 : w.cell? ⟨ba, oa + i * 8 + 7, none⟩ = some (.int .u8 f.flags)) (hba : ba < w.heap.size) (hin : (i : Int) < (n : Int)) (hfl : u8k f.flags) (hdd : ol.length = dd) (hd5 : dd ≤ 6) (he : (if endsB f dd then ol.take (dd - 1) else ol) = olf)
  (Q : Exit → Act → World → Prop) (K : Act → World → Prop) (hK : ∀ a w', Code.wp Try.prog (restC code18d) Q a w' → K a w') (hQ : ∀ (s7 tS tR tT tU tV tW s32 tX tY rX rY rZ sA sB sD sE sF sG sH sI tB tC tD tE tF tG tH tI tJ tK tL sJ sK sL sM sN sO sP sQ sR sS sT oD rL rM rN rO rP rQ rR rS rT rU rV rW sU sV sW sX sY sZ tA qZ rA rB rC rD rE rF rG rH rI rJ rK jI lP lS lT lU lO lV lW kX kY kZ lA lB lC lE lG lH lI lJ lK lN lX lY mO mP mQ mR mS mA mB mD mE mF mG mH mI mJ mK mL mM mN mT : Value) (v' vf' vc' : Value) (w' : World), MD w w' DB RB MB FB nb nb (some ⟨ba, oa, none⟩) n cap v' vf' vc' olf flf clf → Q .normal ⟨#[u0, .pointer (some ⟨DB, 0, none⟩), .pointer (some ⟨RB, 0, none⟩), .pointer (some ⟨MB, 0, none⟩), v', .int .i64 (i : Int), .pointer (some ⟨FB, 0, none⟩), s7, u8, u9, gI, kI, gJ, jY, eG, eH, u16, eE, eF, dX, dY, dZ, eA, eB, eC, eD, tS, tR, tT, tU, tV, tW, s32, tX, tY, rX, rY, rZ, sA, sB, sD, sE, sF, sG, sH, sI, tB, tC, tD, tE, tF, tG, tH, tI, tJ, tK, tL, sJ, sK, sL, sM, sN, sO, sP, sQ, sR, sS, sT, oD, rL, rM, rN, rO, rP, rQ, rR, rS, rT, rU, rV, rW, sU, sV, sW, sX, sY, sZ, tA, qZ, rA, rB, rC, rD, rE, rF, rG, rH, rI, rJ, rK, jI, lP, lS, lT, lU, lO, lV, lW, kX, kY, kZ, lA, lB, lC, lE, lG, lH, lI, lJ, lK, lN, lX, lY, mO, mP, mQ, mR, mS, mA, mB, mD, mE, mF, mG, mH, mI, mJ, mK, mL, mM, mN, mT, bR], []⟩ w') :
  Code.wp Try.prog (headC code18d) (Exit.then K Q) ⟨#[u0, .pointer (some ⟨DB, 0, none⟩), .pointer (some ⟨RB, 0, none⟩), .pointer (some ⟨MB, 0, none⟩), vo, .int .i64 (i : Int), .pointer (some ⟨FB, 0, none⟩), u7, u8, u9, gI, kI, gJ, jY, eG, eH, u16, eE, eF, dX, dY, dZ, eA, eB, eC, eD, eI, eJ, eK, eL, eM, eN, u32, eO, eP, iN, iO, iP, iQ, iR, fK, iS, iT, iU, iV, iW, iX, gK, gL, gM, gN, gO, gP, gQ, gR, gS, gT, iY, iZ, jA, jB, jC, jD, jE, u64, jF, jG, jH, jJ, jK, jL, jM, jN, jO, jP, jQ, jR, jZ, kE, kF, kG, kH, jS, jT, jU, jV, jW, jX, kJ, kK, kM, kN, kO, kP, kQ, kR, kS, kT, kU, kV, aK, aG, aA, aB, aC, aD, aE, aF, aH, aI, aJ, aL, bC, bD, bE, bF, bG, bH, bI, bJ, bK, bL, aR, aM, aN, aO, aP, aQ, aS, aT, aU, aV, aW, aX, aY, aZ, bA, bM, bN, bP, bQ, bS, bR], []⟩ W := by
 obtain ⟨AO, co, rfl, ho1, ho2⟩ := hM.op.isSlice
 rw [hdd] at hM ho1 ⊢
 have d1 : W.cell? ⟨DB, 1, none⟩ = some (.slice (some ⟨ba, oa, none⟩) n cap) := cell_heap hM.bd (o := 1) rfl
 have lD := heap_lt hM.bd
 have h7W := (hM.kept.cell (p := ⟨ba, oa + i * 8 + 7, none⟩) hba).trans h7
 have hbaW := Nat.lt_of_lt_of_le hba hM.kept.size
 have hi0 : (0 : Int) ≤ (i : Int) := by omega
 unfold maxLen at ho2
 unfold endsB at he
 obtain ⟨c1, hc1⟩ : ∃ c, (f.flags / 16 % 2 == 1) = c := ⟨_, rfl⟩
 obtain ⟨c2, hc2⟩ : ∃ c, decide (1 < dd) = c := ⟨_, rfl⟩
 rw [hc1, hc2] at he
 have n1 : (bits .and .u8 f.flags 16 != 0) = c1 := by rw [bits16 hfl, ← hc1]; rcases (show f.flags / 16 % 2 = 0 ∨ f.flags / 16 % 2 = 1 by omega) with e | e <;> rw [e] <;> rfl
 have n1' : (bits .and .u8 f.flags 16 == 0) = !c1 := by rw [← n1]; simp [bne]
 have n2 : decide (1 < (dd : Int)) = c2 := by rw [← hc2]; congr 1; exact propext (by omega)
 have Hc2 := hide hc2
 have HM := hide hM
 have HQ := hide hQ
 have He := hide he
 have Hdd := hide hdd
 clear hc1 hc2 hM hQ he h7 hba hdd
 conv => arg 2; whnf
 conv at hK => enter [a, w', 1, 2]; whnf
 cases c1 with
 | false =>
  go_wp2_with fail
  refine HQ.out _ _ _ _ _ _ _ _ _ _ _ _ _ _ _ _ _ _ _ _ _ _ _ _ _ _ _ _ _ _ _ _ _ _ _ _ _ _ _ _ _ _ _ _ _ _ _ _ _ _ _ _ _ _ _ _ _ _ _ _ _ _ _ _ _ _ _ _ _ _ _ _ _ _ _ _ _ _ _ _ _ _ _ _ _ _ _ _ _ _ _ _ _ _ _ _ _ _ _ _ _ _ _ _ _ _ _ _ _ _ _ _ _ _ _ _ _ _ _ _ _ (by rw [← He.out]; exact HM.out)
 | true =>
 cases c2 with
 | true =>
  have n3 : 1 < (dd : Int) := of_decide_eq_true n2
  obtain ⟨k, hk⟩ : ∃ k, dd = k + 1 := ⟨dd - 1, by omega⟩
  subst hk
  have hMo := HM.out
  obtain ⟨gg, ccap, ccur, hve, hgh, _, _⟩ := own_block34 (by have h9 := hMo.op; rw [Hdd.out] at h9; exact h9) (by omega)
  injection hve with e1 _ e3
  subst e1 e3
  have HM2 := hide (hMo.pop Hdd.out (k := k) (by omega))
  have hw1 : IntKind.i64.wrap (((k + 1 : Nat) : Int) - 1) = (k : Int) := by rw [IntKind.wrap_i64]; omega
  have hw2 : IntKind.i64.wrap ((k : Int) + 1 - 1) = (k : Int) := by rw [IntKind.wrap_i64]; omega
  have hk0 : (0 : Int) ≤ (k : Int) := by omega
  have hk1 : (k : Int) ≤ (co : Int) := by omega
  have hk2 : k ≤ co := by omega
  have hgl := heap_lt hgh
  clear hMo hgh
  go_wp2_with fail
  refine HQ.out _ _ _ _ _ _ _ _ _ _ _ _ _ _ _ _ _ _ _ _ _ _ _ _ _ _ _ _ _ _ _ _ _ _ _ _ _ _ _ _ _ _ _ _ _ _ _ _ _ _ _ _ _ _ _ _ _ _ _ _ _ _ _ _ _ _ _ _ _ _ _ _ _ _ _ _ _ _ _ _ _ _ _ _ _ _ _ _ _ _ _ _ _ _ _ _ _ _ _ _ _ _ _ _ _ _ _ _ _ _ _ _ _ _ _ _ _ _ _ _ _ (by rw [← He.out]; exact HM2.out)
 | false =>
  go_wp2_with fail
  refine HQ.out _ _ _ _ _ _ _ _ _ _ _ _ _ _ _ _ _ _ _ _ _ _ _ _ _ _ _ _ _ _ _ _ _ _ _ _ _ _ _ _ _ _ _ _ _ _ _ _ _ _ _ _ _ _ _ _ _ _ _ _ _ _ _ _ _ _ _ _ _ _ _ _ _ _ _ _ _ _ _ _ _ _ _ _ _ _ _ _ _ _ _ _ _ _ _ _ _ _ _ _ _ _ _ _ _ _ _ _ _ _ _ _ _ _ _ _ _ _ _ _ _ (by rw [← He.out]; exact HM.out)
end Go.Proofs.Ytegdigfcgeoboaa
