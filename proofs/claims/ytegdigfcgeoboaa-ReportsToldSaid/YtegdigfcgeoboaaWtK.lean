/- The law's items of plain data: the whole. Printed by gen_we.py. -/
import Derived.Test.YtegdigfcgeoboaaChecked
import Derived.Deep.RegionHeld3
import Derived.Deep.DrawnRows
import Derived.Deep.DeepCutAuto
import Derived.Deep.LoopGhost
import Derived.Outline
import Derived.Handy
import Derived.OwnWalk
import Derived.BigQuiet
import Derived.Test.YtegdigfcgeoboaaN34
set_option linter.unusedVariables false
set_option linter.unusedSimpArgs false
set_option linter.unusedSectionVars false
namespace Go.Proofs.Ytegdigfcgeoboaa
open Go.RowKit
attribute [local go_sem ↓] Go.wp_at_zero Go.wp_at_succ

theorem stI_depth (w3 w2 : Int) (x : PD) : ∀ i, (stI w3 w2 x i).depth ≤ 5
  | 0 => by show (1 : Nat) ≤ 5; omega
  | i + 1 => by
    have h := stI_depth w3 w2 x i
    unfold stI
    cases x.fields[i]? with
    | none => exact h
    | some f =>
      show d2 f (d1 f (stI w3 w2 x i).depth) ≤ 5
      have h1 : d1 f (stI w3 w2 x i).depth ≤ 5 := by
        unfold d1
        split
        · rename_i hb
          unfold beginsB at hb
          simp only [Bool.and_eq_true, decide_eq_true_eq] at hb
          omega
        · exact h
      unfold d2
      split <;> omega
set_option maxRecDepth 1000000 in
set_option maxHeartbeats 16000000 in
theorem ditems_any (x : PD) (A : Option Addr) (cap : Nat) (way : Int) (w : World) (hx : PdIs w x A cap) (hok : ∀ f ∈ x.fields, f.ok) (hway : u8k way) :
    Calls Try.prog 18 #[.agg #[.bool x.numbers, .slice A x.fields.length cap], .int .u8 way] w fun e w' => (∃ A' c', e = .returned (.slice A' (itemsS way x).length c') ∧ Own itT 29 w.heap.size w' (.slice A' (itemsS way x).length c') (itemsS way x).length (itemsS way x)) ∧ Kept w w' := by
  obtain ⟨i29, hi29, hz0, hz1, hz2⟩ := info_parts info29
  obtain ⟨y0, hy0⟩ : ∃ y, itemS 1 0 1 false = y := ⟨_, rfl⟩
  have hit0 := item17n 1 0 1 false (by decide) y0 hy0
  obtain ⟨y1, hy1⟩ : ∃ y, itemS 2 0 6 false = y := ⟨_, rfl⟩
  have hit1 := item17n 2 0 6 false (by decide) y1 hy1
  obtain ⟨y2, hy2⟩ : ∃ y, itemS 0 10 1 false = y := ⟨_, rfl⟩
  have hit2 := item17n 0 10 1 false (by decide) y2 hy2
  obtain ⟨y3, hy3⟩ : ∃ y, itemS 1 0 7 false = y := ⟨_, rfl⟩
  have hit3 := item17n 1 0 7 false (by decide) y3 hy3
  have hyok : ∀ x ∈ [y0, y1, y2, y3], x.ok := by
    intro x hx
    simp only [List.mem_cons, List.not_mem_nil, or_false] at hx
    rcases hx with rfl | rfl | rfl | rfl
    · rw [← hy0]; exact (itemS_ok (by omega) (by omega)).2
    · rw [← hy1]; exact (itemS_ok (by omega) (by omega)).2
    · rw [← hy2]; exact (itemS_ok (by omega) (by omega)).2
    · rw [← hy3]; exact (itemS_ok (by omega) (by omega)).2
  have Hy0 := hide hy0
  have Hy1 := hide hy1
  have Hy2 := hide hy2
  have Hy3 := hide hy3
  clear hy0 hy1 hy2 hy3
  obtain ⟨n, hn⟩ : ∃ n, x.fields.length = n := ⟨_, rfl⟩
  obtain ⟨nb, hnb⟩ : ∃ b, x.numbers = b := ⟨_, rfl⟩
  rw [hn, hnb]
  have hkc : Kept (w.alloc (.cells #[.bool nb, .slice A n cap] 52)) (w.alloc (.cells #[.bool nb, .slice A n cap] 52)) := Below.refl _ _
  have Hx := hide hx
  have Hok := hide hok
  have Hn := hide hn
  have Hnb := hide hnb
  have Hway := hide hway
  clear hx hok hn hnb hway
  go_enter Try.func18, Try.ntmps18
  go_upto_region 6 with (first
      | (go_at_call 17; have hg0 := hkq2; refine (hit3 _).mono ?_; rintro e w5 ⟨rfl, hkq3⟩; replace hkc := hkc.trans' hkq3; try dsimp only)
      | (go_at_call 17; have hg0 := hkq1; refine (hit2 _).mono ?_; rintro e w5 ⟨rfl, hkq2⟩; replace hkc := hkc.trans' hkq2; try dsimp only)
      | (go_at_call 17; have hg0 := hkq0; refine (hit1 _).mono ?_; rintro e w5 ⟨rfl, hkq1⟩; replace hkc := hkc.trans' hkq1; try dsimp only)
      | (go_at_call 17; refine (hit0 _).mono ?_; rintro e w5 ⟨rfl, hkq0⟩; replace hkc := hkc.trans' hkq0; try dsimp only)
      | (at_builtin; refine wpList_append_sl (T := itT) rfl (.tmp 14) (.tmp 19) 22 rfl w.heap.size 29 i29 _ 24 Try.underlying22 hi29 hz0 hz1 hz2 rfl (by decide) _ 0 [] (by rfl) (Own.nil _ _ _ _) (some ⟨_, 0, none⟩) 4 4 [y0, y1, y2, y3] (by rfl) (by exact sl_it_heap (heap_at _ rfl) rfl hyok ⟨by simp, fun e => by cases e⟩) (by_one29 _ _) (by unfold maxLen; omega) (by omega) (by have h8 := hkc.size; simp at h8 ⊢; omega) ?_; intro v9 w9 hown9 hg9 hb9 hat9))
  have hk0 : Kept w (w.alloc (.cells #[.bool nb, .slice A n cap] 52)) := (Below.refl _ w).alloc (Nat.le_refl _) _
  have hk9 : Kept w w9 := ((hk0.trans' hkc).alloc (hk0.trans' hkc).size _).trans hb9
  have hD0 := heap_kept hkc (show (w.alloc (.cells #[.bool nb, .slice A n cap] 52)).heap[w.heap.size]? = some (.cells #[.bool nb, .slice A n cap] 52 (0, 0)) from heap_at _ rfl)
  have hD9 := heap_grown hg9 (heap_past hD0) (fun e => by cases e)
  refine wp_at (fun V => ∃ LB, V.heap[LB]? = some (.cells #[.int .u8 0, .int .u8 0, .int .i64 0, .slice none 0 0, .int .i64 0, .int .i64 0, .int .i64 0, .int .i64 0, .int .i64 0, .bool false, .bool false, .bool false, .bool false] 59 (0, 0)) ∧ LB = w9.heap.size ∧ Kept w9 V) ⟨_, heap_at _ rfl, rfl, by go_grown⟩ (fun V hV => ?_)
  obtain ⟨LB, hLB, hLBd, hkV⟩ := hV
  rw [← hLBd]
  have hDV := heap_kept hkV hD9
  have hoV := hown9.kept hkV
  have hkwV : Kept w V := hk9.trans' hkV
  have hDL : w.heap.size ≠ LB := by have h5 := hk9.size; have h6 := heap_lt hD9; omega
  have HDV := hide hDV
  have HLB := hide hLB
  have HoV := hide (show Own itT 29 w.heap.size V v9 headI2.length headI2 from by unfold headI2; rw [Hy0.out, Hy1.out, Hy2.out, Hy3.out]; exact hoV)
  have HkV := hide hkwV
  have Hlow := hide (show w.heap.size ≤ LB by have h5 := hk9.size; omega)
  clear hDV hLB hoV hkwV hkV hD9 hD0 hk9 hk0 hown9 hg9 hb9 hat9 hkc hLBd hyok hit0 hit1 hit2 hit3
  have hld : lenD x = min n 20 := by unfold lenD; rw [Hn.out]
  go_wp2_with fail
  go_loopg [5, 6, 8, 9] (min n 20) (fun g' s5 s6 s8 s9 wx => ∃ (i : Nat) (v vl : Value), i + g' = min n 20 ∧ s5 = v ∧ s6 = .int .i64 ((stI (way % 3) (way / 3 % 2) x i).depth : Int) ∧ s8 = .int .i64 (i : Int) ∧ Kept w wx ∧ wx.heap[w.heap.size]? = some (.cells #[.bool nb, .slice A n cap] 52 (0, 0)) ∧ wx.heap[LB]? = some (.cells ((stI (way % 3) (way / 3 % 2) x i).last.cellsAt vl) 59 (0, 0)) ∧ Own itT 29 w.heap.size wx v (stI (way % 3) (way / 3 % 2) x i).out.length (stI (way % 3) (way / 3 % 2) x i).out ∧ (stI (way % 3) (way / 3 % 2) x i).out.length ≤ 4 + 20 * i)
  case atStart => exact ⟨0, v9, .slice none 0 0, by omega, rfl, rfl, rfl, HkV.out, HDV.out, HLB.out, HoV.out, (show headI2.length ≤ 4 + 20 * 0 from by decide)⟩
  case round =>
    obtain ⟨i, v, vl, hgi, hv5, rfl, rfl, hkx, hD, hL, hO, hB⟩ := hrel
    replace hv5 := hv5.symm
    subst hv5
    obtain ⟨st, hst⟩ : ∃ st, stI (way % 3) (way / 3 % 2) x i = st := ⟨_, rfl⟩
    have hd5 := stI_depth (way % 3) (way / 3 % 2) x i
    rw [hst] at hL hO hB hd5 ⊢
    have Hst := hide hst
    have Hgi := hide hgi
    clear hst hgi
    by_cases hlt : i < min n 20
    case pos =>
      obtain ⟨f, hf⟩ : ∃ f, x.fields[i]? = some f := ⟨_, List.getElem?_eq_getElem (by rw [Hn.out]; omega)⟩
      have hfo := Hok.out f (List.mem_of_getElem? hf)
      have hst1 : stI (way % 3) (way / 3 % 2) x (i + 1) = stepI (way % 3) (way / 3 % 2) nb i st f := by
        conv => lhs; unfold stI
        rw [hf, Hst.out, Hnb.out]
      obtain ⟨ba, oa, csa, rfl, hba, hrel2, hca⟩ := Hx.out.sl.2 i f hf
      obtain ⟨rfl, _⟩ : csa = f.cells ∧ f.ok := hrel2
      have h7 : w.cell? ⟨ba, oa + i * 8 + 7, none⟩ = some (.int .u8 f.flags) := hca 7 _ rfl
      have hdf := dfield_any x _ cap i f wr (Hx.out.kept hkx) hf Hok.out
      rw [Hn.out, Hnb.out] at hdf
      have dl0 : wr.cell? ⟨w.heap.size, 0, none⟩ = some (.bool nb) := cell_heap hD (o := 0) rfl
      have dl1 : wr.cell? ⟨w.heap.size, 1, none⟩ = some (.slice (some ⟨ba, oa, none⟩) n cap) := cell_heap hD (o := 1) rfl
      have lD := heap_lt hD
      have lL := heap_lt hL
      have hin : (i : Int) < (n : Int) := by omega
      have hi20 : (i : Int) < 20 := by omega
      have HD := hide hD
      have HL := hide hL
      have HO := hide hO
      have Hkx := hide hkx
      have Hf := hide hf
      have Hst1 := hide hst1
      have Hlt := hide hlt
      have Hfo := hide hfo
      clear hD hL hO hkx hf hst1 hlt hca hfo
      go_upto_region 9 with (first
        | (go_at_call 33; refine hdf.mono ?_; rintro e w5 ⟨⟨U, c, rfl, hown⟩, hkq⟩; replace hkq : Kept wr w5 := hkq; try dsimp only)
        | (refine wpList_store_row rfl 59 (.tmp 9) (.tmp 34) rfl w5.heap.size ((fdS nb f).cellsAt (.slice U (manyF f) c)) (by rfl) (by rfl) 59 _ (heap_at _ rfl) (by kernel_rfl) (by rfl) (by unfold Fd.cellsAt; simp [Value.oneCell']) ?_))
      have hnew : w.heap.size ≤ w5.heap.size := Nat.le_trans Hkx.out.size hkq.size
      refine wp_at (fun V => ∃ FB, V.heap[FB]? = some (.cells ((fdS nb f).cellsAt (.slice U (manyF f) c)) 59 (0, 0)) ∧ FB = w5.heap.size ∧ Kept w5 V) ⟨_, heap_row (heap_at _ rfl), rfl, below_row ((Below.refl _ _).alloc (Nat.le_refl _) _) (Nat.le_refl _) _⟩ (fun V hV => ?_)
      obtain ⟨FB, hFB, hFBd, hkV⟩ := hV
      rw [← hFBd]
      have hLF : LB ≠ FB := by have := heap_lt HL.out; have := hkq.size; omega
      have hkV0 := hkq.trans' hkV
      have hul : (usagesF f).length = manyF f := by unfold usagesF; simp
      obtain ⟨mm, hmm⟩ : ∃ mm, manyF f = mm + 1 := ⟨manyF f - 1, by unfold manyF; omega⟩
      have hm5 : mm ≤ 5 := by unfold manyF at hmm; omega
      have hIS : IS w V w.heap.size LB FB nb (some ⟨ba, oa, none⟩) n cap st.out.length (4 + 20 * i) v vl (.slice U (manyF f) c) st.out st.last (fdS nb f) (usagesF f) :=
        ⟨Hkx.out.trans' hkV0, heap_kept hkV0 HD.out, heap_kept hkV0 HL.out, hFB, ⟨Nat.le_refl _, Hlow.out, by omega, hLF⟩, HO.out.kept hkV0, by rw [hul]; exact (hown.lower Hkx.out.size).kept hkV, rfl, hB⟩
      obtain ⟨f1, f2, f3, f4, f5, f6, f7, f8⟩ := Hfo.out
      have hsz := sizeF_ok Hfo.out
      have hw3 : way.tmod 3 = way % 3 := Int.tmod_eq_emod_of_nonneg Hway.out.1
      have hw2 : (way.tdiv 3).tmod 2 = way / 3 % 2 := by rw [Int.tdiv_eq_ediv_of_nonneg Hway.out.1, Int.tmod_eq_emod_of_nonneg (by have := Hway.out.1; omega)]
      have hus : usesI (way / 3 % 2) f = if way / 3 % 2 = 0 then [itemS 2 1 f.first false, itemS 2 2 (f.first + (mm : Int)) false] else (List.range (mm + 1)).map fun (k : Nat) => itemS 2 0 (f.first + (k : Int)) false := by unfold usesI; rw [hmm]; rfl
      have hur : usagesF f = (List.range (mm + 1)).map fun (q : Nat) => 458752 + f.first + (q : Int) := by unfold usagesF; rw [hmm]
      have he : st.out ++ (i1 f i st.depth ++ (i2 (way % 3) ++ (i3 (way % 3) i st.last (fdS nb f) ++ (i4 (way % 3) i st.last (fdS nb f) ++ (i5 (way % 3) i st.last (fdS nb f) ++ (i6 (way % 3) i st.last (fdS nb f) ++ (i7 nb (way % 3) i st.last (fdS nb f) ++ (usesI (way / 3 % 2) f ++ (i9 f (fdS nb f) ++ i10 f (d1 f st.depth)))))))))) = (stepI (way % 3) (way / 3 % 2) nb i st f).out := by unfold stepI; simp only [List.append_assoc]
      have hdp : d2 f (d1 f st.depth) = (stepI (way % 3) (way / 3 % 2) nb i st f).depth := rfl
      have hla : (stepI (way % 3) (way / 3 % 2) nb i st f).last = fdS nb f := rfl
      obtain ⟨fin, hfin⟩ : ∃ l, (stepI (way % 3) (way / 3 % 2) nb i st f).out = l := ⟨_, rfl⟩
      obtain ⟨dfin, hdfin⟩ : ∃ l, (stepI (way % 3) (way / 3 % 2) nb i st f).depth = l := ⟨_, rfl⟩
      rw [hfin] at he
      rw [hdfin] at hdp
      have hk3 := fd_kind (nb := nb) Hfo.out
      have HIS := hide hIS
      have Hfin := hide hfin
      have Hdfin := hide hdfin
      have Hla := hide hla
      have Hsz := hide hsz
      have Hmm := hide hmm
      clear hIS hfin hdfin hla hFB hFBd hkV hLF hkV0 hul hown hkq hnew hsz hmm hdf
      refine p9 (f := f) (w3 := way % 3) (w2 := way / 3 % 2) (dd := st.depth) (B := 4 + 20 * i) (BF := 4 + 20 * (i + 1)) HIS.out h7 hba hin f8 hk3 f3 hm5 hus hw2 Hway.out he hdp (by omega) (by omega) hd5 (by omega) hur hw3 ?_ ?_ ?_ ?_ ?_ _ _ _ ?_ ?_ ?_
      · show 0 ≤ (if nb then 1 + f.report % 3 else 0 : Int) ∧ (if nb then 1 + f.report % 3 else 0 : Int) < 4294967296
        split <;> omega
      · show 0 ≤ 1 + f.count % 6 ∧ 1 + f.count % 6 < 4294967296
        omega
      · show (0 : Int) ≤ (sizeF f.lo (f.lo + f.more) : Int) ∧ (sizeF f.lo (f.lo + f.more) : Int) < 4294967296
        have := Hsz.out.2; omega
      · show -32768 ≤ f.lo + f.more ∧ f.lo + f.more < 2147483648
        omega
      · show -32768 ≤ f.lo ∧ f.lo < 2147483648
        omega
      · assumption
      · assumption
      clear HIS hus hur he hdp hk3 hw3 hw2 HD HL HO
      intro s10 s11 s12 s13 s35 s36 s37 s38 s39 s40 s41 s42 s43 s44 s45 s46 s47 s48 s49 s50 s51 s52 s53 s54 s55 s56 s57 s58 s59 s60 s61 s62 s63 s64 s65 s66 s67 s68 s69 s70 s71 s72 s73 s74 s75 s76 s77 s78 s79 s80 s81 s82 s83 s84 s85 s86 s87 s88 s89 s90 s91 s92 s93 s94 s95 s96 s97 s98 s99 s100 s101 s102 s103 s104 s105 s106 s107 s108 s109 s110 s111 s112 s113 s114 s115 s116 s117 s118 s119 s120 s121 s122 s123 s124 s125 s126 s127 s128 s129 s130 s131 s132 s133 s134 s135 s136 s137 s138 s139 s140 s141 s142 s143 s144 s145 s146 s147 s148 s149 s150 s151 s152 s153 s154 s155 s156 s157 s158 s159 s160 s161 s162 s163 s164 s165 s166 s167 s168 s169 s170 s171 s172 s173 s174 s175 s176 s177 s178 s179 s180 s181 s182 s183 s184 s185 s186 s187 s188 s189 s190 s191 s192 s193 s194 s195 s196 s197 s198 s199 s200 s201 s202 s203 s204 s205 s206 s207 s208 s209 s210 s211 s212 s213 s214 s215 s216 s217 s218 s219 s220 s221 s222 s223 s224 s225 s226 s227 s228 s229 s230 s231 s232 s233 s234 s235 s236 s237 s238 s239 s240 s241 s242 s243 s244 s245 s246 s247 s248 s249 v' m' w' hIS
      have hm' := hIS.len
      have hb' := hIS.bnd
      have HIS := hide hIS
      clear hIS
      have hwi : IntKind.i64.wrap ((i : Int) + 1) = ((i + 1 : Nat) : Int) := by rw [IntKind.wrap_i64]; omega
      go_wp2_with fail
      go_roundg (gk - 1)
      case measure => have := Hgi.out; omega
      case rel =>
        refine ⟨i + 1, v', .slice U (manyF f) c, by have := Hgi.out; omega, rfl, ?_, by first | rfl | go_num | (rw [hwi]), HIS.out.kept, HIS.out.dbox, ?_, ?_, ?_⟩
        · rw [Hst1.out, Hdfin.out]
        · rw [Hst1.out, Hla.out]; exact HIS.out.lbox
        · rw [Hst1.out, Hfin.out]; exact HIS.out.own
        · rw [Hst1.out, Hfin.out]; omega
    case neg =>
      have hO20 : i = min n 20 := by have := Hgi.out; omega
      have HO := hide hO
      have Hkx := hide hkx
      have Hi20 := hide hO20
      have dl1 : wr.cell? ⟨w.heap.size, 1, none⟩ = some (.slice A n cap) := cell_heap hD (o := 1) rfl
      have lD := heap_lt hD
      clear hD hL hO hkx
      by_cases hin : (i : Int) < (n : Int)
      case pos =>
        have hi20 : ¬ (i : Int) < 20 := by have := Hi20.out; omega
        go_wp2_with fail
        obtain ⟨wo, rfl⟩ : ∃ wo : World, wo = wr := ⟨_, rfl⟩
        go_loopg [5, 6] st.depth (fun g' s5 s6 wr => ∃ (k : Nat) (vv : Value), k + g' = st.depth ∧ s5 = vv ∧ s6 = .int .i64 ((st.depth - k : Nat) : Int) ∧ Kept w wr ∧ Own itT 29 w.heap.size wr vv (st.out ++ List.replicate k endI).length (st.out ++ List.replicate k endI))
        case atStart => exact ⟨0, v, by omega, rfl, rfl, Hkx.out, by simpa using HO.out⟩
        case round =>
          clear HO
          obtain ⟨k, vv, hk, hv5, rfl, hkz, hoz⟩ := hrel
          replace hv5 := hv5.symm
          subst hv5
          have Hkz := hide hkz
          obtain ⟨ol, hol⟩ : ∃ l, st.out ++ List.replicate k endI = l := ⟨_, rfl⟩
          have hll : ol.length = st.out.length + k := by rw [← hol]; simp
          rw [hol] at hoz
          have Hol := hide hol
          have Hk := hide hk
          have Hoz := hide hoz
          clear hol hk hoz
          obtain ⟨m, hm⟩ : ∃ m, ol.length = m := ⟨_, rfl⟩
          rw [hm] at Hoz hll
          have hmb : m ≤ 900 := by have := Hi20.out; have := Hgi.out; have := Hk.out; omega
          have Hll := hide hll
          clear hll
          have Hm := hide hm
          clear hm
          obtain ⟨q, hq⟩ : ∃ q : Nat, st.depth - k = q := ⟨_, rfl⟩
          rw [hq]
          have Hq := hide hq
          clear hq
          by_cases hlt : k < st.depth
          case pos =>
            have hq0 : (0 : Int) < (q : Int) := by have := Hq.out; omega
            have hwq : IntKind.i64.wrap ((q : Int) - 1) = ((st.depth - (k + 1) : Nat) : Int) := by rw [IntKind.wrap_i64]; have := Hq.out; omega
            obtain ⟨y0, hy0⟩ : ∃ y, itemS 0 12 0 false = y := ⟨_, rfl⟩
            have hit0 := item17n 0 12 0 false (by decide) y0 hy0
            have hyok : ∀ x ∈ [y0], x.ok := by
              intro x hx
              have : x = y0 := by simpa using hx
              rw [this, ← hy0]
              exact (itemS_ok (by omega) (by omega)).2
            have Hy0 := hide hy0
            have hkc : Kept wr wr := Below.refl _ _
            have hszz := hkz.size
            clear hy0
            go_upto_region 38 with (first
              | (go_at_call 17; refine (hit0 _).mono ?_; rintro e w5 ⟨rfl, hkq0⟩; replace hkc := hkc.trans' hkq0; try dsimp only)
              | (at_builtin; refine wpList_append_sl (T := itT) rfl (.tmp 254) (.tmp 256) 22 rfl w.heap.size 29 i29 _ 24 Try.underlying22 hi29 hz0 hz1 hz2 rfl (by decide) _ m ol (by rfl) ((Hoz.out.kept hkc).alloc _) (some ⟨_, 0, none⟩) 1 1 [y0] (by rfl) (by exact sl_it_heap (heap_at _ rfl) rfl hyok ⟨by simp, fun e => by have h9 := ((Hoz.out.kept hkc).lt e).2; omega⟩) (by_one29 _ _) (by unfold maxLen; omega) (by omega) (by have h8 := hkc.size; simp; omega) ?_; intro v9 w9 hown9 hg9 hb9 hat9))
            have e2 : ol ++ [y0] = st.out ++ List.replicate (k + 1) endI := by rw [← Hol.out, List.append_assoc, ← Hy0.out, List.replicate_succ']; rfl
            rw [e2] at hown9
            have hkz9 : Kept w w9 := ((hkz.trans' hkc).alloc (Nat.le_trans hkz.size hkc.size) _).trans hb9
            have hown9' := hown9
            have Hown := hide (show Own itT 29 w.heap.size w9 v9 (st.out ++ List.replicate (k + 1) endI).length (st.out ++ List.replicate (k + 1) endI) from by rw [List.length_append, List.length_replicate]; rw [show st.out.length + (k + 1) = m + 1 by have := Hll.out; omega]; exact hown9')
            have Hkz9 := hide hkz9
            clear hown9 hown9' hg9 hb9 hat9 hit0 hyok hkc e2 hkz9 hkz Hoz
            go_wp2_with fail
            go_roundg (gk - 1)
            case measure => have := Hk.out; omega
            case rel => exact ⟨k + 1, v9, by have := Hk.out; omega, rfl, by first | rfl | go_num | (rw [hwq]), Hkz9.out, Hown.out⟩
          case neg =>
            have hq0 : ¬ (0 : Int) < (q : Int) := by have := Hq.out; omega
            have hkk : k = st.depth := by have := Hk.out; omega
            have hfin : itemsS way x = ol := by rw [← Hol.out, hkk]; unfold itemsS; rw [hld, ← Hi20.out, Hst.out]
            obtain ⟨Az, cz, rfl, hz1', hz2'⟩ := Hoz.out.isSlice
            have Hfin := hide hfin
            clear hfin hkk hkz
            have hkz0 := Hkz.out
            have Hkz0 := hide hkz0
            clear hkz0
            go_wp2_with fail
            go_ret
            refine ⟨⟨Az, cz, ?_, by rw [Hfin.out, Hm.out]; exact Hoz.out⟩, Hkz0.out⟩
            rw [Hfin.out, Hm.out]
            rfl
      case neg =>
        go_wp2_with fail
        obtain ⟨wo, rfl⟩ : ∃ wo : World, wo = wr := ⟨_, rfl⟩
        go_loopg [5, 6] st.depth (fun g' s5 s6 wr => ∃ (k : Nat) (vv : Value), k + g' = st.depth ∧ s5 = vv ∧ s6 = .int .i64 ((st.depth - k : Nat) : Int) ∧ Kept w wr ∧ Own itT 29 w.heap.size wr vv (st.out ++ List.replicate k endI).length (st.out ++ List.replicate k endI))
        case atStart => exact ⟨0, v, by omega, rfl, rfl, Hkx.out, by simpa using HO.out⟩
        case round =>
          clear HO
          obtain ⟨k, vv, hk, hv5, rfl, hkz, hoz⟩ := hrel
          replace hv5 := hv5.symm
          subst hv5
          have Hkz := hide hkz
          obtain ⟨ol, hol⟩ : ∃ l, st.out ++ List.replicate k endI = l := ⟨_, rfl⟩
          have hll : ol.length = st.out.length + k := by rw [← hol]; simp
          rw [hol] at hoz
          have Hol := hide hol
          have Hk := hide hk
          have Hoz := hide hoz
          clear hol hk hoz
          obtain ⟨m, hm⟩ : ∃ m, ol.length = m := ⟨_, rfl⟩
          rw [hm] at Hoz hll
          have hmb : m ≤ 900 := by have := Hi20.out; have := Hgi.out; have := Hk.out; omega
          have Hll := hide hll
          clear hll
          have Hm := hide hm
          clear hm
          obtain ⟨q, hq⟩ : ∃ q : Nat, st.depth - k = q := ⟨_, rfl⟩
          rw [hq]
          have Hq := hide hq
          clear hq
          by_cases hlt : k < st.depth
          case pos =>
            have hq0 : (0 : Int) < (q : Int) := by have := Hq.out; omega
            have hwq : IntKind.i64.wrap ((q : Int) - 1) = ((st.depth - (k + 1) : Nat) : Int) := by rw [IntKind.wrap_i64]; have := Hq.out; omega
            obtain ⟨y0, hy0⟩ : ∃ y, itemS 0 12 0 false = y := ⟨_, rfl⟩
            have hit0 := item17n 0 12 0 false (by decide) y0 hy0
            have hyok : ∀ x ∈ [y0], x.ok := by
              intro x hx
              have : x = y0 := by simpa using hx
              rw [this, ← hy0]
              exact (itemS_ok (by omega) (by omega)).2
            have Hy0 := hide hy0
            have hkc : Kept wr wr := Below.refl _ _
            have hszz := hkz.size
            clear hy0
            go_upto_region 38 with (first
              | (go_at_call 17; refine (hit0 _).mono ?_; rintro e w5 ⟨rfl, hkq0⟩; replace hkc := hkc.trans' hkq0; try dsimp only)
              | (at_builtin; refine wpList_append_sl (T := itT) rfl (.tmp 254) (.tmp 256) 22 rfl w.heap.size 29 i29 _ 24 Try.underlying22 hi29 hz0 hz1 hz2 rfl (by decide) _ m ol (by rfl) ((Hoz.out.kept hkc).alloc _) (some ⟨_, 0, none⟩) 1 1 [y0] (by rfl) (by exact sl_it_heap (heap_at _ rfl) rfl hyok ⟨by simp, fun e => by have h9 := ((Hoz.out.kept hkc).lt e).2; omega⟩) (by_one29 _ _) (by unfold maxLen; omega) (by omega) (by have h8 := hkc.size; simp; omega) ?_; intro v9 w9 hown9 hg9 hb9 hat9))
            have e2 : ol ++ [y0] = st.out ++ List.replicate (k + 1) endI := by rw [← Hol.out, List.append_assoc, ← Hy0.out, List.replicate_succ']; rfl
            rw [e2] at hown9
            have hkz9 : Kept w w9 := ((hkz.trans' hkc).alloc (Nat.le_trans hkz.size hkc.size) _).trans hb9
            have hown9' := hown9
            have Hown := hide (show Own itT 29 w.heap.size w9 v9 (st.out ++ List.replicate (k + 1) endI).length (st.out ++ List.replicate (k + 1) endI) from by rw [List.length_append, List.length_replicate]; rw [show st.out.length + (k + 1) = m + 1 by have := Hll.out; omega]; exact hown9')
            have Hkz9 := hide hkz9
            clear hown9 hown9' hg9 hb9 hat9 hit0 hyok hkc e2 hkz9 hkz Hoz
            go_wp2_with fail
            go_roundg (gk - 1)
            case measure => have := Hk.out; omega
            case rel => exact ⟨k + 1, v9, by have := Hk.out; omega, rfl, by first | rfl | go_num | (rw [hwq]), Hkz9.out, Hown.out⟩
          case neg =>
            have hq0 : ¬ (0 : Int) < (q : Int) := by have := Hq.out; omega
            have hkk : k = st.depth := by have := Hk.out; omega
            have hfin : itemsS way x = ol := by rw [← Hol.out, hkk]; unfold itemsS; rw [hld, ← Hi20.out, Hst.out]
            obtain ⟨Az, cz, rfl, hz1', hz2'⟩ := Hoz.out.isSlice
            have Hfin := hide hfin
            clear hfin hkk hkz
            have hkz0 := Hkz.out
            have Hkz0 := hide hkz0
            clear hkz0
            go_wp2_with fail
            go_ret
            refine ⟨⟨Az, cz, ?_, by rw [Hfin.out, Hm.out]; exact Hoz.out⟩, Hkz0.out⟩
            rw [Hfin.out, Hm.out]
            rfl
end Go.Proofs.Ytegdigfcgeoboaa
