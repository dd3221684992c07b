/- The law's map of plain data: the whole. Printed by gen_xm.py. -/
import Derived.Test.YtegdigfcgeoboaaChecked
import Derived.Deep.RegionHeld3
import Derived.Deep.DrawnRows
import Derived.Deep.DeepCutAuto
import Derived.Deep.LoopGhost
import Derived.Outline
import Derived.Handy
import Derived.OwnWalk
import Derived.BigQuiet
import Derived.Deep.DeepMust
import Derived.Test.YtegdigfcgeoboaaN36
import Derived.Test.YtegdigfcgeoboaaQdK
set_option linter.unusedVariables false
set_option linter.unusedSimpArgs false
set_option linter.unusedSectionVars false
namespace Go.Proofs.Ytegdigfcgeoboaa
open Go.RowKit Go.Maps
attribute [local go_sem ↓] Go.wp_at_zero Go.wp_at_succ

theorem own_lit {α : Type} {t : Ty α} {e : TypeId} {w : World} {base g : Nat} {x : α} {cs : Array Value} (hb : base ≤ g) (h : w.heap[g]? = some (.cells cs e (0, 0))) (hr : t.rel w (apart w (.slice (some ⟨g, 0, none⟩) 1 1)) x cs.toList) : Own t e base w (.slice (some ⟨g, 0, none⟩) 1 1) 1 [x] := by
  have hl := t.len hr
  refine ⟨rfl, cs.toList, ⟨by omega, .inr ⟨g, 1, cs, rfl, hb, h, Nat.le_refl _, by decide, by rw [← hl]; simp, by rw [List.take_of_length_le (by omega)]⟩⟩, fun i y hy => ?_⟩
  cases i with
  | zero =>
    obtain rfl : x = y := by simpa using hy
    rw [Nat.zero_mul, List.drop_zero, List.take_of_length_le (by omega)]
    exact hr
  | succ i => simp at hy
theorem stM_ok {x : PD} (hx : ∀ f ∈ x.fields, f.ok) {i : Nat} (hi : i ≤ lenD x) : (stM x i).opens ≠ [] ∧ (stM x i).opens.length ≤ 5 ∧ (stM x i).fields.length ≤ i ∧ (stM x i).colls.length ≤ i + 1 ∧ (∀ f ∈ (stM x i).fields, 0 ≤ f.size * f.count ∧ f.size * f.count ≤ 108) := by
  obtain ⟨_, _, h⟩ := invT_all hx (w3 := 0) (w2 := 0) i hi
  exact ⟨h.pos, h.le, h.nf, h.nc, h.small⟩
theorem rev_last {l : List Int} (h : l ≠ []) : l.reverse[l.length - 1]? = some (l.headD (-1)) := by
  cases l with
  | nil => exact absurd rfl h
  | cons a l => simp
theorem rev_pop (l : List Int) : l.reverse.take (l.length - 1) = l.tail.reverse := by
  cases l with
  | nil => rfl
  | cons a l => simp
/-- the map behind its copy into the result -/
structure MR (w W : World) (RB : Nat) (X : Nat → Prop) (vf vc : Value) (fn cn : Nat) (fl : List Fd) (cl : List Co) : Prop where
  kept : Kept w W
  br : ∃ cs, W.heap[RB]? = some (.cells cs 40 (0, 0))
  fs : Own (fdM.on X) 59 w.heap.size W vf fn fl
  cs : Own coT 68 w.heap.size W vc cn cl
  hX : ∀ b, X b → b ≠ RB
  lo : w.heap.size ≤ RB
theorem MR.set {w W : World} {RB fn cn : Nat} {X : Nat → Prop} {vf vc : Value} {fl : List Fd} {cl : List Co} (h : MR w W RB X vf vc fn cn fl cl) (i : Nat) (u : Value) : MR w (W.setCell ⟨RB, i, none⟩ u) RB X vf vc fn cn fl cl := by
  have hg : W.grownBy (W.setCell ⟨RB, i, none⟩ u) (some RB) := grown_at grown_self i u
  obtain ⟨cs, hb⟩ := h.br
  exact ⟨h.kept.trans ((Below.refl _ _).setCell (p := ⟨RB, i, none⟩) h.lo _), ⟨_, heap_store hb u⟩, h.fs.grownX hg (fun b e hx => h.hX b hx (by injection e)) (own_ne_or h.fs hb (by decide)), h.cs.grownF flat_co hg (own_ne_or h.cs hb (by decide)), h.hX, h.lo⟩
theorem MR.fields {w W : World} {RB fn cn m c : Nat} {X : Nat → Prop} {A : Option Addr} {vc : Value} {fl : List Fd} {cl : List Co} (h : MR w W RB X (.slice A m c) vc fn cn fl cl) (_ : fl.length = fn) : Sl fdM W (low W.heap.size) A fn fl := h.fs.sl.off
theorem MR.colls {w W : World} {RB fn cn m c : Nat} {X : Nat → Prop} {A : Option Addr} {vf : Value} {fl : List Fd} {cl : List Co} (h : MR w W RB X vf (.slice A m c) fn cn fl cl) (_ : cl.length = cn) : Sl coT W (low W.heap.size) A cn cl := h.cs.sl
theorem MD.toR {w W : World} {DB RB MB FB n cap : Nat} {nb nm : Bool} {A : Option Addr} {vo vf vc : Value} {ol : List Int} {fl : List Fd} {cl : List Co} (h : MD w W DB RB MB FB nb nm A n cap vo vf vc ol fl cl) : MR w W RB (BusyD RB MB FB vo vf vc) vf vc fl.length cl.length fl cl :=
  ⟨h.kept, ⟨_, h.br⟩, h.fs, h.cs, fun _ hx => hx.1, h.low.2.1⟩
set_option maxRecDepth 1000000 in
set_option maxHeartbeats 16000000 in
theorem dmap_any (x : PD) (A : Option Addr) (cap : Nat) (w : World) (hx : PdIs w x A cap) (hok : ∀ f ∈ x.fields, f.ok) :
    Calls Try.prog 19 #[.agg #[.bool x.numbers, .slice A x.fields.length cap]] w fun e w' => (∃ Af cf Ac cc, e = .returned (.agg #[.slice Af (stM x (lenD x)).fields.length cf, .slice Ac (stM x (lenD x)).colls.length cc, .bool (x.numbers && decide (0 < lenD x))]) ∧
      Sl fdM w' (low w'.heap.size) Af (stM x (lenD x)).fields.length (stM x (lenD x)).fields ∧ Sl coT w' (low w'.heap.size) Ac (stM x (lenD x)).colls.length (stM x (lenD x)).colls ∧ (stM x (lenD x)).fields.length ≤ cf ∧ (stM x (lenD x)).colls.length ≤ cc ∧ cf ≤ maxLen ∧ cc ≤ maxLen) ∧ Kept w w' := by
  obtain ⟨n, hn⟩ : ∃ n, x.fields.length = n := ⟨_, rfl⟩
  obtain ⟨nb, hnb⟩ : ∃ b, x.numbers = b := ⟨_, rfl⟩
  rw [hn, hnb]
  have hld : lenD x = min n 20 := by unfold lenD; rw [hn]
  obtain ⟨SF, hSF⟩ : ∃ s, stM x (lenD x) = s := ⟨_, rfl⟩
  obtain ⟨NM, hNM⟩ : ∃ b, (nb && decide (0 < lenD x)) = b := ⟨_, rfl⟩
  rw [hSF, hNM]
  have Hx := hide hx
  have Hok := hide hok
  have Hn := hide hn
  have Hnb := hide hnb
  have Hld := hide hld
  have HSF := hide hSF
  have HNM := hide hNM
  clear hx hok hn hnb hld hSF hNM
  go_enter Try.func19, Try.ntmps19
  go_upto_region 3 with fail
  refine wp_at (fun V => MD w V w.heap.size (w.heap.size + 1) (w.heap.size + 1 + 1 + 1) (w.heap.size + 1 + 1 + 1) nb false A n cap (.slice (some ⟨w.heap.size + 1 + 1 + 1 + 1, 0, none⟩) 1 1) (.slice none 0 0) (.slice (some ⟨w.heap.size + 1 + 1, 0, none⟩) 1 1) [0] [] [⟨1, 65542, -1⟩]) ?_ (fun V hV => ?_)
  · refine ⟨by go_grown, heap_past (heap_past (heap_past (heap_past (heap_at _ rfl)))), heap_past (heap_past (heap_past (heap_at _ (by simp)))), heap_past (heap_at _ (by simp)), own_lit (cs := #[.int .i64 0]) (by omega) (heap_at _ (by simp)) ⟨rfl, trivial⟩, Own.nil _ _ _ _, own_lit (cs := #[.int .u8 1, .int .u32 65542, .int .i64 (-1)]) (by omega) (heap_past (heap_past (heap_at _ (by simp)))) ⟨rfl, trivial⟩, ⟨by omega, by omega, by omega, by omega, by omega⟩, fun e => by cases e⟩
  have HV := hide hV
  clear hV
  obtain ⟨DB, hDB⟩ : ∃ b, w.heap.size = b := ⟨_, rfl⟩
  obtain ⟨RB, hRB⟩ : ∃ b, w.heap.size + 1 = b := ⟨_, rfl⟩
  obtain ⟨MB, hMB⟩ : ∃ b, w.heap.size + 1 + 1 + 1 = b := ⟨_, rfl⟩
  rw [hMB, hRB, hDB] at HV
  simp only [hMB]
  simp only [hRB]
  simp only [hDB]
  have hlow : w.heap.size ≤ DB ∧ w.heap.size ≤ RB ∧ w.heap.size ≤ MB := by omega
  clear hDB hRB hMB
  go_wp2_with fail
  go_loopg [4, 5] (min n 20) (fun g' s4 s5 wr => ∃ (i FB : Nat) (vo vf vc : Value), i + g' = min n 20 ∧ s4 = vo ∧ s5 = .int .i64 (i : Int) ∧ MD w wr DB RB MB FB nb (nb && decide (0 < i)) A n cap vo vf vc (stM x i).opens.reverse (stM x i).fields (stM x i).colls)
  case atStart => exact ⟨0, _, _, _, _, by omega, rfl, rfl, by rw [show (nb && decide (0 < 0)) = false by simp]; exact HV.out⟩
  case round =>
    clear HV
    obtain ⟨i, FB0, vo, vf, vc, hgi, hv4, rfl, hM⟩ := hrel
    replace hv4 := hv4.symm
    subst hv4
    obtain ⟨st, hst⟩ : ∃ st, stM x i = st := ⟨_, rfl⟩
    have hok5 := stM_ok Hok.out (i := i) (by rw [Hld.out]; omega)
    rw [hst] at hM hok5
    have Hst := hide hst
    have Hgi := hide hgi
    obtain ⟨o1, o2, o3, o4, o5⟩ := hok5
    have Ho5 := hide o5
    have Ho1 := hide o1
    clear hst hgi o5 o1
    have dl1 : wr.cell? ⟨DB, 1, none⟩ = some (.slice A n cap) := cell_heap hM.bd (o := 1) rfl
    have dl0 : wr.cell? ⟨DB, 0, none⟩ = some (.bool nb) := cell_heap hM.bd (o := 0) rfl
    have lD := heap_lt hM.bd
    by_cases hlt : i < min n 20
    case pos =>
      obtain ⟨f, hf⟩ : ∃ f, x.fields[i]? = some f := ⟨_, List.getElem?_eq_getElem (by rw [Hn.out]; omega)⟩
      have hfo := Hok.out f (List.mem_of_getElem? hf)
      have hst1 : stM x (i + 1) = stepM nb i st f := by
        conv => lhs; unfold stM
        rw [hf, Hst.out, Hnb.out]
      obtain ⟨ba, oa, csa, rfl, hba, hrel2, hca⟩ := Hx.out.sl.2 i f hf
      obtain ⟨rfl, _⟩ : csa = f.cells ∧ f.ok := hrel2
      have h7 : w.cell? ⟨ba, oa + i * 8 + 7, none⟩ = some (.int .u8 f.flags) := hca 7 _ rfl
      have hdf := dfield_any x _ cap i f wr (Hx.out.kept hM.kept) hf Hok.out
      rw [Hn.out, Hnb.out] at hdf
      have hin : (i : Int) < (n : Int) := by omega
      have hi20 : (i : Int) < 20 := by omega
      have HM := hide hM
      have Hf := hide hf
      have Hst1 := hide hst1
      have Hlt := hide hlt
      have Hfo := hide hfo
      clear hM hf hst1 hlt hca hfo
      go_upto_region 7 with (first
        | (go_at_call 33; refine hdf.mono ?_; rintro e w5 ⟨⟨U, c, rfl, hown⟩, hkq⟩; replace hkq : Kept wr w5 := hkq; try dsimp only)
        | (refine wpList_store_row rfl 59 (.tmp 6) (.tmp 25) rfl w5.heap.size ((fdS nb f).cellsAt (.slice U (manyF f) c)) (by rfl) (by rfl) 59 _ (heap_at _ rfl) (by kernel_rfl) (by rfl) (by unfold Fd.cellsAt; simp [Value.oneCell']) ?_))
      refine wp_at (fun V => ∃ FB, V.heap[FB]? = some (.cells ((fdS nb f).cellsAt (.slice U (manyF f) c)) 59 (0, 0)) ∧ FB = w5.heap.size ∧ Kept w5 V) ⟨_, heap_row (heap_at _ rfl), rfl, below_row ((Below.refl _ _).alloc (Nat.le_refl _) _) (Nat.le_refl _) _⟩ (fun V hV => ?_)
      obtain ⟨FB, hFB, hFBd, hkV⟩ := hV
      rw [← hFBd]
      have hkV0 := hkq.trans' hkV
      have hul : (fdS nb f).usages.length = manyF f := by show (usagesF f).length = manyF f; unfold usagesF; simp
      have hMV := (HM.out.fresh (FB' := FB) (by rw [hFBd]; exact hkq.size)).keep hkV0
      have hFX : FX w V FB U c (fdS nb f) := ⟨by rw [hul]; exact hFB, by rw [hul]; exact (hown.lower HM.out.kept.size).kept hkV, by rw [hFBd]; exact Nat.le_trans HM.out.kept.size hkq.size⟩
      have hdd : st.opens.reverse.length = st.opens.length := List.length_reverse
      have hd1 : 1 ≤ st.opens.length := List.length_pos_iff.2 Ho1.out
      have hp := rev_last Ho1.out
      have hec : (if beginsB f st.opens.length then st.colls ++ [⟨((i % 4 : Nat) : Int), 458752 + (i : Int), st.opens.headD (-1)⟩] else st.colls) = (stepM nb i st f).colls := rfl
      have hef : st.fields ++ [{ fdS nb f with parent := if beginsB f st.opens.length then (st.colls.length : Int) else st.opens.headD (-1), pos := bitsS st.fields (fdS nb f).kind (fdS nb f).report }] = (stepM nb i st f).fields := by
        unfold stepM
        cases beginsB f st.opens.length <;> rfl
      have he : (if endsB f (d1 f st.opens.length) then (if beginsB f st.opens.length then st.opens.reverse ++ [(st.colls.length : Int)] else st.opens.reverse).take (d1 f st.opens.length - 1) else (if beginsB f st.opens.length then st.opens.reverse ++ [(st.colls.length : Int)] else st.opens.reverse)) = (stepM nb i st f).opens.reverse := by
        unfold stepM d1
        cases beginsB f st.opens.length with
        | false =>
          simp only [Bool.false_eq_true, if_false]
          cases endsB f st.opens.length with
          | false => rfl
          | true => simp only [if_true]; exact rev_pop _
        | true =>
          simp only [if_true]
          rw [show st.opens.reverse ++ [(st.colls.length : Int)] = ((st.colls.length : Int) :: st.opens).reverse by simp]
          show (if endsB f ((st.colls.length : Int) :: st.opens).length then _ else _) = _
          cases endsB f ((st.colls.length : Int) :: st.opens).length with
          | false => rfl
          | true => simp only [if_true]; exact rev_pop ((st.colls.length : Int) :: st.opens)
      obtain ⟨olf, holf⟩ : ∃ l, (stepM nb i st f).opens.reverse = l := ⟨_, rfl⟩
      obtain ⟨flf, hflf⟩ : ∃ l, (stepM nb i st f).fields = l := ⟨_, rfl⟩
      obtain ⟨clf, hclf⟩ : ∃ l, (stepM nb i st f).colls = l := ⟨_, rfl⟩
      rw [holf] at he
      rw [hflf] at hef
      rw [hclf] at hec
      have Hfin := hide (show olf = (stepM nb i st f).opens.reverse ∧ flf = (stepM nb i st f).fields ∧ clf = (stepM nb i st f).colls from ⟨holf.symm, hflf.symm, hclf.symm⟩)
      have hfl := Hfo.out.2.2.2.2.2.2.2
      clear holf hflf hclf hFB hFBd hkV hkV0 hown hkq hul hdf dl0 dl1 lD
      refine q7 hMV hFX h7 hba hin hfl (by omega) hdd o2 hd1 hp (by omega) rfl (by omega) he hec Ho5.out rfl hef _ _ _ ?_ ?_ ?_
      · assumption
      · assumption
      clear hMV hFX hdd hd1 hp he hec hef HM
      intro s7 s26 s27 s28 s29 s30 s31 s32 s33 s34 s35 s36 s37 s38 s39 s40 s41 s42 s43 s44 s45 s46 s47 s48 s49 s50 s51 s52 s53 s54 s55 s56 s57 s58 s59 s60 s61 s62 s63 s64 s65 s66 s67 s68 s69 s70 s71 s72 s73 s74 s75 s76 s77 s78 s79 s80 s81 s82 s83 s84 s85 s86 s87 s88 s89 s90 s91 s92 s93 s94 s95 s96 s97 s98 s99 s100 s101 s102 s103 s104 s105 s106 s107 s108 s109 s110 s111 s112 s113 s114 s115 s116 s117 s118 s119 s120 s121 s122 s123 s124 s125 s126 s127 s128 s129 s130 s131 s132 s133 s134 s135 s136 s137 s138 s139 s140 s141 v' vf' vc' w' hM'
      have HM' := hide hM'
      clear hM'
      have hwi : IntKind.i64.wrap ((i : Int) + 1) = ((i + 1 : Nat) : Int) := by rw [IntKind.wrap_i64]; omega
      go_wp2_with fail
      go_roundg (gk - 1)
      case measure => have := Hgi.out; omega
      case rel =>
        refine ⟨i + 1, FB, v', vf', vc', by have := Hgi.out; omega, rfl, by first | rfl | go_num | (rw [hwi]), ?_⟩
        rw [Hst1.out, ← Hfin.out.1, ← Hfin.out.2.1, ← Hfin.out.2.2, show (nb && decide (0 < i + 1)) = nb by simp]
        exact HM'.out
    case neg =>
      have hi20 : i = min n 20 := by have := Hgi.out; omega
      have hSFs : st = SF := by rw [← Hst.out, ← HSF.out, Hld.out, hi20]
      have hNMs : (nb && decide (0 < i)) = NM := by rw [← HNM.out, Hld.out, hi20]
      rw [hSFs, hNMs] at hM
      obtain ⟨Af, cf, rfl, hf1, hf2⟩ := hM.fs.isSlice
      obtain ⟨Ac, cc, rfl, hc1, hc2⟩ := hM.cs.isSlice
      obtain ⟨fn, hfn⟩ : ∃ k, SF.fields.length = k := ⟨_, rfl⟩
      obtain ⟨cn, hcn⟩ : ∃ k, SF.colls.length = k := ⟨_, rfl⟩
      have hR := hM.toR
      rw [hfn, hcn] at hM hR
      rw [hfn] at hf1
      rw [hcn] at hc1
      have r0 : wr.cell? ⟨RB, 0, none⟩ = some (.slice none 0 0) := cell_heap hM.br (o := 0) rfl
      have r1 : wr.cell? ⟨RB, 1, none⟩ = some (.slice none 0 0) := cell_heap hM.br (o := 1) rfl
      have r2 : wr.cell? ⟨RB, 2, none⟩ = some (.bool false) := cell_heap hM.br (o := 2) rfl
      have fr0 := frozen_heap hM.br (o := 0)
      have fr1 := frozen_heap hM.br (o := 1)
      have fr2 := frozen_heap hM.br (o := 2)
      have lR := heap_lt hM.br
      have m0 : wr.cell? ⟨MB, 0, none⟩ = some (.slice Af fn cf) := cell_heap hM.bm (o := 0) rfl
      have m1 : wr.cell? ⟨MB, 1, none⟩ = some (.slice Ac cn cc) := cell_heap hM.bm (o := 1) rfl
      have m2 : wr.cell? ⟨MB, 2, none⟩ = some (.bool NM) := cell_heap hM.bm (o := 2) rfl
      have lM := heap_lt hM.bm
      have hRR := ((hR.set 0 (.slice Af fn cf)).set 1 (.slice Ac cn cc)).set 2 (.bool NM)
      have HRR := hide hRR
      have HRB := hide (show (((wr.setCell ⟨RB, 0, none⟩ (.slice Af fn cf)).setCell ⟨RB, 1, none⟩ (.slice Ac cn cc)).setCell ⟨RB, 2, none⟩ (.bool NM)).heap[RB]? = some (.cells #[.slice Af fn cf, .slice Ac cn cc, .bool NM] 40 (0, 0)) from heap_store (heap_store (heap_store hM.br _) _) _)
      have Hfn := hide hfn
      have Hcn := hide hcn
      have Hi := hide hi20
      clear hM hR hRR hfn hcn hi20 hSFs hNMs hlt
      by_cases hin : (i : Int) < (n : Int)
      case pos =>
        have hi20 : ¬ (i : Int) < 20 := by have := Hi.out; omega
        go_wp2_with fail
        refine bodyPost_ret (v := .agg #[.slice Af fn cf, .slice Ac cn cc, .bool NM]) (results_cell_row (P := Try.prog) rfl _ _ RB 40 _ (0, 0) _ (by rfl) HRB.out Try.underlying40 rfl (by kernel_rfl)) rfl ?_
        exact ⟨⟨Af, cf, Ac, cc, by rw [Hfn.out, Hcn.out], by rw [Hfn.out]; exact HRR.out.fields Hfn.out, by rw [Hcn.out]; exact HRR.out.colls Hcn.out, by rw [Hfn.out]; exact hf1, by rw [Hcn.out]; exact hc1, hf2, hc2⟩, HRR.out.kept⟩
      case neg =>
        go_wp2_with fail
        refine bodyPost_ret (v := .agg #[.slice Af fn cf, .slice Ac cn cc, .bool NM]) (results_cell_row (P := Try.prog) rfl _ _ RB 40 _ (0, 0) _ (by rfl) HRB.out Try.underlying40 rfl (by kernel_rfl)) rfl ?_
        exact ⟨⟨Af, cf, Ac, cc, by rw [Hfn.out, Hcn.out], by rw [Hfn.out]; exact HRR.out.fields Hfn.out, by rw [Hcn.out]; exact HRR.out.colls Hcn.out, by rw [Hfn.out]; exact hf1, by rw [Hcn.out]; exact hc1, hf2, hc2⟩, HRR.out.kept⟩
end Go.Proofs.Ytegdigfcgeoboaa
