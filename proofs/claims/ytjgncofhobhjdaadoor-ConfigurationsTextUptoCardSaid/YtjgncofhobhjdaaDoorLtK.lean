/- ConfigurationsText, walked. Printed by gen_lt.py. -/
import Derived.Test.YtjgncofhobhjdaaDoorChecked
import Derived.Deep.RegionHeld3
import Derived.Deep.DrawnRows
import Derived.Deep.DeepCutAuto
import Derived.Deep.LoopGhost
import Derived.Outline
import Derived.Handy
import Derived.OwnWalk
import Derived.BigQuiet
import Derived.Test.YtjgncofhobhjdaaDoorN14
import Derived.Test.YtjgncofhobhjdaaDoorN11
import Derived.Test.YtjgncofhobhjdaaDoorLuK
import Derived.Test.YtjgncofhobhjdaaDoorLmK
import Derived.Test.YtjgncofhobhjdaaDoorN15
set_option linter.unusedVariables false
set_option linter.unusedSimpArgs false
set_option linter.unusedSectionVars false
namespace Go.Proofs.YtjgncofhobhjdaaDoor
open Go.RowKit
attribute [local go_sem ↓] Go.wp_at_zero Go.wp_at_succ

theorem of_num (x : PC) (i j : Nat) (l : List Alt) (a : Alt) (h1 : (ofS x).ifs[i]? = some l) (h2 : l[j]? = some a) : a.d.num = i ∧ a.d.alt = j := by
  have h1' : (ofIfs x.ifs)[i]? = some l := h1
  unfold ofIfs at h1'
  rw [List.getElem?_mapIdx] at h1'
  obtain ⟨y, hy, rfl⟩ := Option.map_eq_some_iff.1 h1'
  rw [List.getElem?_mapIdx] at h2
  obtain ⟨z, hz, rfl⟩ := Option.map_eq_some_iff.1 h2
  exact ⟨rfl, rfl⟩
theorem app_nil8 (x : ByteArray) : x ++ B8 (wordW false sXSelf) = x := B8_inj (by simp [B8, wordW])
theorem namedW_len {n : Int} (h : u8k n) : (namedW n).length ≤ 40 := by
  have hl := itoa_30 h
  unfold namedW
  split
  · exact Nat.zero_le _
  · rw [List.length_append]
    have : sXText.length = 6 := rfl
    omega
set_option maxRecDepth 100000 in
set_option maxHeartbeats 16000000 in
theorem text_law (x : PC) (A : Option Addr) (cap : Nat) (w : World) (hC : PcIs w x A cap) (hx : x.ok) (hz : countP x.ifs ≤ 2000000) (hT : Tabs w) :
    Calls Tryd.prog 8 #[.agg (x.cells A cap).toArray] w fun e w' => e = .returned (.bool true) ∧ Kept w w' := by
  have HTw := hide hT
  have hnm := of_num x
  have hbg := fun w' (hk : Kept w w') => big_any x A cap w' (hC.kept hk) hz
  have hof := fun w' (hk : Kept w w') hb => of_plain x A cap w' (hC.kept hk) hb hx
  have hlv := fun w' (hk : Kept w w') => lives_any w' (hT.kept hk)
  obtain ⟨bg, hbgd⟩ : ∃ bg, bigS x = bg := ⟨_, rfl⟩
  have hsz := fun hb => of_size (x := x) hb hx
  have hch := fun hb => of_check (x := x) hb hx
  have hok := fun hb => of_ok (x := x) hb hx
  obtain ⟨C, hCd⟩ : ∃ C, ofS x = C := ⟨_, rfl⟩
  simp only [hbgd, hCd] at hbg hof hsz hch hok
  obtain ⟨nu, te, po, se, wa, L⟩ := x
  obtain ⟨n0, hn0⟩ : ∃ n0, L.length = n0 := ⟨_, rfl⟩
  unfold PC.cells at hbg hof ⊢
  simp only [hn0] at hbg hof ⊢
  rw [hCd] at hnm
  clear hC hx hz hT hn0 hbgd hCd
  go_enter Tryd.func8, Tryd.ntmps8
  go_upto_region 1 with (fail)
  refine wp_at (fun W => W.heap[w.heap.size]? = some (.cells #[.int .u8 nu, .int .u8 te, .int .u8 po, .bool se, .bool wa, .slice A n0 cap] 24 (0, 0)) ∧ Kept w W) ⟨heap_at _ rfl, by go_grown⟩ (fun W hW => ?_)
  obtain ⟨hI, hkW⟩ := hW
  obtain ⟨I0, hI0⟩ : ∃ I0, w.heap.size = I0 := ⟨_, rfl⟩
  rw [hI0] at hI
  simp only [hI0]
  have i0 := cell_heap hI (o := 0) rfl
  have i1 := cell_heap hI (o := 1) rfl
  have i2 := cell_heap hI (o := 2) rfl
  have i3 := cell_heap hI (o := 3) rfl
  have i4 := cell_heap hI (o := 4) rfl
  have i5 := cell_heap hI (o := 5) rfl
  have lI := heap_lt hI
  have HI := hide hI
  have HkW := hide hkW
  clear hI hkW hI0
  cases bg with
  | true =>
    clear hof hsz hch hok
    go_wp2_with (first
      | (go_at_call 12; refine (hbg _ HkW.out).mono ?_; rintro e w1 ⟨⟨k, rfl, hk0⟩, hk1⟩; have hkp : 0 < k := by simpa using hk0)
      | (go_at_call 13; refine (hlv _ (HkW.out.trans' hk1)).mono ?_; rintro e w2 ⟨rfl, hk2⟩))
    go_ret
    exact ⟨rfl, (HkW.out.trans' hk1).trans' hk2⟩
  | false =>
  replace hof := fun w' hk => hof w' hk rfl
  replace hsz := hsz rfl
  replace hch := hch rfl
  replace hok := hok rfl
  have hcc := check_of hch
  have htx : textS C = textL C := by unfold textS; rw [if_pos hch]
  have hszC : 9 + sumC C.ifs ≤ 3129 := hsz
  obtain ⟨D, IFS⟩ := C
  obtain ⟨n, hn⟩ : ∃ n, IFS.length = n := ⟨_, rfl⟩
  unfold Cfg.cells CfgD.cells at hof
  simp only [hn, List.cons_append, List.nil_append] at hof
  have hifs : D.ifs = (n : Int) := by rw [← hn]; exact hcc.ifs
  obtain ⟨⟨t0, t1⟩, ⟨a0, a1⟩, ⟨b0, b1⟩, ⟨c0, c1⟩, ⟨e0, e1⟩⟩ := id hok.1
  simp only at t0 t1 a0 a1 b0 b1 c0 c1 e0 e1
  have hn16 : n ≤ 16 := by rw [← hn]; exact hcc.many
  have Hn := hide hn
  have Hcc := hide hcc
  have Hok := hide hok
  have Htx := hide htx
  have Hsz := hide hsz
  have Hifs := hide hifs
  clear hok hch hsz hn hcc htx hifs
  go_upto_region 3 with (go_at_call 12; refine (hbg _ HkW.out).mono ?_; rintro e w1 ⟨⟨k, rfl, hk0⟩, hk1⟩; have hkp : k ≤ 0 := by simpa using hk0)
  have hI1 := heap_kept hk1 HI.out
  have j0 := cell_heap hI1 (o := 0) rfl; have j1 := cell_heap hI1 (o := 1) rfl; have j2 := cell_heap hI1 (o := 2) rfl; have j3 := cell_heap hI1 (o := 3) rfl; have j4 := cell_heap hI1 (o := 4) rfl; have j5 := cell_heap hI1 (o := 5) rfl
  have lJ := heap_lt hI1
  have hkw1 := HkW.out.trans' hk1
  clear hI1 HI i0 i1 i2 i3 i4 i5 lI hk1 hk0 hkp hbg
  go_upto_region 4 with (go_at_call 14; refine (hof _ hkw1).mono ?_; rintro e w2 ⟨⟨AX, cx, rfl, hcfg⟩, hk2⟩)
  refine wp_at (fun V => ∃ CB, V.heap[CB]? = some (.cells #[.int .u16 D.total, .int .u8 D.ifs, .int .u8 D.number, .int .u8 D.text, .bool D.self, .bool D.wake, .int .u8 D.power, .slice AX n cx] 32 (0, 0)) ∧ CB = w2.heap.size ∧ Kept w2 V) ⟨_, heap_at _ rfl, rfl, by go_grown⟩ (fun V hV => ?_)
  obtain ⟨CB, hCB, hCBd, hkV⟩ := hV
  rw [← hCBd]
  have hCV := hcfg.kept hkV
  have hkwV := (hkw1.trans' hk2).trans' hkV
  have htxc : ∀ w', Kept V w' → Calls Tryd.prog 21 #[.agg #[.int .u16 D.total, .int .u8 D.ifs, .int .u8 D.number, .int .u8 D.text, .bool D.self, .bool D.wake, .int .u8 D.power, .slice AX n cx]] w' (fun e w2 => e = .returned (.string (B8 (textL ⟨D, IFS⟩))) ∧ Kept w' w2) := fun w' hk => by
    have h := text_any ⟨D, IFS⟩ AX cx w' (hCV.kept hk) (by have := Hsz.out; omega) (HTw.out.kept (hkwV.trans' hk))
    unfold Cfg.cells CfgD.cells at h
    simp only [Hn.out, Htx.out, List.cons_append, List.nil_append] at h
    exact h
  have hcn := hCV.len
  have hcm := hCV.cap
  simp only at hcn
  rw [Hn.out] at hcn
  unfold maxLen at hcm
  have d0 := cell_heap hCB (o := 0) rfl
  have d1 := cell_heap hCB (o := 1) rfl
  have d2 := cell_heap hCB (o := 2) rfl
  have d3 := cell_heap hCB (o := 3) rfl
  have d4 := cell_heap hCB (o := 4) rfl
  have d5 := cell_heap hCB (o := 5) rfl
  have d6 := cell_heap hCB (o := 6) rfl
  have d7 := cell_heap hCB (o := 7) rfl
  have lC := heap_lt hCB
  have HTV := hide (HTw.out.kept hkwV)
  have HCB := hide hCB
  have HCV := hide hCV
  have HkwV := hide hkwV
  clear hCB hCBd hkV hcfg hk2 hkw1 hof hCV hkwV j0 j1 j2 j3 j4 j5 lJ
  have hTq : ∀ w', (∀ b o, b < V.heap.size → w'.cell? ⟨b, o, none⟩ = V.cell? ⟨b, o, none⟩) ∧ Below V.heap.size V w' → Tabs w' := fun w' h => HTV.out.kept h.2
  obtain ⟨S1, hS1⟩ : ∃ S1, B8 (Lib.itoa D.number) = S1 := ⟨_, rfl⟩
  obtain ⟨S2, hS2⟩ : ∃ S2, B8 (Lib.itoa (n : Int)) = S2 := ⟨_, rfl⟩
  obtain ⟨S3, hS3⟩ : ∃ S3, B8 (Lib.itoa D.total) = S3 := ⟨_, rfl⟩
  obtain ⟨S4, hS4⟩ : ∃ S4, B8 (Lib.itoa (2 * D.power)) = S4 := ⟨_, rfl⟩
  have z1 : S1.size ≤ 30 := by rw [← hS1]; exact itoa_30w (n := D.number) (by omega) (by omega)
  have z2 : S2.size ≤ 30 := by rw [← hS2]; exact itoa_30w (n := (n : Int)) (by omega) (by omega)
  have z3 : S3.size ≤ 30 := by rw [← hS3]; exact itoa_30w (n := D.total) (by omega) (by omega)
  have z4 : S4.size ≤ 30 := by rw [← hS4]; exact itoa_30w (n := 2 * D.power) (by omega) (by omega)
  have hN1 := fun w' (h : Tabs w') => numberw_any D.number w' (by omega) (by omega) h
  have hN2 := fun w' (h : Tabs w') => number_any (n : Int) w' (by omega) (by omega) h
  have hN3 := fun w' (h : Tabs w') => numberw_any D.total w' (by omega) (by omega) h
  have hw4 : IntKind.i64.wrap (2 * IntKind.i64.wrap D.power) = IntKind.i64.wrap (2 * D.power) := by rw [IntKind.wrap_i64, IntKind.wrap_i64, IntKind.wrap_i64]; omega
  have hN4 := fun w' (h : Tabs w') => numberw_any (2 * D.power) w' (by omega) (by omega) h
  rw [hS1] at hN1
  rw [hS2] at hN2
  rw [hS3] at hN3
  rw [← hw4, hS4] at hN4
  have HS := hide (And.intro hS1 (And.intro hS2 (And.intro hS3 hS4)))
  clear hS1 hS2 hS3 hS4 hw4
  have f0 : ¬ 9223372036854775807 < 14 + S1.size := by omega
  have f1 : ¬ 9223372036854775807 < 14 + S1.size + 12 := by omega
  have f2 : ¬ 9223372036854775807 < 14 + S1.size + 12 + S2.size := by omega
  have f3 : ¬ 9223372036854775807 < 14 + S1.size + 12 + S2.size + 7 := by omega
  have f4 : ¬ 9223372036854775807 < 14 + S1.size + 12 + S2.size + 7 + S3.size := by omega
  have f5 : ¬ 9223372036854775807 < 14 + S1.size + 12 + S2.size + 7 + S3.size + 9 := by omega
  have f6 : ¬ 9223372036854775807 < 14 + S1.size + 12 + S2.size + 7 + S3.size + 9 + S4.size := by omega
  go_region_held3 (fun w' => (∀ b o, b < V.heap.size → w'.cell? ⟨b, o, none⟩ = V.cell? ⟨b, o, none⟩) ∧ Below V.heap.size V w') (first | assumption | exact since_start | exact since_keep (by assumption) (Nat.le_refl _) hk) ((go_at_call 23; (first | refine (hN1 _ (hTq _ (by assumption))).mono ?_ | refine (hN2 _ (hTq _ (by assumption))).mono ?_ | refine (hN3 _ (hTq _ (by assumption))).mono ?_ | refine (hN4 _ (hTq _ (by assumption))).mono ?_); rintro e w5 ⟨rfl, hk⟩))
  have hk5 : Kept V w5 := ((by assumption : (∀ b o, b < V.heap.size → w5.cell? ⟨b, o, none⟩ = V.cell? ⟨b, o, none⟩) ∧ Below V.heap.size V w5)).2
  obtain ⟨T1, hT1⟩ : ∃ T1, B8 sXCfg ++ S1 ++ B8 sXIfs ++ S2 ++ B8 sXBytes ++ S3 ++ B8 sXCur ++ S4 ++ B8 (wordW D.self sXSelf) = T1 := ⟨_, rfl⟩
  obtain ⟨T2, hT2⟩ : ∃ T2, T1 ++ B8 (wordW D.wake sXWake) = T2 := ⟨_, rfl⟩
  obtain ⟨S5, hS5⟩ : ∃ S5, B8 (namedW D.text) = S5 := ⟨_, rfl⟩
  have y1 : T1.size ≤ 200 := by
    rw [← hT1]
    simp only [ByteArray.size_append, B8_size]
    have h1 : sXCfg.length = 14 := rfl
    have h2 : sXIfs.length = 12 := rfl
    have h3 : sXBytes.length = 7 := rfl
    have h4 : sXCur.length = 9 := rfl
    have h5 : (wordW D.self sXSelf).length ≤ 5 := by unfold wordW; split <;> decide
    omega
  have y2 : T2.size ≤ 220 := by
    rw [← hT2]
    simp only [ByteArray.size_append, B8_size]
    have h5 : (wordW D.wake sXWake).length ≤ 7 := by unfold wordW; split <;> decide
    omega
  have y5 : S5.size ≤ 40 := by rw [← hS5]; exact namedW_len ⟨c0, c1⟩
  have hfin : T2 ++ (S5 ++ B8 [10]) = B8 (lawCfg D) := by
    obtain ⟨h1, h2, h3, h4⟩ := HS.out
    rw [← hT2, ← hT1, ← hS5, ← h1, ← h2, ← h3, ← h4]
    simp only [B8_app]
    unfold lawCfg
    rw [Hifs.out]
    simp only [List.append_assoc]
  have hNm := fun w' (h : Tabs w') => named_any D.text w' ⟨c0, c1⟩ h
  rw [hS5] at hNm
  have HT1 := hide hT1
  have HT2 := hide hT2
  have Hfin := hide hfin
  have hC5 := heap_kept hk5 HCB.out
  clear hT1 hT2 hS5 hfin d0 d1 d2 d3 d4 d5 d6 d7 lC f0 f1 f2 f3 f4 f5 f6 hN1 hN2 hN3 hN4
  have d3 := cell_heap hC5 (o := 3) rfl
  have d4 : w5.cell? ⟨CB, 4, none⟩ = some (.bool D.self) := cell_heap hC5 (o := 4) rfl
  have d5 : w5.cell? ⟨CB, 5, none⟩ = some (.bool D.wake) := cell_heap hC5 (o := 5) rfl
  have lC := heap_lt hC5
  have hkT := HTV.out.kept hk5
  clear hC5
  have g1 : ¬ 9223372036854775807 < 14 + S1.size + 12 + S2.size + 7 + S3.size + 9 + S4.size + 5 := by omega
  have g2 : ¬ 9223372036854775807 < T1.size + 7 := by omega
  have g3 : ¬ 9223372036854775807 < S5.size + 1 := by omega
  have g4 : ¬ 9223372036854775807 < T2.size + (S5.size + 1) := by omega
  go_upto_if 47 with (fail)
  go_cut [4] (fun s4 wc => wc = w5 ∧ s4 = .string T1)
  case first =>
    obtain ⟨bs, hbs⟩ : ∃ bs, D.self = bs := ⟨_, rfl⟩
    rw [hbs] at d4 HT1 ⊢
    clear hbs
    cases bs with
    | true =>
      go_wp2_with fail
      go_meet
      exact ⟨rfl, congrArg Value.string HT1.out⟩
    | false =>
      have HT1' := hide (show B8 sXCfg ++ S1 ++ B8 sXIfs ++ S2 ++ B8 sXBytes ++ S3 ++ B8 sXCur ++ S4 = T1 by rw [← HT1.out]; exact (app_nil8 _).symm)
      go_wp2_with fail
      go_meet
      exact ⟨rfl, congrArg Value.string HT1'.out⟩
  case rest =>
  obtain ⟨hwc, rfl⟩ := hcut
  subst hwc
  rename World => w5
  clear g1 z1 z2 z3 z4
  go_upto_if 52 with (fail)
  go_cut [4] (fun s4 wc => wc = w5 ∧ s4 = .string T2)
  case first =>
    obtain ⟨bs, hbs⟩ : ∃ bs, D.wake = bs := ⟨_, rfl⟩
    rw [hbs] at d5 HT2 ⊢
    clear hbs
    cases bs with
    | true =>
      go_wp2_with fail
      go_meet
      exact ⟨rfl, congrArg Value.string HT2.out⟩
    | false =>
      have HT2' := hide (show T1 = T2 by rw [← HT2.out]; exact (app_nil8 _).symm)
      go_wp2_with fail
      go_meet
      exact ⟨rfl, congrArg Value.string HT2'.out⟩
  case rest =>
  obtain ⟨hwc, rfl⟩ := hcut
  subst hwc
  rename World => w5
  have hcl : (lawCfg D).length ≤ 400 := by rw [← lawCfg_eq c0]; exact cfgLine_len Hok.out.1
  have Hf2 := Hfin.out
  rw [show B8 [10] = (⟨#[10]⟩ : ByteArray) from rfl] at Hf2
  have HF2 := hide Hf2
  clear Hf2
  go_upto_region 9 with (fail)
  refine cfg_end lC d3 (hNm _ hkT) (by omega) (by omega) HF2.out _ ?_
  intro s55 s56 s57 s58 s59 s60 s61 w6 hk6
  try dsimp only [Exit.then]
  refine (show ∀ (a : Act) (w : World), Code.wp Tryd.prog _ _ a w → _ from by assumption) _ _ ?_
  exact text_rest HkwV.out (hk5.trans' hk6) HTV.out HCB.out HCV.out Hn.out Hok.out Hcc.out hszC hnm hlv htxc hcl
end Go.Proofs.YtjgncofhobhjdaaDoor
