/- ConfigurationsBack, walked. Printed by gen_la.py. -/
import Derived.Test.YtjgncofhobhjdaaDoorChecked
import Derived.Deep.RegionHeld3
import Derived.Deep.DrawnRows
import Derived.Deep.DeepCutAuto
import Derived.Deep.LoopGhost
import Derived.Outline
import Derived.Handy
import Derived.OwnWalk
import Derived.BigQuiet
import Derived.Test.YtjgncofhobhjdaaDoorN17
import Derived.Test.YtjgncofhobhjdaaDoorN11
import Derived.Test.YtjgncofhobhjdaaDoorN1
set_option linter.unusedVariables false
set_option linter.unusedSimpArgs false
set_option linter.unusedSectionVars false
namespace Go.Proofs.YtjgncofhobhjdaaDoor
open Go.RowKit
attribute [local go_sem ↓] Go.wp_at_zero Go.wp_at_succ

theorem small_valid {C : Cfg} (h : checkS C = 0) : SmallE C := by
  intro l hl a ha e he
  have h1 := (check_of h).valid.alts l hl a ha
  unfold altOk at h1
  rw [Bool.and_eq_true] at h1
  have := okEp_num (List.all_eq_true.1 h1.2 e he)
  omega
theorem rawCfg_u8 {d : CfgD} (h : d.ok) : ∀ z ∈ rawCfg d, u8k z := by
  obtain ⟨⟨t0, t1⟩, ⟨a0, a1⟩, ⟨b0, b1⟩, ⟨c0, c1⟩, ⟨e0, e1⟩⟩ := h
  have hs : 0 ≤ attrS d ∧ attrS d < 256 := by unfold attrS; split <;> split <;> omega
  intro z hz
  unfold rawCfg at hz
  unfold u8k
  simp only [List.mem_cons, List.not_mem_nil, or_false] at hz
  rcases hz with rfl | rfl | rfl | rfl | rfl | rfl | rfl | rfl | rfl <;> omega
theorem rawIf_u8 {d : IfD} (h : d.ok) : ∀ z ∈ rawIf d, u8k z := by
  obtain ⟨⟨t0, t1⟩, ⟨a0, a1⟩, ⟨b0, b1⟩, ⟨c0, c1⟩, ⟨e0, e1⟩, ⟨f0, f1⟩, ⟨g0, g1⟩⟩ := h
  intro z hz
  unfold rawIf at hz
  unfold u8k
  simp only [List.mem_cons, List.not_mem_nil, or_false] at hz
  rcases hz with rfl | rfl | rfl | rfl | rfl | rfl | rfl | rfl | rfl <;> omega
theorem rawEp_u8 {e : EpD} (h : e.ok) : ∀ z ∈ rawEp e, u8k z := by
  have ha := addr_u8 h
  obtain ⟨⟨t0, t1⟩, ⟨a0, a1⟩, ⟨b0, b1⟩, ⟨c0, c1⟩⟩ := h
  obtain ⟨h0, h1⟩ := ha
  intro z hz
  unfold rawEp at hz
  unfold u8k
  simp only [List.mem_cons, List.not_mem_nil, or_false] at hz
  rcases hz with rfl | rfl | rfl | rfl | rfl | rfl | rfl <;> omega
theorem told_u8 {C : Cfg} (h : C.ok) : ∀ z ∈ toldS C, u8k z := by
  intro z hz
  unfold toldS rawI rawAlt at hz
  rcases List.mem_append.1 hz with hz | hz
  · exact rawCfg_u8 h.1 z hz
  · obtain ⟨l, hl, hz⟩ := List.mem_flatMap.1 hz
    obtain ⟨a, ha, hz⟩ := List.mem_flatMap.1 hz
    have hok := h.2 l hl a ha
    rcases List.mem_append.1 hz with hz | hz
    · rcases List.mem_append.1 hz with hz | hz
      · exact rawIf_u8 hok.1 z hz
      · exact hok.2.1 z hz
    · obtain ⟨e, he, hz⟩ := List.mem_flatMap.1 hz
      exact rawEp_u8 (hok.2.2 e he) z hz
noncomputable def code3 : Code := (Tryd.f3.body.bind (findR 6)).getD .skip
noncomputable def ops3 : Array Oper := opsOf (headC code3)
set_option maxRecDepth 100000 in
set_option maxHeartbeats 16000000 in
theorem back_law (x : PC) (A : Option Addr) (cap : Nat) (w : World) (hC : PcIs w x A cap) (hx : x.ok) (hz : countP x.ifs ≤ 2000000) (hT : Tabs w) :
    Calls Tryd.prog 3 #[.agg (x.cells A cap).toArray] w fun e w' => e = .returned (.bool true) ∧ Kept w w' := by
  have hbg := fun w' (hk : Kept w w') => big_any x A cap w' (hC.kept hk) hz
  have hof := fun w' (hk : Kept w w') hb => of_plain x A cap w' (hC.kept hk) hb hx
  have hlv := fun w' (hk : Kept w w') => lives_any w' (hT.kept hk)
  obtain ⟨bg, hbgd⟩ : ∃ bg, bigS x = bg := ⟨_, rfl⟩
  have hsz := fun hb => of_size (x := x) hb hx
  have hch := fun hb => of_check (x := x) hb hx
  have hok := fun hb => of_ok (x := x) hb hx
  obtain ⟨C, hCd⟩ : ∃ C, ofS x = C := ⟨_, rfl⟩
  simp only [hbgd, hCd] at hbg hof hsz hch hok
  obtain ⟨nu, te, po, se, wa, L⟩ := x
  obtain ⟨n0, hn0⟩ : ∃ n0, L.length = n0 := ⟨_, rfl⟩
  unfold PC.cells at hbg hof ⊢
  simp only [hn0] at hbg hof ⊢
  clear hC hx hz hT hn0 hbgd hCd
  go_enter Tryd.func3, Tryd.ntmps3
  go_upto_region 1 with (fail)
  refine wp_at (fun W => W.heap[w.heap.size]? = some (.cells #[.int .u8 nu, .int .u8 te, .int .u8 po, .bool se, .bool wa, .slice A n0 cap] 24 (0, 0)) ∧ Kept w W) ⟨heap_at _ rfl, by go_grown⟩ (fun W hW => ?_)
  obtain ⟨hI, hkW⟩ := hW
  obtain ⟨I0, hI0⟩ : ∃ I0, w.heap.size = I0 := ⟨_, rfl⟩
  rw [hI0] at hI
  simp only [hI0]
  have i0 := cell_heap hI (o := 0) rfl
  have i1 := cell_heap hI (o := 1) rfl
  have i2 := cell_heap hI (o := 2) rfl
  have i3 := cell_heap hI (o := 3) rfl
  have i4 := cell_heap hI (o := 4) rfl
  have i5 := cell_heap hI (o := 5) rfl
  have lI := heap_lt hI
  have HI := hide hI
  have HkW := hide hkW
  clear hI hkW hI0
  cases bg with
  | true =>
    clear hof hsz hch hok
    go_wp2_with (first
      | (go_at_call 12; refine (hbg _ HkW.out).mono ?_; rintro e w1 ⟨⟨k, rfl, hk0⟩, hk1⟩; have hkp : 0 < k := by simpa using hk0)
      | (go_at_call 13; refine (hlv _ (HkW.out.trans' hk1)).mono ?_; rintro e w2 ⟨rfl, hk2⟩))
    go_ret
    exact ⟨rfl, (HkW.out.trans' hk1).trans' hk2⟩
  | false =>
  replace hof := fun w' hk => hof w' hk rfl
  replace hsz := hsz rfl
  replace hch := hch rfl
  replace hok := hok rfl
  have hbt : bytesS C = toldS C := bytes_told (check_of hch).valid
  have hpb : parseC (toldS C) = some C := by rw [← hbt]; exact parse_bytes hch hok
  have hpe : encB C = toldS C := by unfold encB; rw [if_pos hch, hbt]
  have hun : ∀ z ∈ toldS C, u8k z := told_u8 hok
  have hln : (toldS C).length ≤ 4096 := by rw [← hbt, bytes_len (check_of hch).valid]; exact (check_of hch).size
  obtain ⟨D, IFS⟩ := C
  obtain ⟨n, hn⟩ : ∃ n, IFS.length = n := ⟨_, rfl⟩
  unfold Cfg.cells CfgD.cells at hof
  simp only [hn, List.cons_append, List.nil_append] at hof
  obtain ⟨tl, htl⟩ : ∃ tl, toldS ⟨D, IFS⟩ = tl := ⟨_, rfl⟩
  rw [htl] at hbt hpb hpe hun hln
  have Hok := hide hok
  have Hch := hide hch
  have Hsz := hide hsz
  have Htl := hide htl
  have Hn := hide hn
  have Hpb := hide hpb
  have Hpe := hide hpe
  have Hun := hide hun
  clear hok hch hsz htl hn hbt hpb hpe hun
  go_upto_region 3 with (go_at_call 12; refine (hbg _ HkW.out).mono ?_; rintro e w1 ⟨⟨k, rfl, hk0⟩, hk1⟩; have hkp : k ≤ 0 := by simpa using hk0)
  have hI1 := heap_kept hk1 HI.out
  have j0 := cell_heap hI1 (o := 0) rfl; have j1 := cell_heap hI1 (o := 1) rfl; have j2 := cell_heap hI1 (o := 2) rfl; have j3 := cell_heap hI1 (o := 3) rfl; have j4 := cell_heap hI1 (o := 4) rfl; have j5 := cell_heap hI1 (o := 5) rfl
  have lJ := heap_lt hI1
  have hkw1 := HkW.out.trans' hk1
  clear hI1 HI i0 i1 i2 i3 i4 i5 lI hk1 hk0 hkp hbg
  go_upto_region 4 with (go_at_call 14; refine (hof _ hkw1).mono ?_; rintro e w2 ⟨⟨AX, cx, rfl, hcfg⟩, hk2⟩)
  refine wp_at (fun V => ∃ CB, V.heap[CB]? = some (.cells #[.int .u16 D.total, .int .u8 D.ifs, .int .u8 D.number, .int .u8 D.text, .bool D.self, .bool D.wake, .int .u8 D.power, .slice AX n cx] 32 (0, 0)) ∧ CB = w2.heap.size ∧ Kept w2 V) ⟨_, heap_at _ rfl, rfl, by go_grown⟩ (fun V hV => ?_)
  obtain ⟨CB, hCB, hCBd, hkV⟩ := hV
  rw [← hCBd]
  have hCV := hcfg.kept hkV
  have hkwV := (hkw1.trans' hk2).trans' hkV
  obtain ⟨S0, hS0⟩ : ∃ S0, strB tl = S0 := ⟨_, rfl⟩
  have henc : ∀ w', Kept V w' → Calls Tryd.prog 15 #[.agg #[.int .u16 D.total, .int .u8 D.ifs, .int .u8 D.number, .int .u8 D.text, .bool D.self, .bool D.wake, .int .u8 D.power, .slice AX n cx]] w' (fun e w2 => (∃ A' n', e = .returned (.tuple #[.slice A' n' n', .int .i64 0]) ∧ Sl u8T w2 (fun b => w'.heap.size ≤ b ∧ b < w2.heap.size) A' n' tl) ∧ Kept w' w2) := fun w' hk => by
    have h := encode_any ⟨D, IFS⟩ AX cx w' (hCV.kept hk) (by have := Hsz.out; omega)
    unfold Cfg.cells CfgD.cells at h
    simp only [Hn.out, Hpe.out, Hch.out, List.cons_append, List.nil_append] at h
    exact h
  have htd : ∀ B c' w', CfgIs w' (low w'.heap.size) ⟨D, IFS⟩ B c' → Calls Tryd.prog 17 #[.agg #[.int .u16 D.total, .int .u8 D.ifs, .int .u8 D.number, .int .u8 D.text, .bool D.self, .bool D.wake, .int .u8 D.power, .slice B n c']] w' (fun e w2 => e = .returned (.string S0) ∧ Kept w' w2) := fun B c' w' hc => by
    have h := told_any ⟨D, IFS⟩ B c' w' hc (by have := Hsz.out; omega) (small_valid Hch.out)
    unfold Cfg.cells CfgD.cells at h
    simp only [Hn.out, Htl.out, hS0, List.cons_append, List.nil_append] at h
    exact h
  have hpa : ∀ P c' w', tl.length ≤ c' → c' ≤ maxLen → Sl u8T w' (low w'.heap.size) P tl.length tl → Calls Tryd.prog 16 #[.slice P tl.length c'] w' (fun e w2 => (∃ A', e = .returned (.tuple #[.agg #[.int .u16 D.total, .int .u8 D.ifs, .int .u8 D.number, .int .u8 D.text, .bool D.self, .bool D.wake, .int .u8 D.power, .slice A' n n], .int .i64 0]) ∧ CfgIs w2 (low w2.heap.size) ⟨D, IFS⟩ A' n) ∧ Kept w' w2) := fun P c' w' h1 h2 h3 => by
    have h := parse_any P tl.length c' tl w' h1 h2 h3
    unfold ParsePost at h
    rw [Hpb.out] at h
    unfold Cfg.cells CfgD.cells at h
    simp only [Hn.out, List.cons_append, List.nil_append] at h
    exact h.mono fun e w2 ⟨⟨A', he, hc⟩, hk⟩ => ⟨⟨A', he, hc.keep (fun b hb => hb.2) (fun _ _ _ => rfl)⟩, hk⟩
  have hcc : ∀ B c' w', CfgIs w' (low w'.heap.size) ⟨D, IFS⟩ B c' → Calls Tryd.prog 19 #[.agg #[.int .u16 D.total, .int .u8 D.ifs, .int .u8 D.number, .int .u8 D.text, .bool D.self, .bool D.wake, .int .u8 D.power, .slice B n c']] w' (fun e w2 => e = .returned (.int .i64 0) ∧ Kept w' w2) := fun B c' w' hc => by
    have h := check_any ⟨D, IFS⟩ B c' w' hc (by have := Hsz.out; omega)
    unfold Cfg.cells CfgD.cells at h
    simp only [Hn.out, Hch.out, List.cons_append, List.nil_append] at h
    exact h
  have hsm : ∀ B c1 E c2 w', CfgIs w' (low w'.heap.size) ⟨D, IFS⟩ B c1 → CfgIs w' (low w'.heap.size) ⟨D, IFS⟩ E c2 → Calls Tryd.prog 18 #[.agg #[.int .u16 D.total, .int .u8 D.ifs, .int .u8 D.number, .int .u8 D.text, .bool D.self, .bool D.wake, .int .u8 D.power, .slice B n c1], .agg #[.int .u16 D.total, .int .u8 D.ifs, .int .u8 D.number, .int .u8 D.text, .bool D.self, .bool D.wake, .int .u8 D.power, .slice E n c2]] w' (fun e w2 => e = .returned (.bool true) ∧ Kept w' w2) := fun B c1 E c2 w' h1 h2 => by
    have h := same_any ⟨D, IFS⟩ ⟨D, IFS⟩ B E c1 c2 w' h1 h2
    unfold Cfg.cells CfgD.cells at h
    simp only [Hn.out, (sameS_iff _ _).2 rfl, List.cons_append, List.nil_append] at h
    exact h
  have d0 := cell_heap hCB (o := 0) rfl
  have d1 := cell_heap hCB (o := 1) rfl
  have d2 := cell_heap hCB (o := 2) rfl
  have d3 := cell_heap hCB (o := 3) rfl
  have d4 := cell_heap hCB (o := 4) rfl
  have d5 := cell_heap hCB (o := 5) rfl
  have d6 := cell_heap hCB (o := 6) rfl
  have d7 := cell_heap hCB (o := 7) rfl
  have lC := heap_lt hCB
  have HCB := hide hCB
  have HCV := hide hCV
  have HkwV := hide hkwV
  have HS0 := hide hS0
  clear hCB hCBd hkV hcfg hk2 hkw1 hof hS0 hCV hkwV j0 j1 j2 j3 j4 j5 lJ
  have hlm : tl.length ≤ maxLen := by unfold maxLen; omega
  go_upto_region 5 with (go_at_call 15; refine (henc _ (Below.refl _ _)).mono ?_; rintro e w3 ⟨⟨A1, n1, rfl, hs1⟩, hk3⟩)
  have hCB3 := heap_kept hk3 HCB.out
  have hs13 : Sl u8T w3 (low w3.heap.size) A1 n1 tl := hs1.keep (fun b hb => hb.2) (fun _ _ _ => rfl)
  clear hs1 d0 d1 d2 d3 d4 d5 d6 d7 lC henc
  have d0 := cell_heap hCB3 (o := 0) rfl
  have d1 := cell_heap hCB3 (o := 1) rfl
  have d2 := cell_heap hCB3 (o := 2) rfl
  have d3 := cell_heap hCB3 (o := 3) rfl
  have d4 := cell_heap hCB3 (o := 4) rfl
  have d5 := cell_heap hCB3 (o := 5) rfl
  have d6 := cell_heap hCB3 (o := 6) rfl
  have d7 := cell_heap hCB3 (o := 7) rfl
  have lC := heap_lt hCB3
  have HCB3 := hide hCB3
  have Hs1 := hide hs13
  have Hk3 := hide hk3
  have Hc3 := hide (HCV.out.kept hk3)
  clear hCB3 hs13 hk3
  go_upto_region 6 with (first
    | (go_at_call 17; refine (htd _ _ _ Hc3.out).mono ?_; rintro e w4 ⟨rfl, hk4⟩; obtain ⟨cp, w5, hrun, ⟨rr, fr, hrow, hrl, hfr⟩, hc1, hc2, hk5⟩ := str_sl tl w4 Hun.out hlm; rw [HS0.out] at hrun; have Hrow := hide hrow; clear hrow hrl hfr)
    | (go_at_call 16; refine (hpa _ _ _ hc1 hc2 (sl_of_cells Hrow.out (heap_lt Hrow.out) Hun.out)).mono ?_; rintro e w6 ⟨⟨A2, rfl, hd⟩, hk6⟩))
  refine wp_at (fun V => ∃ DB, V.heap[DB]? = some (.cells #[.int .u16 D.total, .int .u8 D.ifs, .int .u8 D.number, .int .u8 D.text, .bool D.self, .bool D.wake, .int .u8 D.power, .slice A2 n n] 32 (0, 0)) ∧ DB = w6.heap.size ∧ Kept w6 V) ⟨_, heap_at _ rfl, rfl, by go_grown⟩ (fun Y hY => ?_)
  obtain ⟨DB, hDB, hDBd, hkY⟩ := hY
  rw [← hDBd]
  have hk3Y : Kept w3 Y := ((hk4.trans' hk5).trans' hk6).trans' hkY
  have hcY := Hc3.out.kept hk3Y
  have hdY := hd.kept hkY
  have hs1Y := Hs1.out.kept hk3Y
  have hcv := fun w' (hk : Kept Y w') => conv_sl n1 hs1Y hk
  rw [HS0.out] at hcv
  have hCBY := heap_kept hk3Y HCB3.out
  have hkwY := (HkwV.out.trans' Hk3.out).trans' hk3Y
  clear d0 d1 d2 d3 d4 d5 d6 d7 lC hrun hk4 hk5 hk6 hkY hd hDBd hs1Y Hrow hc1 hc2
  have d0 := cell_heap hCBY (o := 0) rfl
  have d1 := cell_heap hCBY (o := 1) rfl
  have d2 := cell_heap hCBY (o := 2) rfl
  have d3 := cell_heap hCBY (o := 3) rfl
  have d4 := cell_heap hCBY (o := 4) rfl
  have d5 := cell_heap hCBY (o := 5) rfl
  have d6 := cell_heap hCBY (o := 6) rfl
  have d7 := cell_heap hCBY (o := 7) rfl
  have f0 := cell_heap hDB (o := 0) rfl
  have f1 := cell_heap hDB (o := 1) rfl
  have f2 := cell_heap hDB (o := 2) rfl
  have f3 := cell_heap hDB (o := 3) rfl
  have f4 := cell_heap hDB (o := 4) rfl
  have f5 := cell_heap hDB (o := 5) rfl
  have f6 := cell_heap hDB (o := 6) rfl
  have f7 := cell_heap hDB (o := 7) rfl
  have lC := heap_lt hCBY
  have lD := heap_lt hDB
  have HcY := hide hcY
  have HdY := hide hdY
  have HkwY := hide hkwY
  have hstart : ((∀ b o, b < Y.heap.size → Y.drew.cell? ⟨b, o, none⟩ = Y.cell? ⟨b, o, none⟩) ∧ Below Y.heap.size Y Y.drew) ∧ (convert 34 9 (.slice A1 n1 n1)).run Tryd.prog Y.drew = .ok (.string S0) Y.drew := ⟨since_start, hcv _ (Below.refl _ _).drew⟩
  have hstep : ∀ w' w1, ((∀ b o, b < Y.heap.size → w'.cell? ⟨b, o, none⟩ = Y.cell? ⟨b, o, none⟩) ∧ Below Y.heap.size Y w') ∧ (convert 34 9 (.slice A1 n1 n1)).run Tryd.prog w' = .ok (.string S0) w' → Kept w' w1 → ((∀ b o, b < Y.heap.size → w1.cell? ⟨b, o, none⟩ = Y.cell? ⟨b, o, none⟩) ∧ Below Y.heap.size Y w1) ∧ (convert 34 9 (.slice A1 n1 n1)).run Tryd.prog w1 = .ok (.string S0) w1 := fun w' w1 h hk => by
    have h2 := since_keep h.1 (Nat.le_refl _) hk
    exact ⟨h2, hcv _ h2.2⟩
  clear hCBY hDB hcY hdY hkwY hcv hpa
  have hgc : ∀ w', ((∀ b o, b < Y.heap.size → w'.cell? ⟨b, o, none⟩ = Y.cell? ⟨b, o, none⟩) ∧ Below Y.heap.size Y w') ∧ (convert 34 9 (.slice A1 n1 n1)).run Tryd.prog w' = .ok (.string S0) w' → CfgIs w' (low w'.heap.size) ⟨D, IFS⟩ AX cx := fun w' h => HcY.out.kept h.1.2
  have hgd : ∀ w', ((∀ b o, b < Y.heap.size → w'.cell? ⟨b, o, none⟩ = Y.cell? ⟨b, o, none⟩) ∧ Below Y.heap.size Y w') ∧ (convert 34 9 (.slice A1 n1 n1)).run Tryd.prog w' = .ok (.string S0) w' → CfgIs w' (low w'.heap.size) ⟨D, IFS⟩ A2 n := fun w' h => HdY.out.kept h.1.2
  have hgl : ∀ w', ((∀ b o, b < Y.heap.size → w'.cell? ⟨b, o, none⟩ = Y.cell? ⟨b, o, none⟩) ∧ Below Y.heap.size Y w') ∧ (convert 34 9 (.slice A1 n1 n1)).run Tryd.prog w' = .ok (.string S0) w' → Calls Tryd.prog 13 #[] w' (fun e w2 => e = .returned (.bool true) ∧ Kept w' w2) := fun w' h => hlv w' (HkwY.out.trans' h.1.2)
  refine wp_region_held_named (ops' := ops3) (n := 41) (S := fun w' => ((∀ b o, b < Y.heap.size → w'.cell? ⟨b, o, none⟩ = Y.cell? ⟨b, o, none⟩) ∧ Below Y.heap.size Y w') ∧ (convert 34 9 (.slice A1 n1 n1)).run Tryd.prog w' = .ok (.string S0) w') (by kernel_rfl) (by kernel_rfl) (by kernel_rfl) hstart (fun hS => ?_)
  have ho : ops3[0]? = some (opAt ops3 0) := by kernel_rfl
  conv at ho => rhs; arg 1; whnf
  refine wpAnyH_take (i := 0) (v := ?_) ho (by kernel_rfl) (by kernel_rfl) (by kernel_rfl) (fun _ _ _ h => h) (Or.inl ⟨by kernel_rfl, ?_⟩) hS ?_
  clear ho
  rotate_left
  · intro w' hS'
    have hq := hS'.1
    have hq2 := hS'.2
    clear hS'
    first | (go_simp; done) | (go_simp; with_reducible rfl)
  try clear ho
  try simp only [Act.put, List.getElem_toArray, List.getElem_cons_zero, List.getElem_cons_succ, List.setIfInBounds_toArray, List.set_cons_zero, List.set_cons_succ]
  have ho : ops3[1]? = some (opAt ops3 1) := by kernel_rfl
  conv at ho => rhs; arg 1; whnf
  refine wpAnyH_take (i := 1) (v := ?_) ho (by kernel_rfl) (by kernel_rfl) (by kernel_rfl) (fun _ _ _ h => h) (Or.inl ⟨by kernel_rfl, ?_⟩) hS ?_
  clear ho
  rotate_left
  · intro w' hS'
    have hq := hS'.1
    have hq2 := hS'.2
    clear hS'
    first | (go_simp; done) | (go_simp; with_reducible rfl)
  try clear ho
  try simp only [Act.put, List.getElem_toArray, List.getElem_cons_zero, List.getElem_cons_succ, List.setIfInBounds_toArray, List.set_cons_zero, List.set_cons_succ]
  have ho : ops3[2]? = some (opAt ops3 2) := by kernel_rfl
  conv at ho => rhs; arg 1; whnf
  refine wpAnyH_take (i := 2) (v := ?_) ho (by kernel_rfl) (by kernel_rfl) (by kernel_rfl) (fun _ _ _ h => h) (Or.inl ⟨by kernel_rfl, ?_⟩) hS ?_
  clear ho
  rotate_left
  · intro w' hS'
    have hq := hS'.1
    have hq2 := hS'.2
    clear hS'
    first | (go_simp; done) | (go_simp; with_reducible rfl)
  try clear ho
  try simp only [Act.put, List.getElem_toArray, List.getElem_cons_zero, List.getElem_cons_succ, List.setIfInBounds_toArray, List.set_cons_zero, List.set_cons_succ]
  have ho3 : ops3[3]? = some (opAt ops3 3) := by kernel_rfl
  conv at ho3 => rhs; arg 1; whnf
  refine wpAnyH_ready (rs := [3]) (by kernel_rfl) (by simp) ?_
  refine (AllReadyH.cons ho3 (fun K hK => ?_) AllReadyH.nil)
  all_goals clear ho3
  go_simp
  go_at_call 17
  refine (htd AX cx _ (hgc _ hS)).mono ?_
  rintro e w9 ⟨rfl, hk⟩
  try dsimp only
  refine hK.out _ _ ?_ (fun hS => ?_)
  · exact hstep _ _ hS hk
  clear hK K
  try simp only [Act.put, List.getElem_toArray, List.getElem_cons_zero, List.getElem_cons_succ, List.setIfInBounds_toArray, List.set_cons_zero, List.set_cons_succ]
  have ho : ops3[4]? = some (opAt ops3 4) := by kernel_rfl
  conv at ho => rhs; arg 1; whnf
  refine wpAnyH_take (i := 4) (v := ?_) ho (by kernel_rfl) (by kernel_rfl) (by kernel_rfl) (fun _ _ _ h => h) (Or.inl ⟨by kernel_rfl, ?_⟩) hS ?_
  clear ho
  rotate_left
  · intro w' hS'
    have hq := hS'.1
    have hq2 := hS'.2
    clear hS'
    first | (go_simp; done) | (go_simp; with_reducible rfl)
  try clear ho
  try simp only [Act.put, List.getElem_toArray, List.getElem_cons_zero, List.getElem_cons_succ, List.setIfInBounds_toArray, List.set_cons_zero, List.set_cons_succ]
  have ho : ops3[5]? = some (opAt ops3 5) := by kernel_rfl
  conv at ho => rhs; arg 1; whnf
  refine wpAnyH_take (i := 5) (v := ?_) ho (by kernel_rfl) (by kernel_rfl) (by kernel_rfl) (fun _ _ _ h => h) (Or.inl ⟨by kernel_rfl, ?_⟩) hS ?_
  clear ho
  rotate_left
  · intro w' hS'
    have hq := hS'.1
    have hq2 := hS'.2
    clear hS'
    first | (go_simp; done) | (go_simp; with_reducible rfl)
  try clear ho
  try simp only [Act.put, List.getElem_toArray, List.getElem_cons_zero, List.getElem_cons_succ, List.setIfInBounds_toArray, List.set_cons_zero, List.set_cons_succ]
  have ho : ops3[6]? = some (opAt ops3 6) := by kernel_rfl
  conv at ho => rhs; arg 1; whnf
  refine wpAnyH_take (i := 6) (v := ?_) ho (by kernel_rfl) (by kernel_rfl) (by kernel_rfl) (fun _ _ _ h => h) (Or.inl ⟨by kernel_rfl, ?_⟩) hS ?_
  clear ho
  rotate_left
  · intro w' hS'
    have hq := hS'.1
    have hq2 := hS'.2
    clear hS'
    first | (go_simp; done) | (go_simp; with_reducible rfl)
  try clear ho
  try simp only [Act.put, List.getElem_toArray, List.getElem_cons_zero, List.getElem_cons_succ, List.setIfInBounds_toArray, List.set_cons_zero, List.set_cons_succ]
  have ho : ops3[7]? = some (opAt ops3 7) := by kernel_rfl
  conv at ho => rhs; arg 1; whnf
  refine wpAnyH_take (i := 7) (v := ?_) ho (by kernel_rfl) (by kernel_rfl) (by kernel_rfl) (fun _ _ _ h => h) (Or.inl ⟨by kernel_rfl, ?_⟩) hS ?_
  clear ho
  rotate_left
  · intro w' hS'
    have hq := hS'.1
    have hq2 := hS'.2
    clear hS'
    first | (go_simp; done) | (go_simp; with_reducible rfl)
  try clear ho
  try simp only [Act.put, List.getElem_toArray, List.getElem_cons_zero, List.getElem_cons_succ, List.setIfInBounds_toArray, List.set_cons_zero, List.set_cons_succ]
  have ho : ops3[8]? = some (opAt ops3 8) := by kernel_rfl
  conv at ho => rhs; arg 1; whnf
  refine wpAnyH_take (i := 8) (v := ?_) ho (by kernel_rfl) (by kernel_rfl) (by kernel_rfl) (fun _ _ _ h => h) (Or.inl ⟨by kernel_rfl, ?_⟩) hS ?_
  clear ho
  rotate_left
  · intro w' hS'
    have hq := hS'.1
    have hq2 := hS'.2
    clear hS'
    first | (go_simp; done) | (go_simp; with_reducible rfl)
  try clear ho
  try simp only [Act.put, List.getElem_toArray, List.getElem_cons_zero, List.getElem_cons_succ, List.setIfInBounds_toArray, List.set_cons_zero, List.set_cons_succ]
  have ho : ops3[9]? = some (opAt ops3 9) := by kernel_rfl
  conv at ho => rhs; arg 1; whnf
  refine wpAnyH_take (i := 9) (v := ?_) ho (by kernel_rfl) (by kernel_rfl) (by kernel_rfl) (fun _ _ _ h => h) (Or.inl ⟨by kernel_rfl, ?_⟩) hS ?_
  clear ho
  rotate_left
  · intro w' hS'
    have hq := hS'.1
    have hq2 := hS'.2
    clear hS'
    first | (go_simp; done) | (go_simp; with_reducible rfl)
  try clear ho
  try simp only [Act.put, List.getElem_toArray, List.getElem_cons_zero, List.getElem_cons_succ, List.setIfInBounds_toArray, List.set_cons_zero, List.set_cons_succ]
  have ho : ops3[10]? = some (opAt ops3 10) := by kernel_rfl
  conv at ho => rhs; arg 1; whnf
  refine wpAnyH_take (i := 10) (v := ?_) ho (by kernel_rfl) (by kernel_rfl) (by kernel_rfl) (fun _ _ _ h => h) (Or.inl ⟨by kernel_rfl, ?_⟩) hS ?_
  clear ho
  rotate_left
  · intro w' hS'
    have hq := hS'.1
    have hq2 := hS'.2
    clear hS'
    first | (go_simp; done) | (go_simp; with_reducible rfl)
  try clear ho
  try simp only [Act.put, List.getElem_toArray, List.getElem_cons_zero, List.getElem_cons_succ, List.setIfInBounds_toArray, List.set_cons_zero, List.set_cons_succ]
  have ho : ops3[11]? = some (opAt ops3 11) := by kernel_rfl
  conv at ho => rhs; arg 1; whnf
  refine wpAnyH_take (i := 11) (v := ?_) ho (by kernel_rfl) (by kernel_rfl) (by kernel_rfl) (fun _ _ _ h => h) (Or.inl ⟨by kernel_rfl, ?_⟩) hS ?_
  clear ho
  rotate_left
  · intro w' hS'
    have hq := hS'.1
    have hq2 := hS'.2
    clear hS'
    first | (go_simp; done) | (go_simp; with_reducible rfl)
  try clear ho
  try simp only [Act.put, List.getElem_toArray, List.getElem_cons_zero, List.getElem_cons_succ, List.setIfInBounds_toArray, List.set_cons_zero, List.set_cons_succ]
  have ho : ops3[12]? = some (opAt ops3 12) := by kernel_rfl
  conv at ho => rhs; arg 1; whnf
  refine wpAnyH_take (i := 12) (v := ?_) ho (by kernel_rfl) (by kernel_rfl) (by kernel_rfl) (fun _ _ _ h => h) (Or.inl ⟨by kernel_rfl, ?_⟩) hS ?_
  clear ho
  rotate_left
  · intro w' hS'
    have hq := hS'.1
    have hq2 := hS'.2
    clear hS'
    first | (go_simp; done) | (go_simp; with_reducible rfl)
  try clear ho
  try simp only [Act.put, List.getElem_toArray, List.getElem_cons_zero, List.getElem_cons_succ, List.setIfInBounds_toArray, List.set_cons_zero, List.set_cons_succ]
  have ho : ops3[13]? = some (opAt ops3 13) := by kernel_rfl
  conv at ho => rhs; arg 1; whnf
  refine wpAnyH_take (i := 13) (v := ?_) ho (by kernel_rfl) (by kernel_rfl) (by kernel_rfl) (fun _ _ _ h => h) (Or.inl ⟨by kernel_rfl, ?_⟩) hS ?_
  clear ho
  rotate_left
  · intro w' hS'
    have hq := hS'.1
    have hq2 := hS'.2
    clear hS'
    first | (go_simp; done) | (go_simp; with_reducible rfl)
  try clear ho
  try simp only [Act.put, List.getElem_toArray, List.getElem_cons_zero, List.getElem_cons_succ, List.setIfInBounds_toArray, List.set_cons_zero, List.set_cons_succ]
  have ho : ops3[14]? = some (opAt ops3 14) := by kernel_rfl
  conv at ho => rhs; arg 1; whnf
  refine wpAnyH_take (i := 14) (v := ?_) ho (by kernel_rfl) (by kernel_rfl) (by kernel_rfl) (fun _ _ _ h => h) (Or.inl ⟨by kernel_rfl, ?_⟩) hS ?_
  clear ho
  rotate_left
  · intro w' hS'
    have hq := hS'.1
    have hq2 := hS'.2
    clear hS'
    first | (go_simp; done) | (go_simp; with_reducible rfl)
  try clear ho
  try simp only [Act.put, List.getElem_toArray, List.getElem_cons_zero, List.getElem_cons_succ, List.setIfInBounds_toArray, List.set_cons_zero, List.set_cons_succ]
  have ho : ops3[15]? = some (opAt ops3 15) := by kernel_rfl
  conv at ho => rhs; arg 1; whnf
  refine wpAnyH_take (i := 15) (v := ?_) ho (by kernel_rfl) (by kernel_rfl) (by kernel_rfl) (fun _ _ _ h => h) (Or.inl ⟨by kernel_rfl, ?_⟩) hS ?_
  clear ho
  rotate_left
  · intro w' hS'
    have hq := hS'.1
    have hq2 := hS'.2
    clear hS'
    first | (go_simp; done) | (go_simp; with_reducible rfl)
  try clear ho
  try simp only [Act.put, List.getElem_toArray, List.getElem_cons_zero, List.getElem_cons_succ, List.setIfInBounds_toArray, List.set_cons_zero, List.set_cons_succ]
  have ho : ops3[16]? = some (opAt ops3 16) := by kernel_rfl
  conv at ho => rhs; arg 1; whnf
  refine wpAnyH_take (i := 16) (v := ?_) ho (by kernel_rfl) (by kernel_rfl) (by kernel_rfl) (fun _ _ _ h => h) (Or.inl ⟨by kernel_rfl, ?_⟩) hS ?_
  clear ho
  rotate_left
  · intro w' hS'
    have hq := hS'.1
    have hq2 := hS'.2
    clear hS'
    first | (go_simp; done) | (go_simp; with_reducible rfl)
  try clear ho
  try simp only [Act.put, List.getElem_toArray, List.getElem_cons_zero, List.getElem_cons_succ, List.setIfInBounds_toArray, List.set_cons_zero, List.set_cons_succ]
  have ho : ops3[17]? = some (opAt ops3 17) := by kernel_rfl
  conv at ho => rhs; arg 1; whnf
  refine wpAnyH_take (i := 17) (v := ?_) ho (by kernel_rfl) (by kernel_rfl) (by kernel_rfl) (fun _ _ _ h => h) (Or.inl ⟨by kernel_rfl, ?_⟩) hS ?_
  clear ho
  rotate_left
  · intro w' hS'
    have hq := hS'.1
    have hq2 := hS'.2
    clear hS'
    first | (go_simp; done) | (go_simp; with_reducible rfl)
  try clear ho
  try simp only [Act.put, List.getElem_toArray, List.getElem_cons_zero, List.getElem_cons_succ, List.setIfInBounds_toArray, List.set_cons_zero, List.set_cons_succ]
  have ho : ops3[18]? = some (opAt ops3 18) := by kernel_rfl
  conv at ho => rhs; arg 1; whnf
  refine wpAnyH_take (i := 18) (v := ?_) ho (by kernel_rfl) (by kernel_rfl) (by kernel_rfl) (fun _ _ _ h => h) (Or.inl ⟨by kernel_rfl, ?_⟩) hS ?_
  clear ho
  rotate_left
  · intro w' hS'
    have hq := hS'.1
    have hq2 := hS'.2
    clear hS'
    first | (go_simp; done) | (go_simp; with_reducible rfl)
  try clear ho
  try simp only [Act.put, List.getElem_toArray, List.getElem_cons_zero, List.getElem_cons_succ, List.setIfInBounds_toArray, List.set_cons_zero, List.set_cons_succ]
  have ho : ops3[19]? = some (opAt ops3 19) := by kernel_rfl
  conv at ho => rhs; arg 1; whnf
  refine wpAnyH_take (i := 19) (v := ?_) ho (by kernel_rfl) (by kernel_rfl) (by kernel_rfl) (fun _ _ _ h => h) (Or.inl ⟨by kernel_rfl, ?_⟩) hS ?_
  clear ho
  rotate_left
  · intro w' hS'
    have hq := hS'.1
    have hq2 := hS'.2
    clear hS'
    first | (go_simp; done) | (go_simp; with_reducible rfl)
  try clear ho
  try simp only [Act.put, List.getElem_toArray, List.getElem_cons_zero, List.getElem_cons_succ, List.setIfInBounds_toArray, List.set_cons_zero, List.set_cons_succ]
  have ho : ops3[20]? = some (opAt ops3 20) := by kernel_rfl
  conv at ho => rhs; arg 1; whnf
  refine wpAnyH_take (i := 20) (v := ?_) ho (by kernel_rfl) (by kernel_rfl) (by kernel_rfl) (fun _ _ _ h => h) (Or.inl ⟨by kernel_rfl, ?_⟩) hS ?_
  clear ho
  rotate_left
  · intro w' hS'
    have hq := hS'.1
    have hq2 := hS'.2
    clear hS'
    first | (go_simp; done) | (go_simp; with_reducible rfl)
  try clear ho
  try simp only [Act.put, List.getElem_toArray, List.getElem_cons_zero, List.getElem_cons_succ, List.setIfInBounds_toArray, List.set_cons_zero, List.set_cons_succ]
  have ho : ops3[21]? = some (opAt ops3 21) := by kernel_rfl
  conv at ho => rhs; arg 1; whnf
  refine wpAnyH_take (i := 21) (v := ?_) ho (by kernel_rfl) (by kernel_rfl) (by kernel_rfl) (fun _ _ _ h => h) (Or.inl ⟨by kernel_rfl, ?_⟩) hS ?_
  clear ho
  rotate_left
  · intro w' hS'
    have hq := hS'.1
    have hq2 := hS'.2
    clear hS'
    first | (go_simp; done) | (go_simp; with_reducible rfl)
  try clear ho
  try simp only [Act.put, List.getElem_toArray, List.getElem_cons_zero, List.getElem_cons_succ, List.setIfInBounds_toArray, List.set_cons_zero, List.set_cons_succ]
  have ho : ops3[22]? = some (opAt ops3 22) := by kernel_rfl
  conv at ho => rhs; arg 1; whnf
  refine wpAnyH_take (i := 22) (v := ?_) ho (by kernel_rfl) (by kernel_rfl) (by kernel_rfl) (fun _ _ _ h => h) (Or.inl ⟨by kernel_rfl, ?_⟩) hS ?_
  clear ho
  rotate_left
  · intro w' hS'
    have hq := hS'.1
    have hq2 := hS'.2
    clear hS'
    first | (go_simp; done) | (go_simp; with_reducible rfl)
  try clear ho
  try simp only [Act.put, List.getElem_toArray, List.getElem_cons_zero, List.getElem_cons_succ, List.setIfInBounds_toArray, List.set_cons_zero, List.set_cons_succ]
  have ho23 : ops3[23]? = some (opAt ops3 23) := by kernel_rfl
  conv at ho23 => rhs; arg 1; whnf
  refine wpAnyH_ready (rs := [23]) (by kernel_rfl) (by simp) ?_
  refine (AllReadyH.cons ho23 (fun K hK => ?_) AllReadyH.nil)
  all_goals clear ho23
  rw [if_pos (by kernel_rfl)]
  go_simp
  go_at_call 18
  refine (hsm _ _ _ _ _ (hgc _ hS) (hgd _ hS)).mono ?_
  rintro e w9 ⟨rfl, hk⟩
  try dsimp only
  refine hK.out _ _ ?_ (fun hS => ?_)
  · exact hstep _ _ hS hk
  clear hK K
  try simp only [Act.put, List.getElem_toArray, List.getElem_cons_zero, List.getElem_cons_succ, List.setIfInBounds_toArray, List.set_cons_zero, List.set_cons_succ]
  have ho : ops3[24]? = some (opAt ops3 24) := by kernel_rfl
  conv at ho => rhs; arg 1; whnf
  refine wpAnyH_take (i := 24) (v := ?_) ho (by kernel_rfl) (by kernel_rfl) (by kernel_rfl) (fun _ _ _ h => h) (Or.inl ⟨by kernel_rfl, ?_⟩) hS ?_
  clear ho
  rotate_left
  · intro w' hS'
    have hq := hS'.1
    have hq2 := hS'.2
    clear hS'
    first | (go_simp; done) | (go_simp; with_reducible rfl)
  try clear ho
  try simp only [Act.put, List.getElem_toArray, List.getElem_cons_zero, List.getElem_cons_succ, List.setIfInBounds_toArray, List.set_cons_zero, List.set_cons_succ]
  have ho : ops3[25]? = some (opAt ops3 25) := by kernel_rfl
  conv at ho => rhs; arg 1; whnf
  refine wpAnyH_take (i := 25) (v := ?_) ho (by kernel_rfl) (by kernel_rfl) (by kernel_rfl) (fun _ _ _ h => h) (Or.inl ⟨by kernel_rfl, ?_⟩) hS ?_
  clear ho
  rotate_left
  · intro w' hS'
    have hq := hS'.1
    have hq2 := hS'.2
    clear hS'
    first | (go_simp; done) | (go_simp; with_reducible rfl)
  try clear ho
  try simp only [Act.put, List.getElem_toArray, List.getElem_cons_zero, List.getElem_cons_succ, List.setIfInBounds_toArray, List.set_cons_zero, List.set_cons_succ]
  have ho : ops3[26]? = some (opAt ops3 26) := by kernel_rfl
  conv at ho => rhs; arg 1; whnf
  refine wpAnyH_take (i := 26) (v := ?_) ho (by kernel_rfl) (by kernel_rfl) (by kernel_rfl) (fun _ _ _ h => h) (Or.inl ⟨by kernel_rfl, ?_⟩) hS ?_
  clear ho
  rotate_left
  · intro w' hS'
    have hq := hS'.1
    have hq2 := hS'.2
    clear hS'
    first | (go_simp; done) | (go_simp; with_reducible rfl)
  try clear ho
  try simp only [Act.put, List.getElem_toArray, List.getElem_cons_zero, List.getElem_cons_succ, List.setIfInBounds_toArray, List.set_cons_zero, List.set_cons_succ]
  have ho : ops3[28]? = some (opAt ops3 28) := by kernel_rfl
  conv at ho => rhs; arg 1; whnf
  refine wpAnyH_take (i := 28) (v := ?_) ho (by kernel_rfl) (by kernel_rfl) (by kernel_rfl) (fun _ _ _ h => h) (Or.inl ⟨by kernel_rfl, ?_⟩) hS ?_
  clear ho
  rotate_left
  · intro w' hS'
    have hq := hS'.1
    have hq2 := hS'.2
    clear hS'
    first | (go_simp; done) | (go_simp; with_reducible rfl)
  try clear ho
  try simp only [Act.put, List.getElem_toArray, List.getElem_cons_zero, List.getElem_cons_succ, List.setIfInBounds_toArray, List.set_cons_zero, List.set_cons_succ]
  have ho27 : ops3[27]? = some (opAt ops3 27) := by kernel_rfl
  conv at ho27 => rhs; arg 1; whnf
  refine wpAnyH_ready (rs := [27]) (by kernel_rfl) (by simp) ?_
  refine (AllReadyH.cons ho27 (fun K hK => ?_) AllReadyH.nil)
  all_goals clear ho27
  rw [if_pos (by kernel_rfl)]
  go_simp
  go_at_call 17
  refine (htd A2 n _ (hgd _ hS)).mono ?_
  rintro e w9 ⟨rfl, hk⟩
  try dsimp only
  refine hK.out _ _ ?_ (fun hS => ?_)
  · exact hstep _ _ hS hk
  clear hK K
  try simp only [Act.put, List.getElem_toArray, List.getElem_cons_zero, List.getElem_cons_succ, List.setIfInBounds_toArray, List.set_cons_zero, List.set_cons_succ]
  have ho29 : ops3[29]? = some (opAt ops3 29) := by kernel_rfl
  conv at ho29 => rhs; arg 1; whnf
  refine wpAnyH_ready (rs := [29]) (by kernel_rfl) (by simp) ?_
  refine (AllReadyH.cons ho29 (fun K hK => ?_) AllReadyH.nil)
  all_goals clear ho29
  rw [if_pos (by kernel_rfl)]
  go_simp
  go_at_call 17
  refine (htd AX cx _ (hgc _ hS)).mono ?_
  rintro e w9 ⟨rfl, hk⟩
  try dsimp only
  refine hK.out _ _ ?_ (fun hS => ?_)
  · exact hstep _ _ hS hk
  clear hK K
  try simp only [Act.put, List.getElem_toArray, List.getElem_cons_zero, List.getElem_cons_succ, List.setIfInBounds_toArray, List.set_cons_zero, List.set_cons_succ]
  have ho : ops3[30]? = some (opAt ops3 30) := by kernel_rfl
  conv at ho => rhs; arg 1; whnf
  refine wpAnyH_take (i := 30) (v := ?_) ho (by kernel_rfl) (by kernel_rfl) (by kernel_rfl) (fun _ _ _ h => h) (Or.inl ⟨by kernel_rfl, ?_⟩) hS ?_
  clear ho
  rotate_left
  · intro w' hS'
    have hq := hS'.1
    have hq2 := hS'.2
    clear hS'
    first | (go_simp; done) | (go_simp; with_reducible rfl)
  try clear ho
  try simp only [Act.put, List.getElem_toArray, List.getElem_cons_zero, List.getElem_cons_succ, List.setIfInBounds_toArray, List.set_cons_zero, List.set_cons_succ]
  have ho : ops3[31]? = some (opAt ops3 31) := by kernel_rfl
  conv at ho => rhs; arg 1; whnf
  refine wpAnyH_take (i := 31) (v := ?_) ho (by kernel_rfl) (by kernel_rfl) (by kernel_rfl) (fun _ _ _ h => h) (Or.inl ⟨by kernel_rfl, ?_⟩) hS ?_
  clear ho
  rotate_left
  · intro w' hS'
    have hq := hS'.1
    have hq2 := hS'.2
    clear hS'
    first | (go_simp; done) | (go_simp; with_reducible rfl)
  try clear ho
  try simp only [Act.put, List.getElem_toArray, List.getElem_cons_zero, List.getElem_cons_succ, List.setIfInBounds_toArray, List.set_cons_zero, List.set_cons_succ]
  have ho : ops3[32]? = some (opAt ops3 32) := by kernel_rfl
  conv at ho => rhs; arg 1; whnf
  refine wpAnyH_take (i := 32) (v := ?_) ho (by kernel_rfl) (by kernel_rfl) (by kernel_rfl) (fun _ _ _ h => h) (Or.inl ⟨by kernel_rfl, ?_⟩) hS ?_
  clear ho
  rotate_left
  · intro w' hS'
    have hq := hS'.1
    have hq2 := hS'.2
    clear hS'
    first | (go_simp; done) | (go_simp; with_reducible rfl)
  try clear ho
  try simp only [Act.put, List.getElem_toArray, List.getElem_cons_zero, List.getElem_cons_succ, List.setIfInBounds_toArray, List.set_cons_zero, List.set_cons_succ]
  have ho : ops3[33]? = some (opAt ops3 33) := by kernel_rfl
  conv at ho => rhs; arg 1; whnf
  refine wpAnyH_take (i := 33) (v := ?_) ho (by kernel_rfl) (by kernel_rfl) (by kernel_rfl) (fun _ _ _ h => h) (Or.inl ⟨by kernel_rfl, ?_⟩) hS ?_
  clear ho
  rotate_left
  · intro w' hS'
    have hq := hS'.1
    have hq2 := hS'.2
    clear hS'
    first | (go_simp; done) | (go_simp; with_reducible rfl)
  try clear ho
  try simp only [Act.put, List.getElem_toArray, List.getElem_cons_zero, List.getElem_cons_succ, List.setIfInBounds_toArray, List.set_cons_zero, List.set_cons_succ]
  have ho34 : ops3[34]? = some (opAt ops3 34) := by kernel_rfl
  conv at ho34 => rhs; arg 1; whnf
  refine wpAnyH_ready (rs := [34]) (by kernel_rfl) (by simp) ?_
  refine (AllReadyH.cons ho34 (fun K hK => ?_) AllReadyH.nil)
  all_goals clear ho34
  rw [if_pos (by kernel_rfl)]
  go_simp
  go_at_call 19
  refine (hcc _ _ _ (hgd _ hS)).mono ?_
  rintro e w9 ⟨rfl, hk⟩
  try dsimp only
  refine hK.out _ _ ?_ (fun hS => ?_)
  · exact hstep _ _ hS hk
  clear hK K
  try simp only [Act.put, List.getElem_toArray, List.getElem_cons_zero, List.getElem_cons_succ, List.setIfInBounds_toArray, List.set_cons_zero, List.set_cons_succ]
  have ho : ops3[35]? = some (opAt ops3 35) := by kernel_rfl
  conv at ho => rhs; arg 1; whnf
  refine wpAnyH_take (i := 35) (v := ?_) ho (by kernel_rfl) (by kernel_rfl) (by kernel_rfl) (fun _ _ _ h => h) (Or.inl ⟨by kernel_rfl, ?_⟩) hS ?_
  clear ho
  rotate_left
  · intro w' hS'
    have hq := hS'.1
    have hq2 := hS'.2
    clear hS'
    first | (go_simp; done) | (go_simp; with_reducible rfl)
  try clear ho
  try simp only [Act.put, List.getElem_toArray, List.getElem_cons_zero, List.getElem_cons_succ, List.setIfInBounds_toArray, List.set_cons_zero, List.set_cons_succ]
  have ho : ops3[36]? = some (opAt ops3 36) := by kernel_rfl
  conv at ho => rhs; arg 1; whnf
  refine wpAnyH_take (i := 36) (v := ?_) ho (by kernel_rfl) (by kernel_rfl) (by kernel_rfl) (fun _ _ _ h => h) (Or.inl ⟨by kernel_rfl, ?_⟩) hS ?_
  clear ho
  rotate_left
  · intro w' hS'
    have hq := hS'.1
    have hq2 := hS'.2
    clear hS'
    first | (go_simp; done) | (go_simp; with_reducible rfl)
  try clear ho
  try simp only [Act.put, List.getElem_toArray, List.getElem_cons_zero, List.getElem_cons_succ, List.setIfInBounds_toArray, List.set_cons_zero, List.set_cons_succ]
  have ho : ops3[37]? = some (opAt ops3 37) := by kernel_rfl
  conv at ho => rhs; arg 1; whnf
  refine wpAnyH_take (i := 37) (v := ?_) ho (by kernel_rfl) (by kernel_rfl) (by kernel_rfl) (fun _ _ _ h => h) (Or.inl ⟨by kernel_rfl, ?_⟩) hS ?_
  clear ho
  rotate_left
  · intro w' hS'
    have hq := hS'.1
    have hq2 := hS'.2
    clear hS'
    first | (go_simp; done) | (go_simp; with_reducible rfl)
  try clear ho
  try simp only [Act.put, List.getElem_toArray, List.getElem_cons_zero, List.getElem_cons_succ, List.setIfInBounds_toArray, List.set_cons_zero, List.set_cons_succ]
  have ho38 : ops3[38]? = some (opAt ops3 38) := by kernel_rfl
  conv at ho38 => rhs; arg 1; whnf
  refine wpAnyH_ready (rs := [38]) (by kernel_rfl) (by simp) ?_
  refine (AllReadyH.cons ho38 (fun K hK => ?_) AllReadyH.nil)
  all_goals clear ho38
  rw [if_pos (by kernel_rfl)]
  go_simp
  go_at_call 13
  refine (hgl _ hS).mono ?_
  rintro e w9 ⟨rfl, hk⟩
  try dsimp only
  refine hK.out _ _ ?_ (fun hS => ?_)
  · exact hstep _ _ hS hk
  clear hK K
  try simp only [Act.put, List.getElem_toArray, List.getElem_cons_zero, List.getElem_cons_succ, List.setIfInBounds_toArray, List.set_cons_zero, List.set_cons_succ]
  have ho : ops3[39]? = some (opAt ops3 39) := by kernel_rfl
  conv at ho => rhs; arg 1; whnf
  refine wpAnyH_take (i := 39) (v := ?_) ho (by kernel_rfl) (by kernel_rfl) (by kernel_rfl) (fun _ _ _ h => h) (Or.inl ⟨by kernel_rfl, ?_⟩) hS ?_
  clear ho
  rotate_left
  · intro w' hS'
    have hq := hS'.1
    have hq2 := hS'.2
    clear hS'
    first | (go_simp; done) | (go_simp; with_reducible rfl)
  try clear ho
  try simp only [Act.put, List.getElem_toArray, List.getElem_cons_zero, List.getElem_cons_succ, List.setIfInBounds_toArray, List.set_cons_zero, List.set_cons_succ]
  have ho : ops3[40]? = some (opAt ops3 40) := by kernel_rfl
  conv at ho => rhs; arg 1; whnf
  refine wpAnyH_take (i := 40) (v := ?_) ho (by kernel_rfl) (by kernel_rfl) (by kernel_rfl) (fun _ _ _ h => h) (Or.inl ⟨by kernel_rfl, ?_⟩) hS ?_
  clear ho
  rotate_left
  · intro w' hS'
    have hq := hS'.1
    have hq2 := hS'.2
    clear hS'
    first | (go_simp; done) | (go_simp; with_reducible rfl)
  try clear ho
  try simp only [Act.put, List.getElem_toArray, List.getElem_cons_zero, List.getElem_cons_succ, List.setIfInBounds_toArray, List.set_cons_zero, List.set_cons_succ]
  refine wpAnyH_done (by kernel_rfl) ?_ _
  refine (show ∀ (a : Act) (w : World), Code.wp Tryd.prog _ _ a w → _ from by assumption) _ _ ?_
  go_wp2_with fail
  go_ret
  exact ⟨rfl, HkwY.out.trans' hS.1.2⟩
end Go.Proofs.YtjgncofhobhjdaaDoor
