/- ConfigurationsParse, walked. Printed by gen_lz.py. -/
import Derived.Test.YtjgncofhobhjdaaDoorChecked
import Derived.Deep.RegionHeld3
import Derived.Deep.DrawnRows
import Derived.Deep.DeepCutAuto
import Derived.Deep.LoopGhost
import Derived.Outline
import Derived.Handy
import Derived.OwnWalk
import Derived.BigQuiet
import Derived.Test.YtjgncofhobhjdaaDoorLpK
import Derived.Test.YtjgncofhobhjdaaDoorN15
import Derived.Test.YtjgncofhobhjdaaDoorN24
set_option linter.unusedVariables false
set_option linter.unusedSimpArgs false
set_option linter.unusedSectionVars false
namespace Go.Proofs.YtjgncofhobhjdaaDoor
open Go.RowKit
attribute [local go_sem ↓] Go.wp_at_zero Go.wp_at_succ

theorem rawCfg_u8' {d : CfgD} (h : d.ok) : ∀ z ∈ rawCfg d, u8k z := by
  obtain ⟨⟨t0, t1⟩, ⟨a0, a1⟩, ⟨b0, b1⟩, ⟨c0, c1⟩, ⟨e0, e1⟩⟩ := h
  have hs : 0 ≤ attrS d ∧ attrS d < 256 := by unfold attrS; split <;> split <;> omega
  intro z hz
  unfold rawCfg at hz
  unfold u8k
  simp only [List.mem_cons, List.not_mem_nil, or_false] at hz
  rcases hz with rfl | rfl | rfl | rfl | rfl | rfl | rfl | rfl | rfl <;> omega
theorem rawIf_u8' {d : IfD} (h : d.ok) : ∀ z ∈ rawIf d, u8k z := by
  obtain ⟨⟨t0, t1⟩, ⟨a0, a1⟩, ⟨b0, b1⟩, ⟨c0, c1⟩, ⟨e0, e1⟩, ⟨f0, f1⟩, ⟨g0, g1⟩⟩ := h
  intro z hz
  unfold rawIf at hz
  unfold u8k
  simp only [List.mem_cons, List.not_mem_nil, or_false] at hz
  rcases hz with rfl | rfl | rfl | rfl | rfl | rfl | rfl | rfl | rfl <;> omega
theorem rawEp_u8' {e : EpD} (h : e.ok) : ∀ z ∈ rawEp e, u8k z := by
  have ha := addr_u8 h
  obtain ⟨⟨t0, t1⟩, ⟨a0, a1⟩, ⟨b0, b1⟩, ⟨c0, c1⟩⟩ := h
  obtain ⟨h0, h1⟩ := ha
  intro z hz
  unfold rawEp at hz
  unfold u8k
  simp only [List.mem_cons, List.not_mem_nil, or_false] at hz
  rcases hz with rfl | rfl | rfl | rfl | rfl | rfl | rfl <;> omega
theorem told_u8' {C : Cfg} (h : C.ok) : ∀ z ∈ toldS C, u8k z := by
  intro z hz
  unfold toldS rawI rawAlt at hz
  rcases List.mem_append.1 hz with hz | hz
  · exact rawCfg_u8' h.1 z hz
  · obtain ⟨l, hl, hz⟩ := List.mem_flatMap.1 hz
    obtain ⟨a, ha, hz⟩ := List.mem_flatMap.1 hz
    have hok := h.2 l hl a ha
    rcases List.mem_append.1 hz with hz | hz
    · rcases List.mem_append.1 hz with hz | hz
      · exact rawIf_u8' hok.1 z hz
      · exact hok.2.1 z hz
    · obtain ⟨e, he, hz⟩ := List.mem_flatMap.1 hz
      exact rawEp_u8' (hok.2.2 e he) z hz
theorem wrap_u8k (x : Int) : u8k (IntKind.u8.wrap x) := by
  have : IntKind.u8.wrap x = x % 256 := by simp [IntKind.wrap, IntKind.signed, IntKind.bits]
  unfold u8k
  omega
theorem mod_u8k (x : Int) : u8k (x % 256) := by unfold u8k; omega
theorem set_u8k {l : List Int} (hu : ∀ z ∈ l, u8k z) (i : Nat) {z : Int} (hz : u8k z) : ∀ y ∈ l.set i z, u8k y := fun y hy => by
  rcases List.mem_or_eq_of_mem_set hy with h | h
  · exact hu y h
  · rw [h]; exact hz
theorem sl_set {W W2 : World} {g cap n i : Nat} {l : List Int} {z : Int} (hr : RowB W g cap l) (hk : Kept W W2) (hn : l.length = n) (hi : i < n) (hu : ∀ z ∈ l, u8k z) (hz : u8k z) :
    Sl u8T (W2.setCell ⟨g, i, none⟩ (.int .u8 z)) (low (W2.setCell ⟨g, i, none⟩ (.int .u8 z)).heap.size) (some ⟨g, 0, none⟩) n (l.set i z) := by
  have h := ((hr.kept hk).set (by omega) z).sl (set_u8k hu i hz)
  rw [List.length_set, hn] at h
  exact h
theorem sl_setD {W W2 : World} {g cap n i : Nat} {l : List Int} {z : Int} (hr : RowB W g cap l) (hk : Kept W W2) (hn : l.length = n) (hi : i < n) (hu : ∀ z ∈ l, u8k z) (hz : u8k z) :
    Sl u8T (W2.setCell ⟨g, i, none⟩ (.int .u8 z)).drew (low (W2.setCell ⟨g, i, none⟩ (.int .u8 z)).drew.heap.size) (some ⟨g, 0, none⟩) n (l.set i z) := sl_set hr hk hn hi hu hz
set_option maxRecDepth 100000 in
set_option maxHeartbeats 16000000 in
theorem parse_law (x : PC) (A : Option Addr) (cap : Nat) (at0 h0 h1 : Int) (w : World) (hC : PcIs w x A cap) (hx : x.ok) (ha : 0 ≤ at0 ∧ at0 < 65536) (hh0 : u8k h0) (hh1 : u8k h1) (hz : countP x.ifs ≤ 2000000) (hT : Tabs w) :
    Calls Tryd.prog 4 #[.agg (x.cells A cap).toArray, .int .u16 at0, .agg #[.int .u8 h0, .int .u8 h1]] w fun e w' => e = .returned (.bool true) ∧ Kept w w' := by
  have HTw := hide hT
  obtain ⟨i8, hi5, hz0, hz1, hz2⟩ := info_parts info5
  have hbg := fun w' (hk : Kept w w') => big_any x A cap w' (hC.kept hk) hz
  have hof := fun w' (hk : Kept w w') hb => of_plain x A cap w' (hC.kept hk) hb hx
  have hlv := fun w' (hk : Kept w w') => lives_any w' (hT.kept hk)
  obtain ⟨bg, hbgd⟩ : ∃ bg, bigS x = bg := ⟨_, rfl⟩
  have hsz := fun hb => of_size (x := x) hb hx
  have hch := fun hb => of_check (x := x) hb hx
  have hok := fun hb => of_ok (x := x) hb hx
  obtain ⟨C, hCd⟩ : ∃ C, ofS x = C := ⟨_, rfl⟩
  simp only [hbgd, hCd] at hbg hof hsz hch hok
  obtain ⟨nu, te, po, se, wa, L⟩ := x
  obtain ⟨n0, hn0⟩ : ∃ n0, L.length = n0 := ⟨_, rfl⟩
  unfold PC.cells at hbg hof ⊢
  simp only [hn0] at hbg hof ⊢
  clear hC hx hz hT hn0 hbgd hCd
  go_enter Tryd.func4, Tryd.ntmps4
  go_upto_region 1 with (fail)
  refine wp_at (fun W => W.heap[w.heap.size]? = some (.cells #[.int .u8 nu, .int .u8 te, .int .u8 po, .bool se, .bool wa, .slice A n0 cap] 24 (0, 0)) ∧ W.heap[w.heap.size + 1]? = some (.cells #[.int .u8 h0, .int .u8 h1] 44 (0, 0)) ∧ Kept w W) ⟨heap_past (heap_at _ rfl), heap_at _ (by first | rfl | simp), by go_grown⟩ (fun W hW => ?_)
  obtain ⟨hI, hB, hkW⟩ := hW
  obtain ⟨I0, hI0⟩ : ∃ I0, w.heap.size = I0 := ⟨_, rfl⟩
  obtain ⟨B0, hB0⟩ : ∃ B0, I0 + 1 = B0 := ⟨_, rfl⟩
  rw [hI0, hB0] at hB
  rw [hI0] at hI
  simp only [hI0, hB0]
  have i0 := cell_heap hI (o := 0) rfl
  have i1 := cell_heap hI (o := 1) rfl
  have i2 := cell_heap hI (o := 2) rfl
  have i3 := cell_heap hI (o := 3) rfl
  have i4 := cell_heap hI (o := 4) rfl
  have i5 := cell_heap hI (o := 5) rfl
  have lI := heap_lt hI
  have HI := hide hI
  have HBx := hide hB
  have HkW := hide hkW
  clear hI hB hkW hI0 hB0
  cases bg with
  | true =>
    clear hof hsz hch hok
    go_wp2_with (first
      | (go_at_call 12; refine (hbg _ HkW.out).mono ?_; rintro e w1 ⟨⟨k, rfl, hk0⟩, hk1⟩; have hkp : 0 < k := by simpa using hk0)
      | (go_at_call 13; refine (hlv _ (HkW.out.trans' hk1)).mono ?_; rintro e w2 ⟨rfl, hk2⟩))
    go_ret
    exact ⟨rfl, (HkW.out.trans' hk1).trans' hk2⟩
  | false =>
  replace hof := fun w' hk => hof w' hk rfl
  replace hsz := hsz rfl
  replace hch := hch rfl
  replace hok := hok rfl
  have hun : ∀ z ∈ toldS C, u8k z := told_u8' hok
  have hln : (toldS C).length ≤ 3129 := by rw [← bytes_told (check_of hch).valid, bytes_len (check_of hch).valid]; exact hsz
  have hl9 : 9 ≤ (toldS C).length := by
    unfold toldS
    rw [List.length_append]
    have : (rawCfg C.d).length = 9 := rfl
    omega
  have hsm := small_valid' hch
  obtain ⟨D, IFS⟩ := C
  obtain ⟨n0', hn⟩ : ∃ n, IFS.length = n := ⟨_, rfl⟩
  unfold Cfg.cells CfgD.cells at hof
  simp only [hn, List.cons_append, List.nil_append] at hof
  obtain ⟨tl, htl⟩ : ∃ tl, toldS ⟨D, IFS⟩ = tl := ⟨_, rfl⟩
  rw [htl] at hun hln hl9
  obtain ⟨n, hnl⟩ : ∃ n, tl.length = n := ⟨_, rfl⟩
  obtain ⟨S0, hS0⟩ : ∃ S0, strB tl = S0 := ⟨_, rfl⟩
  have Hsz := hide hsz
  have Htl := hide htl
  have Hn := hide hn
  have Hun := hide hun
  have Hsm := hide hsm
  have HS0 := hide hS0
  have hlm : tl.length ≤ maxLen := by unfold maxLen; omega
  clear hok hch hsz hsm htl hn hun hS0
  go_upto_region 3 with (go_at_call 12; refine (hbg _ HkW.out).mono ?_; rintro e w1 ⟨⟨k, rfl, hk0⟩, hk1⟩; have hkp : k ≤ 0 := by simpa using hk0)
  have hI1 := heap_kept hk1 HI.out
  have hB1 := heap_kept hk1 HBx.out
  have j0 := cell_heap hI1 (o := 0) rfl; have j1 := cell_heap hI1 (o := 1) rfl; have j2 := cell_heap hI1 (o := 2) rfl; have j3 := cell_heap hI1 (o := 3) rfl; have j4 := cell_heap hI1 (o := 4) rfl; have j5 := cell_heap hI1 (o := 5) rfl
  have lJ := heap_lt hI1
  have hkw1 := HkW.out.trans' hk1
  have HB1 := hide hB1
  clear hI1 hB1 HI HBx i0 i1 i2 i3 i4 i5 lI hk1 hk0 hkp hbg
  go_upto_region 4 with (first
    | (go_at_call 14; refine (hof _ hkw1).mono ?_; rintro e w2 ⟨⟨AX, cx, rfl, hcfg⟩, hk2⟩; have htd : Calls Tryd.prog 17 #[.agg #[.int .u16 D.total, .int .u8 D.ifs, .int .u8 D.number, .int .u8 D.text, .bool D.self, .bool D.wake, .int .u8 D.power, .slice AX n0' cx]] w2 (fun e w3 => e = .returned (.string S0) ∧ Kept w2 w3) := (by
        have h := told_any ⟨D, IFS⟩ AX cx w2 hcfg (by have := Hsz.out; omega) Hsm.out
        unfold Cfg.cells CfgD.cells at h
        simp only [Hn.out, Htl.out, HS0.out, List.cons_append, List.nil_append] at h
        exact h))
    | (go_at_call 17; refine htd.mono ?_; rintro e w4 ⟨rfl, hk4⟩; obtain ⟨cp, w5, hrun, ⟨rr, fr, hrow, hrl, hfr⟩, hc1, hc2, hk5⟩ := str_sl tl w4 Hun.out hlm; rw [HS0.out, hnl] at hrun; have Hrow := hide hrow; clear hrow))
  have hrb : RowB w5 w4.heap.size cp tl := ⟨rr, by rw [← hfr]; exact Hrow.out, hrl⟩
  obtain ⟨g, hg⟩ : ∃ g, w4.heap.size = g := ⟨_, rfl⟩
  have hgw : w.heap.size ≤ g := by rw [← hg]; exact ((hkw1.trans' hk2).trans' hk4).size
  rw [hg] at hrb
  simp only [hg]
  have hk5w : Kept w w5 := ((hkw1.trans' hk2).trans' hk4).trans' hk5
  have hB5 := heap_kept ((hk2.trans' hk4).trans' hk5) HB1.out
  have b0 := cell_heap hB5 (o := 0) rfl
  have b1 := cell_heap hB5 (o := 1) rfl
  have lB := heap_lt hB5
  have Hrb := hide hrb
  have lg := hrb.lt
  rw [hnl] at hc1 hln hl9
  clear hrun hk2 hk4 hk5 hcfg htd hrb hg Hrow hrl hfr hB5 HB1 hof j0 j1 j2 j3 j4 j5 lJ hkw1
  have HcL := hide hc2
  unfold maxLen at hc2
  obtain ⟨i, hi⟩ : ∃ i : Nat, at0 % (n : Int) = (i : Int) := ⟨(at0 % (n : Int)).toNat, by have := Int.emod_nonneg at0 (show (n : Int) ≠ 0 by omega); omega⟩
  have hin : i < n := by have := Int.emod_lt_of_pos at0 (show (0 : Int) < (n : Int) by omega); omega
  have hwa : IntKind.i64.wrap at0 = at0 := by rw [IntKind.wrap_i64]; omega
  have hmod : at0.tmod (n : Int) = (i : Int) := by rw [Int.tmod_eq_emod_of_nonneg ha.1]; exact hi
  have hn0i : ¬ (n : Int) = 0 := by omega
  have hn0n : ¬ n = 0 := by omega
  obtain ⟨z0, z1⟩ := hh0
  obtain ⟨r, hr⟩ : ∃ r, h0 % 5 = r := ⟨_, rfl⟩
  have hmr : h0.tmod 5 = r := by rw [Int.tmod_eq_emod_of_nonneg z0]; exact hr
  have hr4 : r = 0 ∨ r = 1 ∨ r = 2 ∨ r = 3 ∨ r = 4 := by omega
  have hii : (0 : Int) ≤ (i : Int) := by omega
  have hin2 : (i : Int) < (n : Int) := by omega
  have hicp : i < cp := by omega
  have xi := Hrb.out.cell (i := i) (by omega)
  obtain ⟨_, fi⟩ := Hrb.out.spare hicp
  have hb8 : u8k (byteAt tl i) := byteAt_u8 Hun.out i
  obtain ⟨bi, hbi⟩ : ∃ bi, byteAt tl i = bi := ⟨_, rfl⟩
  rw [hbi] at xi hb8
  obtain ⟨y0, y1⟩ := hb8
  have Hnl := hide hnl
  clear hi hr hbi hnl
  rcases hr4 with rfl | rfl | rfl | rfl | rfl
  · go_upto_region 14 with (fail)
    (refine parse_tail (by first | exact hk5w | go_grown) (sl_set Hrb.out (by go_grown) Hnl.out hin Hun.out hh1) hc1 HcL.out (by omega) HTw.out _ ?_; assumption)
  · obtain ⟨p, hp⟩ : ∃ p, h1 % 2 = p := ⟨_, rfl⟩
    have hmp : h1.tmod 2 = p := by rw [Int.tmod_eq_emod_of_nonneg hh1.1]; exact hp
    have hp2 : p = 0 ∨ p = 1 := by omega
    clear hp
    go_upto_region 9 with (fail)
    rcases hp2 with rfl | rfl
    all_goals go_region_with (fail)
    all_goals go_upto_region 14 with (fail)
    all_goals (refine parse_tail (by first | exact hk5w | go_grown) (sl_setD Hrb.out (by first | exact Below.refl _ _ | go_grown) Hnl.out hin Hun.out (by first | exact wrap_u8k _ | exact mod_u8k _)) hc1 HcL.out (by omega) HTw.out _ ?_; assumption)
  · go_upto_region 11 with (fail)
    refine del_piece Hrb.out Hnl.out hin hc1 HcL.out (by omega) Hun.out hk5w hgw _ ?_
    intro s50 s51 s52 s53 s54 s55 s56 s57 w6 hk6 hsl6
    go_upto_region 14 with (fail)
    refine parse_tail hk6 hsl6 (by omega) HcL.out (by omega) HTw.out _ ?_
    assumption
  · go_upto_region 13 with (fail)
    refine dup_piece Hrb.out Hnl.out hin hc1 HcL.out (by omega) Hun.out hk5w hgw _ ?_
    intro s60 s61 s62 s63 s64 s65 s66 s67 A6 c6 h61 h62 w6 hk6 hsl6
    go_upto_region 14 with (fail)
    refine parse_tail hk6 hsl6 h61 h62 (by omega) HTw.out _ ?_
    assumption
  · go_upto_region 14 with (fail)
    (refine parse_tail (by first | exact hk5w | go_grown) (by have h := Hrb.out.sl Hun.out; rw [Hnl.out] at h; exact h) hc1 HcL.out (by omega) HTw.out _ ?_; assumption)
end Go.Proofs.YtjgncofhobhjdaaDoor
