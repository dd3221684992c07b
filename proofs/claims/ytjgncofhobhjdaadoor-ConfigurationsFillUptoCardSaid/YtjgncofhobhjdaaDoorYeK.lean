/- told: the law's bytes of a configuration. Printed by gen_ye.py. -/
import Derived.Test.YtjgncofhobhjdaaDoorChecked
import Derived.Deep.RegionHeld3
import Derived.Deep.DrawnRows
import Derived.Deep.DeepCutAuto
import Derived.Deep.LoopGhost
import Derived.Outline
import Derived.Handy
import Derived.OwnWalk
import Derived.BigQuiet
import Derived.Test.YtjgncofhobhjdaaDoorN11
set_option linter.unusedVariables false
set_option linter.unusedSimpArgs false
set_option linter.unusedSectionVars false
namespace Go.Proofs.YtjgncofhobhjdaaDoor
open Go.RowKit
attribute [local go_sem ↓] Go.wp_at_zero Go.wp_at_succ

theorem Own.lit8 {w : World} {base b n : Nat} {l : List Int} (h : w.heap[b]? = some (.cells (l.map (Value.int .u8)).toArray 5 (0, 0))) (hb : base ≤ b) (hl : ∀ z ∈ l, u8k z) (hn : l.length = n) (hm : n ≤ maxLen) : Own u8T 5 base w (.slice (some ⟨b, 0, none⟩) n n) n l := by
  subst hn
  refine ⟨rfl, l.map (Value.int .u8), ⟨by simp [u8T, Ty.flat], .inr ⟨b, l.length, _, rfl, hb, h, Nat.le_refl _, hm, by simp [u8T, Ty.flat], by rw [show l.length * u8T.size = l.length from Nat.mul_one _]; exact List.take_of_length_le (by simp)⟩⟩, fun i x hx => ⟨?_, hl x (List.mem_of_getElem? hx)⟩⟩
  show ((l.map (Value.int .u8)).drop (i * 1)).take 1 = [.int .u8 x]
  refine take_one.2 ?_
  show (l.map (Value.int .u8))[i]? = _
  rw [List.getElem?_map, hx]
  rfl
theorem attr_step (D : CfgD) : attrS D = (if D.self then 192 else 128) + (if D.wake then 32 else 0) := by
  unfold attrS
  cases D.self <;> rfl
theorem rawI_take {l : List Alt} {i : Nat} {x : Alt} (h : l[i]? = some x) : (l.take (i + 1)).flatMap rawAlt = (l.take i).flatMap rawAlt ++ rawAlt x := flatMap_take rawAlt h
theorem if_at_lt {w : World} {c : Cfg} {b off cap n : Nat} {A : Option Addr} (h : CfgIs w (low w.heap.size) c A cap) {i : Nat} (hi : i < n) (hn : c.ifs.length = n) (hA : A = some ⟨b, off, none⟩ := by rfl) : b < w.heap.size := by
  subst hA
  obtain ⟨x, b', off', cs, hx, e, hb, _⟩ := h.ifs.at (k := i) (by omega)
  injection e with e
  injection e with e _ _
  rw [e]
  exact hb
/-- the numbers of the endpoints are small -/
def SmallE (c : Cfg) : Prop := ∀ l ∈ c.ifs, ∀ a ∈ l, ∀ e ∈ a.eps, e.num < 16
set_option maxRecDepth 100000 in
set_option maxHeartbeats 16000000 in
theorem told_any (c : Cfg) (A : Option Addr) (cap : Nat) (w : World) (hC : CfgIs w (low w.heap.size) c A cap) (hz : sizeS c ≤ 100000) (hsm : SmallE c) :
    Calls Tryd.prog 17 #[.agg (c.cells A cap).toArray] w fun e w' => e = .returned (.string (strB (toldS c))) ∧ Kept w w' := by
  obtain ⟨i5, hi5, hz0, hz1, hz2⟩ := info_parts info5
  obtain ⟨D, L⟩ := c
  have hd := hC.d
  have hcm := hC.cap
  have hnc := hC.len
  simp only at hd hnc
  obtain ⟨n, hn⟩ : ∃ n, L.length = n := ⟨_, rfl⟩
  rw [sizeS_eq] at hz
  simp only at hz
  unfold maxLen at hcm
  unfold Cfg.cells
  unfold CfgD.cells
  simp only [hn, List.cons_append, List.nil_append] at hnc ⊢
  have HC := hide hC
  have Hn := hide hn
  have Hsm := hide hsm
  obtain ⟨⟨t0, t1⟩, ⟨i0, i1⟩, ⟨n0, n1⟩, ⟨x0, x1⟩, ⟨p0, p1⟩⟩ := hd
  have hat : attrS D = (if D.self then 192 else 128) + (if D.wake then 32 else 0) := attr_step D
  have hab : 0 ≤ attrS D ∧ attrS D < 256 := by rw [hat]; split <;> split <;> omega
  obtain ⟨at_, hatd⟩ : ∃ at_, attrS D = at_ := ⟨_, rfl⟩
  have Hraw : Hid (rawCfg D = [9, 2, D.total % 256, D.total / 256, D.ifs, D.number, D.text, at_, D.power]) := hide (by unfold rawCfg; rw [hatd])
  rw [hatd] at hat hab
  obtain ⟨ha0, ha1⟩ := hab
  obtain ⟨at1, hat1⟩ : ∃ at1 : Int, at1 = if D.self then 192 else 128 := ⟨_, rfl⟩
  rw [← hat1] at hat
  have hm0 : 0 ≤ D.total % 256 := by omega
  have hm1 : D.total % 256 < 256 := by omega
  have hd0 : 0 ≤ D.total / 256 := by omega
  have hd1 : D.total / 256 < 256 := by omega
  have hat1b : 0 ≤ at1 ∧ at1 ≤ 192 := by rw [hat1]; split <;> omega
  obtain ⟨hat1l, hat1h⟩ := hat1b
  have HAT := hide hat
  have HAT1 := hide hat1
  clear hC hn hsm hatd hat hat1
  go_enter Tryd.func17, Tryd.ntmps17
  go_upto_region 2 with (fail)
  refine wp_at (fun W => W.heap[w.heap.size]? = some (.cells #[.int .u16 D.total, .int .u8 D.ifs, .int .u8 D.number, .int .u8 D.text, .bool D.self, .bool D.wake, .int .u8 D.power, .slice A n cap] 32 (0, 0)) ∧ W.heap.size = w.heap.size + 1 ∧ Kept w W) ⟨heap_at _ rfl, by simp, by go_grown⟩ (fun W hW => ?_)
  obtain ⟨hB, hBz, hkW⟩ := hW
  obtain ⟨C0, hCd⟩ : ∃ C0, w.heap.size = C0 := ⟨_, rfl⟩
  rw [hCd] at hB hBz
  simp only [hCd]
  obtain ⟨B, hBd⟩ : ∃ B, W.heap.size = B := ⟨_, rfl⟩
  rw [hBd] at hBz
  have hCB : C0 < B := by omega
  have hwB : w.heap.size ≤ B := by omega
  have e0 := cell_heap hB (o := 0) rfl
  have e1 := cell_heap hB (o := 1) rfl
  have e2 := cell_heap hB (o := 2) rfl
  have e3 := cell_heap hB (o := 3) rfl
  have e4 := cell_heap hB (o := 4) rfl
  have e5 := cell_heap hB (o := 5) rfl
  have e6 := cell_heap hB (o := 6) rfl
  have e7 := cell_heap hB (o := 7) rfl
  have lB := heap_lt hB
  have HB := hide hB
  have HkW := hide hkW
  clear hB hkW hCd hBz
  go_upto_if 13 with (fail)
  go_cut [0, 3] (fun s0 s3 wc => wc = W ∧ s3 = .int .u8 at1)
  case first =>
    have hat1 := HAT1.out
    cases hs : D.self with
    | true =>
      rw [hs] at e4 hat1
      rw [if_pos rfl] at hat1
      have Hat1 := hide hat1
      clear hat1
      go_wp2_with fail
      go_meet
      exact ⟨rfl, by rw [Hat1.out]⟩
    | false =>
      rw [hs] at e4 hat1
      rw [if_neg (by decide)] at hat1
      have Hat1 := hide hat1
      clear hat1
      go_wp2_with fail
      go_meet
      exact ⟨rfl, by rw [Hat1.out]⟩
  case rest =>
  obtain ⟨hwc, rfl⟩ := hcut
  subst hwc
  rename World => W
  go_upto_if 18 with (fail)
  go_cut [0, 3] (fun s0 s3 wc => wc = W ∧ s3 = .int .u8 at_)
  case first =>
    have hat := HAT.out
    cases hs : D.wake with
    | true =>
      rw [hs] at e5 hat
      rw [if_pos rfl] at hat
      have Hat := hide hat
      have hw3 : IntKind.u8.wrap (at1 + 32) = at1 + 32 := by rw [IntKind.wrap_u8]; omega
      clear hat
      go_wp2_with fail
      go_meet
      exact ⟨rfl, by rw [Hat.out]⟩
    | false =>
      rw [hs] at e5 hat
      rw [if_neg (by decide), Int.add_zero] at hat
      have Hat := hide hat
      clear hat
      go_wp2_with fail
      go_meet
      exact ⟨rfl, by rw [Hat.out]⟩
  case rest =>
  obtain ⟨hwc, rfl⟩ := hcut
  subst hwc
  rename World => W
  clear HAT HAT1 hat1l hat1h
  have htd : IntKind.u16.wrap (D.total.tdiv 256) = D.total / 256 := by rw [Int.tdiv_eq_ediv_of_nonneg t0, IntKind.wrap_u16]; omega
  have htm : D.total / 256 % 256 = D.total / 256 := by omega
  go_upto_region 7 with (fail)
  have hu9 : ∀ z ∈ [9, 2, D.total % 256, D.total / 256, D.ifs, D.number, D.text, at_, D.power], u8k z := by
    intro z hz
    simp only [List.mem_cons, List.not_mem_nil, or_false] at hz
    unfold u8k
    rcases hz with rfl | rfl | rfl | rfl | rfl | rfl | rfl | rfl | rfl <;> omega
  refine wp_at (fun Y => Own u8T 5 B Y (.slice (some ⟨B, 0, none⟩) 9 9) 9 (rawCfg D) ∧ Kept W Y) ⟨?_, by go_grown⟩ (fun Y0 hY0 => ?_)
  · rw [Hraw.out]
    exact Own.lit8 (l := [9, 2, D.total % 256, D.total / 256, D.ifs, D.number, D.text, at_, D.power]) (heap_at _ hBd.symm) (Nat.le_refl _) hu9 rfl (by unfold maxLen; decide)
  obtain ⟨hO0, hk0⟩ := hY0
  have hraw9 : (rawCfg D).length = 9 := rfl
  obtain ⟨R0, hR0⟩ : ∃ R0, rawCfg D = R0 := ⟨_, rfl⟩
  rw [hR0] at hO0 hraw9
  have HR0 := hide hR0
  have HO0 := hide hO0
  have Hk0 := hide hk0
  have hBW : B ≤ W.heap.size := by omega
  have HBd := hide hBd
  clear hR0 hO0 hk0 hu9 htd htm e0 e1 e2 e3 e4 e5 e6 hBd
  go_wp2_with fail
  go_loopg [4, 5] n (fun g s4 s5 wr => ∃ (i : Nat) (Av : Option Addr) (nv cv : Nat) (bs : List Int), i + g = n ∧ s4 = .slice Av nv cv ∧ s5 = .int .i64 i ∧ Own u8T 5 B wr (.slice Av nv cv) nv bs ∧ bs = R0 ++ (L.take i).flatMap rawI ∧ Kept W wr ∧ nv ≤ 9 + sumC (L.take i))
  case atStart => exact ⟨0, _, 9, 9, R0, by omega, rfl, rfl, HO0.out, by simp, Hk0.out, by simp⟩
  case round =>
    obtain ⟨i, Av, nv, cv, bs, hi, rfl, rfl, hown, hbs, hkr, hnv⟩ := hrel
    have Hi := hide hi
    have Hbs := hide hbs
    have Hown := hide hown
    have Hkr := hide hkr
    have hBs := hkr.size
    have hC1 := heap_kept hkr HB.out
    have e7 := cell_heap hC1 (o := 7) rfl
    have lC1 := heap_lt hC1
    have hkw := HkW.out.trans' hkr
    have Hkw := hide hkw
    clear hi hbs hown hkr hC1 hkw
    by_cases hlt : i < n
    case neg =>
      have hge : (n : Int) ≤ (i : Int) := by omega
      have htk : L.take i = L := List.take_of_length_le (by have := Hn.out; omega)
      have hbt : bs = toldS ⟨D, L⟩ := by rw [Hbs.out, htk, ← HR0.out]; rfl
      have hcv := conv_sl cv (Hown.out.sl) (Below.refl _ _)
      rw [hbt] at hcv
      obtain ⟨S, hS⟩ : ∃ S, strB (toldS ⟨D, L⟩) = S := ⟨_, rfl⟩
      rw [hS] at hcv
      have HS := hide hS
      clear htk hbt hS hnv
      go_wp2_with fail
      go_ret
      exact ⟨by rw [HS.out]; rfl, Hkw.out⟩
    case pos =>
    obtain ⟨x, b, off, A', c', hx, rfl, hbl', x0', hxc, hcm', hs⟩ := if_at HC.out Hkw.out (i := i) (by show i < L.length; rw [Hn.out]; exact hlt)
    have hmem := List.mem_of_getElem? hx
    have h2 := sumC_take (l := L) (i := i) hx
    have h3 := sumC_le L (i + 1)
    have hfm := flatMap_take rawI (l := L) hx
    have Hsx := hide (Hsm.out x hmem)
    obtain ⟨m, hm⟩ : ∃ m, x.length = m := ⟨_, rfl⟩
    have h4 := len_le_sumIf x
    rw [hm] at x0' hxc hs h4
    have hi0 : (0 : Int) ≤ (i : Int) := by omega
    have hlt' : (i : Int) < (n : Int) := by omega
    have hwi : IntKind.i64.wrap ((i : Int) + 1) = ((i + 1 : Nat) : Int) := by rw [IntKind.wrap_i64]; omega
    unfold maxLen at hcm'
    obtain ⟨P, hP⟩ : ∃ P, 9 + sumC (L.take i) = P := ⟨_, rfl⟩
    rw [hP] at hnv
    have hPx : P + sumIf x ≤ 100000 := by omega
    have Hfm := hide hfm
    have Hm := hide hm
    have HP := hide hP
    have H2 := hide h2
    clear hx hmem h2 h3 hfm hm hP
    go_wp2_with fail
    obtain ⟨wo, rfl⟩ : ∃ wo, wo = wr := ⟨_, rfl⟩
    obtain ⟨go, rfl⟩ : ∃ go, go = gk := ⟨_, rfl⟩
    go_loopg [4, 6] m (fun g s4 s6 wr => ∃ (j : Nat) (Aw : Option Addr) (nw cw : Nat) (bt : List Int), j + g = m ∧ s4 = .slice Aw nw cw ∧ s6 = .int .i64 j ∧ Own u8T 5 B wr (.slice Aw nw cw) nw bt ∧ bt = bs ++ (x.take j).flatMap rawAlt ∧ Kept W wr ∧ nw ≤ P + sumIf (x.take j))
    case atStart => exact ⟨0, _, _, _, bs, by omega, rfl, rfl, Hown.out, by simp, Hkr.out, by simp [sumIf]; omega⟩
    case round =>
      obtain ⟨j, Aw, nw, cw, bt, hj, rfl, rfl, hown2, hbt, hkr2, hnw⟩ := hrel
      have Hj := hide hj
      have Hbt := hide hbt
      have Hown2 := hide hown2
      have Hkr2 := hide hkr2
      have hBs2 := hkr2.size
      have hC2 := heap_kept hkr2 HB.out
      have e7 := cell_heap hC2 (o := 7) rfl
      have lC2 := heap_lt hC2
      have hkw2 := HkW.out.trans' hkr2
      have x0 := ((hkr2.cell (p := ⟨b, off + i, none⟩) (Nat.lt_of_lt_of_le (if_at_lt HC.out hlt Hn.out) HkW.out.size)).trans ((Hkr.out.cell (p := ⟨b, off + i, none⟩) (Nat.lt_of_lt_of_le (if_at_lt HC.out hlt Hn.out) HkW.out.size)).symm)).trans x0'
      have lb2 : b < wr.heap.size := Nat.lt_of_lt_of_le (if_at_lt HC.out hlt Hn.out) hkw2.size
      have Hkw2 := hide hkw2
      clear hj hbt hown2 hkr2 hC2 hkw2
      by_cases hlj : j < m
      case neg =>
        have hge : (m : Int) ≤ (j : Int) := by omega
        have htk : x.take j = x := List.take_of_length_le (by have := Hm.out; omega)
        rw [htk] at hnw
        have Hbt2 := hide (show bt = bs ++ rawI x by rw [Hbt.out, htk]; rfl)
        have Hnw := hide hnw
        clear htk hnw
        go_wp2_with fail
        go_roundg (go - 1)
        case measure => have := Hi.out; omega
        case rel =>
          refine ⟨i + 1, Aw, nw, cw, bt, by have := Hi.out; omega, rfl, by first | rfl | go_num, Hown2.out, ?_, Hkr2.out, ?_⟩
          · rw [Hbt2.out, Hbs.out, Hfm.out, List.append_assoc]
          · have := Hnw.out
            have := H2.out
            have := HP.out
            omega
      case pos =>
      obtain ⟨a, b2, off2, X, cx, E, ce, ha, rfl, hbl2, hcells, hdo, q1, q2, q3, q4, q5, q6⟩ := alt_at hs Hkw2.out hlj
      have hamem := List.mem_of_getElem? ha
      have hsum := sumIf_take ha
      have hsle := sumIf_le x (j + 1)
      have hfm2 := flatMap_take rawAlt ha
      have hasz : altSize a = 9 + a.extra.length + 7 * a.eps.length := rfl
      unfold maxLen at q2 q4
      have y0 := hcells 0 _ rfl
      rw [Nat.add_zero] at y0
      have y1 := hcells 1 _ rfl
      have y2 := hcells 2 _ rfl
      have y3 := hcells 3 _ rfl
      have y4 := hcells 4 _ rfl
      have y5 := hcells 5 _ rfl
      have y6 := hcells 6 _ rfl
      have y7 := hcells 7 _ rfl
      have y8 := hcells 8 _ rfl
      have hj0 : (0 : Int) ≤ (j : Int) := by omega
      have hlj' : (j : Int) < (m : Int) := by omega
      have hwj : IntKind.i64.wrap ((j : Int) + 1) = ((j + 1 : Nat) : Int) := by rw [IntKind.wrap_i64]; omega
      obtain ⟨T, hT⟩ : ∃ T, P + sumIf (x.take j) = T := ⟨_, rfl⟩
      rw [hT] at hnw
      have hTa : T + (9 + a.extra.length + 7 * a.eps.length) ≤ 100000 := by omega
      have Hfm2 := hide hfm2
      have Hsum := hide hsum
      have Hasz := hide hasz
      have HT := hide hT
      have Hsa := hide (Hsx.out a hamem)
      clear hcells hsum hsle hfm2 hasz hT ha hamem x0'
      go_upto_region 14 with (fail)
      refine wp_at (fun Y => Y.heap[wr.heap.size]? = some (.cells #[.int .u8 a.d.num, .int .u8 a.d.alt, .int .u8 a.d.eps, .int .u8 a.d.cls, .int .u8 a.d.sub, .int .u8 a.d.proto, .int .u8 a.d.text, .slice X a.extra.length cx, .slice E a.eps.length ce] 56 (0, 0)) ∧ Own u8T 5 B Y (.slice Aw nw cw) nw bt ∧ Kept W Y) ⟨heap_at _ rfl, Hown2.out.kept (by go_grown), Hkr2.out.trans' (by go_grown)⟩ (fun Y1 hY1 => ?_)
      obtain ⟨hA1, hown3, hk3⟩ := hY1
      obtain ⟨AB, hABd⟩ : ∃ AB, wr.heap.size = AB := ⟨_, rfl⟩
      rw [hABd] at hA1
      simp only [hABd]
      have hl1 := heap_lt hA1
      have z0 := cell_heap hA1 (o := 0) rfl
      have z1 := cell_heap hA1 (o := 1) rfl
      have z2 := cell_heap hA1 (o := 2) rfl
      have z3 := cell_heap hA1 (o := 3) rfl
      have z4 := cell_heap hA1 (o := 4) rfl
      have z5 := cell_heap hA1 (o := 5) rfl
      have z6 := cell_heap hA1 (o := 6) rfl
      have z7 := cell_heap hA1 (o := 7) rfl
      have z8 := cell_heap hA1 (o := 8) rfl
      have hBs := hk3.size
      obtain ⟨⟨d0, d1⟩, ⟨d2, d3⟩, ⟨d4, d5⟩, ⟨d6, d7⟩, ⟨d8, d9⟩, ⟨d10, d11⟩, ⟨d12, d13⟩⟩ := hdo
      have hu9 : ∀ z ∈ [9, 4, a.d.num, a.d.alt, a.d.eps, a.d.cls, a.d.sub, a.d.proto, a.d.text], u8k z := by
        intro z hz
        simp only [List.mem_cons, List.not_mem_nil, or_false] at hz
        unfold u8k
        rcases hz with rfl | rfl | rfl | rfl | rfl | rfl | rfl | rfl | rfl <;> omega
      have Hk3 := hide hk3
      clear y0 y1 y2 y3 y4 y5 y6 y7 y8 hk3 hABd
      go_upto_region 15 with (at_builtin; refine wpList_append_sl (T := u8T) rfl (.tmp 72) (.tmp 94) 34 rfl B 5 i5 _ 1 Tryd.underlying34 hi5 hz0 hz1 hz2 rfl (by decide) _ nw bt (by rfl) (hown3.alloc _) (some ⟨Y1.heap.size, 0, none⟩) 9 9 [9, 4, a.d.num, a.d.alt, a.d.eps, a.d.cls, a.d.sub, a.d.proto, a.d.text] (by rfl) (sl_lit8 (l := [9, 4, a.d.num, a.d.alt, a.d.eps, a.d.cls, a.d.sub, a.d.proto, a.d.text]) (heap_at _ rfl) ⟨by simp, fun e => by have := (hown3.lt e).2; omega⟩ hu9) (by_one8 _ _) (by unfold maxLen; omega) (by omega) (by have := hBs; simp; omega) ?_; intro v7 w7 hown7 hg7 hb7 hat7; obtain ⟨A7, c7, rfl, h71, h72⟩ := hown7.isSlice)
      refine wp_at (fun Y => Y.heap[AB]? = some (.cells #[.int .u8 a.d.num, .int .u8 a.d.alt, .int .u8 a.d.eps, .int .u8 a.d.cls, .int .u8 a.d.sub, .int .u8 a.d.proto, .int .u8 a.d.text, .slice X a.extra.length cx, .slice E a.eps.length ce] 56 (0, 0)) ∧ Own u8T 5 B Y (.slice A7 (nw + 9) c7) (nw + 9) (bt ++ rawIf a.d) ∧ Kept W Y) ⟨heap_grown hg7 (heap_past hA1) (fun e => own_notTy hown3 hA1 (by decide) e.symm), hown7, ?_⟩ (fun Y2 hY2 => ?_)
      · have h := hb7
        rw [← HBd.out] at h
        exact (Hk3.out.trans' ((Below.refl _ _).alloc (Nat.le_refl _) _)).trans h
      obtain ⟨hA2, hown4, hk4⟩ := hY2
      have hl2 := heap_lt hA2
      have z7 := cell_heap hA2 (o := 7) rfl
      have z8 := cell_heap hA2 (o := 8) rfl
      have hBs := hk4.size
      have hkw4 := HkW.out.trans' hk4
      have hwx : Sl u8T Y2 (apart Y2 (.slice A7 (nw + 9) c7)) X a.extra.length a.extra := q5.keep (fun b hb => ⟨Nat.lt_of_lt_of_le hb hkw4.size, fun e => by have h1 := (hown4.lt e).1; have h2 : b < w.heap.size := hb; omega⟩) (fun b o hb => hkw4.cell (p := ⟨b, o, none⟩) hb)
      obtain ⟨nx, hnx⟩ : ∃ nx, a.extra.length = nx := ⟨_, rfl⟩
      have Hnx := hide hnx
      rw [hnx] at z7 hwx q1 hTa
      have Hk4 := hide hk4
      clear z0 z1 z2 z3 z4 z5 z6 hA1 hown3 hown7 hg7 hb7 hat7 hu9 hk4 hl1 hnx
      go_upto_region 16 with (at_builtin; refine wpList_append_sl (T := u8T) rfl (.tmp 96) (.tmp 98) 34 rfl B 5 i5 _ 1 Tryd.underlying34 hi5 hz0 hz1 hz2 rfl (by decide) _ (nw + 9) (bt ++ rawIf a.d) (by rfl) hown4 X nx cx a.extra (by rfl) hwx (by_one8 _ _) (by unfold maxLen; omega) (by omega) (by have := hBs; simp; omega) ?_; intro v7 w7 hown7 hg7 hb7 hat7; obtain ⟨A7, c7, rfl, h71, h72⟩ := hown7.isSlice)
      refine wp_at (fun Y => Y.heap[AB]? = some (.cells #[.int .u8 a.d.num, .int .u8 a.d.alt, .int .u8 a.d.eps, .int .u8 a.d.cls, .int .u8 a.d.sub, .int .u8 a.d.proto, .int .u8 a.d.text, .slice X a.extra.length cx, .slice E a.eps.length ce] 56 (0, 0)) ∧ Own u8T 5 B Y (.slice A7 (nw + 9 + nx) c7) (nw + 9 + nx) (bt ++ rawIf a.d ++ a.extra) ∧ Kept W Y) ⟨heap_grown hg7 hA2 (fun e => own_notTy hown4 hA2 (by decide) e.symm), hown7, ?_⟩ (fun Y3 hY3 => ?_)
      · have h := hb7
        rw [← HBd.out] at h
        exact Hk4.out.trans h
      obtain ⟨hA3, hown5, hk5⟩ := hY3
      have hl3 := heap_lt hA3
      have z8 := cell_heap hA3 (o := 8) rfl
      obtain ⟨r, hr⟩ : ∃ r, a.eps.length = r := ⟨_, rfl⟩
      have Hr := hide hr
      rw [hr] at q3 q6 z8 hTa
      have Hk5 := hide hk5
      have Hown5 := hide hown5
      have HA3 := hide hA3
      clear hA2 hown4 hown7 hg7 hb7 hat7 hwx hk5 hown5 hA3 hr z7 hl2 hkw4
      go_wp2_with fail
      obtain ⟨w2o, rfl⟩ : ∃ w2o, w2o = wr := ⟨_, rfl⟩
      obtain ⟨g4, rfl⟩ : ∃ g4, g4 = gk := ⟨_, rfl⟩
      go_loopg [4, 8] r (fun g s4 s8 wr => ∃ (p : Nat) (Au : Option Addr) (nu cu : Nat) (bu : List Int), p + g = r ∧ s4 = .slice Au nu cu ∧ s8 = .int .i64 p ∧ wr.heap[AB]? = some (.cells #[.int .u8 a.d.num, .int .u8 a.d.alt, .int .u8 a.d.eps, .int .u8 a.d.cls, .int .u8 a.d.sub, .int .u8 a.d.proto, .int .u8 a.d.text, .slice X a.extra.length cx, .slice E a.eps.length ce] 56 (0, 0)) ∧ Own u8T 5 B wr (.slice Au nu cu) nu bu ∧ bu = bt ++ rawIf a.d ++ a.extra ++ (a.eps.take p).flatMap rawEp ∧ Kept W wr ∧ nu ≤ T + 9 + nx + 7 * p)
      case atStart => exact ⟨0, _, _, _, _, by omega, rfl, rfl, HA3.out, Hown5.out, by simp, Hk5.out, by omega⟩
      case round =>
        obtain ⟨p, Au, nu, cu, bu, hp, rfl, rfl, hA4, hown6, hbu, hk6, hnu⟩ := hrel
        have Hp := hide hp
        have Hbu := hide hbu
        have Hown6 := hide hown6
        have Hk6 := hide hk6
        have HA4 := hide hA4
        have hl4 := heap_lt hA4
        have z8 := cell_heap hA4 (o := 8) rfl
        rw [show #[Value.int .u8 a.d.num, .int .u8 a.d.alt, .int .u8 a.d.eps, .int .u8 a.d.cls, .int .u8 a.d.sub, .int .u8 a.d.proto, .int .u8 a.d.text, .slice X a.extra.length cx, .slice E a.eps.length ce][8] = .slice E a.eps.length ce from rfl, Hr.out] at z8
        have hkw6 := HkW.out.trans' hk6
        have hBs := hk6.size
        clear hp hbu hown6 hA4 hk6
        by_cases hlp : p < r
        case neg =>
          have hge : (r : Int) ≤ (p : Int) := by omega
          have htk : a.eps.take p = a.eps := List.take_of_length_le (by have := Hr.out; omega)
          have hpr : p = r := by have := Hp.out; omega
          have Hpr := hide hpr
          have Hbu2 := hide (show bu = bt ++ rawAlt a by rw [Hbu.out, htk]; unfold rawAlt; simp only [List.append_assoc])
          clear htk hpr
          go_wp2_with fail
          go_roundg (g4 - 1)
          case measure => have := Hj.out; omega
          case rel =>
            refine ⟨j + 1, Au, nu, cu, bu, by have := Hj.out; omega, rfl, by first | rfl | go_num, Hown6.out, ?_, Hk6.out, ?_⟩
            · rw [Hbu2.out, Hbt.out, Hfm2.out, List.append_assoc]
            · have := Hsum.out
              have := Hasz.out
              have := HT.out
              have := Hpr.out
              have := Hr.out
              have := Hnx.out
              omega
        case pos =>
        obtain ⟨ep, be, offe, cse, hep, rfl, hbe, hrel', hce⟩ := q6.at hlp
        obtain ⟨rfl, hdo3⟩ : cse = ep.cells ∧ ep.ok := hrel'
        have hen := Hsa.out ep (List.mem_of_getElem? hep)
        have hfm3 := flatMap_take rawEp hep
        have hbe' := Nat.lt_of_lt_of_le hbe hkw6.size
        have y := fun (o : Nat) v (hv : ep.cells[o]? = some v) => (hkw6.cell (p := ⟨be, offe + p * 5 + o, none⟩) hbe).trans (hce o v hv)
        have y0 := y 0 _ rfl
        rw [Nat.add_zero] at y0
        have y1 := y 1 _ rfl
        have y2 := y 2 _ rfl
        have y3 := y 3 _ rfl
        have y4 := y 4 _ rfl
        have hp0 : (0 : Int) ≤ (p : Int) := by omega
        have hlp' : (p : Int) < (r : Int) := by omega
        have hwp : IntKind.i64.wrap ((p : Int) + 1) = ((p + 1 : Nat) : Int) := by rw [IntKind.wrap_i64]; omega
        obtain ⟨⟨p0', p1'⟩, ⟨p2, p3⟩, ⟨p4, p5⟩, ⟨p6, p7⟩⟩ := hdo3
        obtain ⟨ad, had⟩ : ∃ ad : Int, addrS ep = ad := ⟨_, rfl⟩
        have had2 : ad = if ep.inn then ep.num + 128 else ep.num := by
          rw [← had]
          unfold addrS
          split <;> omega
        have had3 : 0 ≤ ad ∧ ad < 256 := by rw [← had]; exact addrS_small ep
        obtain ⟨ad0, ad1⟩ := had3
        have hm0' : 0 ≤ ep.max % 256 := by omega
        have hm1' : ep.max % 256 < 256 := by omega
        have htd : IntKind.u16.wrap (ep.max.tdiv 256) = ep.max / 256 := by rw [Int.tdiv_eq_ediv_of_nonneg p4, IntKind.wrap_u16]; omega
        have htm : ep.max / 256 % 256 = ep.max / 256 := by omega
        have Hraw3 : Hid (rawEp ep = [7, 5, ad, ep.kind, ep.max % 256, ep.max / 256, ep.ivl]) := hide (by unfold rawEp; rw [had])
        have Hfm3 := hide hfm3
        have HAD := hide had2
        clear y hfm3 had had2 hep hce hkw6
        go_upto_region 20 with (fail)
        refine wp_at (fun Y => Y.heap[wr.heap.size]? = some (.cells #[.int .u8 ep.num, .bool ep.inn, .int .u8 ep.kind, .int .u16 ep.max, .int .u8 ep.ivl] 59 (0, 0)) ∧ Y.heap[AB]? = some (.cells #[.int .u8 a.d.num, .int .u8 a.d.alt, .int .u8 a.d.eps, .int .u8 a.d.cls, .int .u8 a.d.sub, .int .u8 a.d.proto, .int .u8 a.d.text, .slice X a.extra.length cx, .slice (some ⟨be, offe, none⟩) a.eps.length ce] 56 (0, 0)) ∧ Own u8T 5 B Y (.slice Au nu cu) nu bu ∧ Kept W Y) ⟨heap_at _ rfl, heap_past HA4.out, Hown6.out.kept (by go_grown), Hk6.out.trans' (by go_grown)⟩ (fun Y5 hY5 => ?_)
        obtain ⟨hE5, hA5, hown8, hk8⟩ := hY5
        obtain ⟨EB, hEBd⟩ : ∃ EB, wr.heap.size = EB := ⟨_, rfl⟩
        rw [hEBd] at hE5
        simp only [hEBd]
        have hl5 := heap_lt hE5
        have z0 := cell_heap hE5 (o := 0) rfl
        have z1 := cell_heap hE5 (o := 1) rfl
        have z2 := cell_heap hE5 (o := 2) rfl
        have z3 := cell_heap hE5 (o := 3) rfl
        have z4 := cell_heap hE5 (o := 4) rfl
        have hBs := hk8.size
        have Hk8 := hide hk8
        clear y0 y1 y2 y3 y4 hk8 hEBd
        go_upto_if 115 with (fail)
        go_cut [10] (fun s10 wc => wc = Y5 ∧ s10 = .int .u8 ad)
        case first =>
          have had2 := HAD.out
          cases hs : ep.inn with
          | true =>
            rw [hs] at z1 had2
            rw [if_pos rfl] at had2
            have Hh := hide had2
            have hw3 : IntKind.u8.wrap (ep.num + 128) = ep.num + 128 := by rw [IntKind.wrap_u8]; omega
            clear had2
            go_wp2_with fail
            go_meet
            exact ⟨rfl, by rw [Hh.out]⟩
          | false =>
            rw [hs] at z1 had2
            rw [if_neg (by decide)] at had2
            have Hh := hide had2
            clear had2
            go_wp2_with fail
            go_meet
            exact ⟨rfl, by rw [Hh.out]⟩
        case rest =>
          obtain ⟨hwc, rfl⟩ := hcut
          subst hwc
          rename World => Y5
          have hu7 : ∀ z ∈ [7, 5, ad, ep.kind, ep.max % 256, ep.max / 256, ep.ivl], u8k z := by
            intro z hz
            simp only [List.mem_cons, List.not_mem_nil, or_false] at hz
            unfold u8k
            rcases hz with rfl | rfl | rfl | rfl | rfl | rfl | rfl <;> omega
          go_upto_region 18 with (at_builtin; refine wpList_append_sl (T := u8T) rfl (.tmp 118) (.tmp 132) 34 rfl B 5 i5 _ 1 Tryd.underlying34 hi5 hz0 hz1 hz2 rfl (by decide) _ nu bu (by rfl) (hown8.alloc _) (some ⟨Y5.heap.size, 0, none⟩) 7 7 [7, 5, ad, ep.kind, ep.max % 256, ep.max / 256, ep.ivl] (by rfl) (sl_lit8 (l := [7, 5, ad, ep.kind, ep.max % 256, ep.max / 256, ep.ivl]) (heap_at _ rfl) ⟨by simp, fun e => by have := (hown8.lt e).2; omega⟩ hu7) (by_one8 _ _) (by unfold maxLen; omega) (by omega) (by have := hBs; simp; omega) ?_; intro v7 w7 hown7 hg7 hb7 hat7; obtain ⟨A7, c7, rfl, h71, h72⟩ := hown7.isSlice)
          have hA7 := heap_grown hg7 (heap_past hA5) (fun e => own_notTy hown8 hA5 (by decide) e.symm)
          have hk7 : Kept W w7 := by
            have h := hb7
            rw [← HBd.out] at h
            exact (Hk8.out.trans' ((Below.refl _ _).alloc (Nat.le_refl _) _)).trans h
          have HA7 := hide hA7
          have HO7 := hide hown7
          have Hk7 := hide hk7
          clear hA7 hown7 hg7 hb7 hat7 hu7 hk7 hE5 hA5 hown8
          go_wp2_with fail
          go_roundg (gk - 1)
          case measure => have := Hp.out; omega
          case rel =>
            refine ⟨p + 1, _, nu + 7, _, bu ++ rawEp ep, by have := Hp.out; omega, rfl, by first | rfl | go_num, HA7.out, ?_, ?_, Hk7.out, by omega⟩
            · rw [Hraw3.out]; exact HO7.out
            · rw [Hfm3.out, Hbu.out]; simp only [List.append_assoc]
end Go.Proofs.YtjgncofhobhjdaaDoor
