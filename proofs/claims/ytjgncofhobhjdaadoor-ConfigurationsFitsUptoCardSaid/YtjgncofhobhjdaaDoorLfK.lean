/- ConfigurationsFits, walked. Printed by gen_lf.py. -/
import Derived.Test.YtjgncofhobhjdaaDoorChecked
import Derived.Deep.RegionHeld3
import Derived.Deep.DrawnRows
import Derived.Deep.DeepCutAuto
import Derived.Deep.LoopGhost
import Derived.Outline
import Derived.Handy
import Derived.OwnWalk
import Derived.BigQuiet
import Derived.Test.YtjgncofhobhjdaaDoorN14
import Derived.Test.YtjgncofhobhjdaaDoorN11
import Derived.Test.YtjgncofhobhjdaaDoorN15
set_option linter.unusedVariables false
set_option linter.unusedSimpArgs false
set_option linter.unusedSectionVars false
namespace Go.Proofs.YtjgncofhobhjdaaDoor
open Go.RowKit
attribute [local go_sem ↓] Go.wp_at_zero Go.wp_at_succ

set_option maxRecDepth 100000 in
set_option maxHeartbeats 16000000 in
theorem fits_law (x : PC) (A : Option Addr) (cap : Nat) (s : Int) (w : World) (hC : PcIs w x A cap) (hx : x.ok) (hs8 : u8k s) (hz : countP x.ifs ≤ 2000000) (hT : Tabs w) :
    Calls Tryd.prog 11 #[.agg (x.cells A cap).toArray, .int .u8 s] w fun e w' => e = .returned (.bool true) ∧ Kept w w' := by
  have hbg := fun w' (hk : Kept w w') => big_any x A cap w' (hC.kept hk) hz
  have hof := fun w' (hk : Kept w w') hb => of_plain x A cap w' (hC.kept hk) hb hx
  have hlv := fun w' (hk : Kept w w') => lives_any w' (hT.kept hk)
  obtain ⟨bg, hbgd⟩ : ∃ bg, bigS x = bg := ⟨_, rfl⟩
  have hsz := fun hb => of_size (x := x) hb hx
  have hch := fun hb => of_check (x := x) hb hx
  have hok := fun hb => of_ok (x := x) hb hx
  obtain ⟨C, hCd⟩ : ∃ C, ofS x = C := ⟨_, rfl⟩
  simp only [hbgd, hCd] at hbg hof hsz hch hok
  obtain ⟨nu, te, po, se, wa, L⟩ := x
  obtain ⟨n0, hn0⟩ : ∃ n0, L.length = n0 := ⟨_, rfl⟩
  unfold PC.cells at hbg hof ⊢
  simp only [hn0] at hbg hof ⊢
  clear hC hx hz hT hn0 hbgd hCd
  go_enter Tryd.func11, Tryd.ntmps11
  go_upto_region 1 with (fail)
  refine wp_at (fun W => W.heap[w.heap.size]? = some (.cells #[.int .u8 nu, .int .u8 te, .int .u8 po, .bool se, .bool wa, .slice A n0 cap] 24 (0, 0)) ∧ Kept w W) ⟨heap_at _ rfl, by go_grown⟩ (fun W hW => ?_)
  obtain ⟨hI, hkW⟩ := hW
  obtain ⟨I0, hI0⟩ : ∃ I0, w.heap.size = I0 := ⟨_, rfl⟩
  rw [hI0] at hI
  simp only [hI0]
  have i0 := cell_heap hI (o := 0) rfl
  have i1 := cell_heap hI (o := 1) rfl
  have i2 := cell_heap hI (o := 2) rfl
  have i3 := cell_heap hI (o := 3) rfl
  have i4 := cell_heap hI (o := 4) rfl
  have i5 := cell_heap hI (o := 5) rfl
  have lI := heap_lt hI
  have HI := hide hI
  have HkW := hide hkW
  clear hI hkW hI0
  cases bg with
  | true =>
    clear hof hsz hch hok
    go_wp2_with (first
      | (go_at_call 12; refine (hbg _ HkW.out).mono ?_; rintro e w1 ⟨⟨k, rfl, hk0⟩, hk1⟩; have hkp : 0 < k := by simpa using hk0)
      | (go_at_call 13; refine (hlv _ (HkW.out.trans' hk1)).mono ?_; rintro e w2 ⟨rfl, hk2⟩))
    go_ret
    exact ⟨rfl, (HkW.out.trans' hk1).trans' hk2⟩
  | false =>
  replace hof := fun w' hk => hof w' hk rfl
  replace hsz := hsz rfl
  replace hch := hch rfl
  replace hok := hok rfl
  obtain ⟨D, IFS⟩ := C
  obtain ⟨n, hn⟩ : ∃ n, IFS.length = n := ⟨_, rfl⟩
  unfold Cfg.cells CfgD.cells at hof
  simp only [hn, List.cons_append, List.nil_append] at hof
  have hsz' : 9 + sumC IFS ≤ 3129 := hsz
  have Hn := hide hn
  clear hok hch hsz hn
  go_upto_region 3 with (go_at_call 12; refine (hbg _ HkW.out).mono ?_; rintro e w1 ⟨⟨k, rfl, hk0⟩, hk1⟩; have hkp : k ≤ 0 := by simpa using hk0)
  have hI1 := heap_kept hk1 HI.out
  have j0 := cell_heap hI1 (o := 0) rfl; have j1 := cell_heap hI1 (o := 1) rfl; have j2 := cell_heap hI1 (o := 2) rfl; have j3 := cell_heap hI1 (o := 3) rfl; have j4 := cell_heap hI1 (o := 4) rfl; have j5 := cell_heap hI1 (o := 5) rfl
  have lJ := heap_lt hI1
  have hkw1 := HkW.out.trans' hk1
  clear hI1 HI i0 i1 i2 i3 i4 i5 lI hk1 hk0 hkp hbg
  go_upto_region 4 with (go_at_call 14; refine (hof _ hkw1).mono ?_; rintro e w2 ⟨⟨AX, cx, rfl, hcfg⟩, hk2⟩)
  refine wp_at (fun V => ∃ CB, V.heap[CB]? = some (.cells #[.int .u16 D.total, .int .u8 D.ifs, .int .u8 D.number, .int .u8 D.text, .bool D.self, .bool D.wake, .int .u8 D.power, .slice AX n cx] 32 (0, 0)) ∧ CB = w2.heap.size ∧ Kept w2 V) ⟨_, heap_at _ rfl, rfl, by go_grown⟩ (fun V hV => ?_)
  obtain ⟨CB, hCB, hCBd, hkV⟩ := hV
  rw [← hCBd]
  have hCV := hcfg.kept hkV
  have hkwV := (hkw1.trans' hk2).trans' hkV
  have hft : ∀ w', Kept V w' → Calls Tryd.prog 29 #[.agg #[.int .u16 D.total, .int .u8 D.ifs, .int .u8 D.number, .int .u8 D.text, .bool D.self, .bool D.wake, .int .u8 D.power, .slice AX n cx], .int .u8 s] w' (fun e w2 => e = .returned (.bool (fitsC ⟨D, IFS⟩ s)) ∧ Kept w' w2) := fun w' hk => by
    have h := cfits_any ⟨D, IFS⟩ AX cx s w' (hCV.kept hk) hs8
    unfold Cfg.cells CfgD.cells at h
    simp only [Hn.out, List.cons_append, List.nil_append] at h
    exact h
  obtain ⟨R, hR⟩ : ∃ R, fitsC ⟨D, IFS⟩ s = R := ⟨_, rfl⟩
  simp only [hR] at hft
  have HR := hide (show IFS.all (fitsI s) = R from hR)
  have hcn := hCV.len
  have hcm := hCV.cap
  simp only at hcn
  rw [Hn.out] at hcn
  unfold maxLen at hcm
  have HCB := hide hCB
  have HCV := hide hCV
  have HkwV := hide hkwV
  have Hs8 := hide hs8
  clear hCB hCBd hkV hcfg hk2 hkw1 hof hR hCV hkwV j0 j1 j2 j3 j4 j5 lJ
  go_wp2_with fail
  go_loopg [6, 7, 8] n (fun g s6 s7 s8 wr => ∃ (i k m : Nat), i + g = n ∧ s6 = .int .i64 k ∧ s7 = .int .i64 m ∧ s8 = .int .i64 i ∧ Kept V wr ∧ k ≤ sumC (IFS.take i) ∧ m ≤ sumC (IFS.take i) ∧ decide (k = 0) = (IFS.take i).all (fitsI s))
  case atStart => exact ⟨0, 0, 0, by omega, rfl, rfl, rfl, Below.refl _ _, Nat.zero_le _, Nat.zero_le _, rfl⟩
  case round =>
    obtain ⟨i, k, m, hi, rfl, rfl, rfl, hkr, hk1, hm1, hkd⟩ := hrel
    have Hi := hide hi
    have Hkd := hide hkd
    have hVB := heap_kept hkr HCB.out
    have d0 := cell_heap hVB (o := 0) rfl
    have d1 := cell_heap hVB (o := 1) rfl
    have d2 := cell_heap hVB (o := 2) rfl
    have d3 := cell_heap hVB (o := 3) rfl
    have d4 := cell_heap hVB (o := 4) rfl
    have d5 := cell_heap hVB (o := 5) rfl
    have d6 := cell_heap hVB (o := 6) rfl
    have d7 := cell_heap hVB (o := 7) rfl
    have lV := heap_lt hVB
    clear hi hkd hVB
    by_cases hlt : i < n
    case neg =>
      have hge : (n : Int) ≤ (i : Int) := by omega
      have htk : IFS.take i = IFS := List.take_of_length_le (by have := Hn.out; omega)
      have hkR : decide (k = 0) = R := by rw [Hkd.out, htk]; exact HR.out
      have hq : ((k : Int) == 0) = R := by
        rw [← hkR]
        by_cases h : k = 0
        · subst h; rfl
        · rw [decide_eq_false h]; simpa using h
      have hRR : (R == R) = true := by simp
      clear htk hk1 hm1
      go_wp2_with (first
        | (go_at_call 29; refine (hft _ hkr).mono ?_; rintro e w3 ⟨rfl, hk3⟩)
        | (go_at_call 13; refine (hlv _ ((HkwV.out.trans' hkr).trans' hk3)).mono ?_; rintro e w4 ⟨rfl, hk4⟩))
      go_ret
      exact ⟨rfl, ((HkwV.out.trans' hkr).trans' hk3).trans' hk4⟩
    case pos =>
    obtain ⟨x, b, off, A', c', hx, rfl, hblV, x0V, hxc, hcm', hs⟩ := if_at HCV.out (Below.refl _ _) (i := i) (by show i < IFS.length; rw [Hn.out]; exact hlt)
    have hx : IFS[i]? = some x := hx
    have h2 := sumC_take hx
    have h3 := sumC_le IFS (i + 1)
    have h4 := all_takeS (fitsI s) hx
    obtain ⟨q, hq⟩ : ∃ q, x.length = q := ⟨_, rfl⟩
    rw [hq] at x0V hxc hs
    have hbl := Nat.lt_of_lt_of_le hblV hkr.size
    have x0 := (hkr.cell (p := ⟨b, off + i, none⟩) hblV).trans x0V
    have hi0 : (0 : Int) ≤ (i : Int) := by omega
    have hlt' : (i : Int) < (n : Int) := by omega
    have hwi : IntKind.i64.wrap ((i : Int) + 1) = ((i + 1 : Nat) : Int) := by rw [IntKind.wrap_i64]; omega
    unfold maxLen at hcm'
    obtain ⟨P, hP⟩ : ∃ P, sumC (IFS.take i) = P := ⟨_, rfl⟩
    rw [hP] at hk1 hm1 h2
    have hPx : P + sumIf x ≤ 3129 := by omega
    have Hq := hide hq
    have H2 := hide h2
    have H4 := hide h4
    have HP := hide hP
    clear hx h2 h3 h4 hq hP
    go_wp2_with fail
    obtain ⟨go, rfl⟩ : ∃ go, go = gk := ⟨_, rfl⟩
    go_loopg [6, 7, 9] q (fun g s6 s7 s9 wr => ∃ (j k2 m2 : Nat), j + g = q ∧ s6 = .int .i64 k2 ∧ s7 = .int .i64 m2 ∧ s9 = .int .i64 j ∧ Kept V wr ∧ k2 ≤ P + sumIf (x.take j) ∧ m2 ≤ P + sumIf (x.take j) ∧ decide (k2 = 0) = (decide (k = 0) && (x.take j).all (fitsA s)))
    case atStart => exact ⟨0, k, m, by omega, rfl, rfl, rfl, hkr, by simpa [sumIf] using hk1, by simpa [sumIf] using hm1, by simp⟩
    case round =>
      clear x0 hbl d0 d1 d2 d3 d4 d5 d6 d7 lV
      obtain ⟨j, k2, m2, hj, rfl, rfl, rfl, hkr2, hk2, hm2, hkd2⟩ := hrel
      have hVB := heap_kept hkr2 HCB.out
      have lV := heap_lt hVB
      have d7 := cell_heap hVB (o := 7) rfl
      have hbl := Nat.lt_of_lt_of_le hblV hkr2.size
      have x0 := (hkr2.cell (p := ⟨b, off + i, none⟩) hblV).trans x0V
      clear hVB
      have Hj := hide hj
      have Hkd2 := hide hkd2
      clear hj hkd2
      by_cases hlj : j < q
      case neg =>
        have hge : (q : Int) ≤ (j : Int) := by omega
        have htk : x.take j = x := List.take_of_length_le (by have := Hq.out; omega)
        rw [htk] at hk2 hm2
        have hkd2 := Hkd2.out
        rw [htk] at hkd2
        have Hkk := hide (show k2 ≤ sumC (IFS.take (i + 1)) ∧ m2 ≤ sumC (IFS.take (i + 1)) by have := H2.out; omega)
        have Hkz := hide (show decide (k2 = 0) = (IFS.take (i + 1)).all (fitsI s) by rw [H4.out, ← Hkd.out]; exact hkd2)
        clear htk hkd2 hk2 hm2
        go_wp2_with fail
        go_roundg (go - 1)
        case measure => have := Hi.out; omega
        case rel => exact ⟨i + 1, k2, m2, by have := Hi.out; omega, rfl, rfl, rfl, hkr2, Hkk.out.1, Hkk.out.2, Hkz.out⟩
      case pos =>
      obtain ⟨a, b2, off2, X, cX, E, ce, ha, rfl, hbl2, hcells, hdo, q1, q2, q3, q4, q5, q6⟩ := alt_at hs hkr2 hlj
      have h5 := sumIf_take ha
      have h6 := sumIf_le x (j + 1)
      have h7 := all_takeS (fitsA s) ha
      have y8 := hcells 8 _ rfl
      have hj0 : (0 : Int) ≤ (j : Int) := by omega
      have hlj' : (j : Int) < (q : Int) := by omega
      obtain ⟨e2, he2⟩ : ∃ e2, a.eps.length = e2 := ⟨_, rfl⟩
      have hea : e2 ≤ altSize a := by rw [← he2]; unfold altSize; omega
      rw [he2] at q3 y8 q6
      unfold maxLen at q4
      obtain ⟨P2, hP2⟩ : ∃ P2, P + sumIf (x.take j) = P2 := ⟨_, rfl⟩
      rw [hP2] at hk2 hm2
      have hPz : P2 + altSize a ≤ 3129 := by omega
      have hPn : P2 + altSize a = P + sumIf (x.take (j + 1)) := by omega
      have H7 := hide h7
      have He2 := hide he2
      have HPn := hide hPn
      have hwj : IntKind.i64.wrap ((j : Int) + 1) = ((j + 1 : Nat) : Int) := by rw [IntKind.wrap_i64]; omega
      clear hcells ha h5 h6 h7 he2 q5 hP2 hPn
      go_wp2_with fail
      obtain ⟨gj, rfl⟩ : ∃ gj, gj = gk := ⟨_, rfl⟩
      go_loopg [6, 7, 11] e2 (fun g s6 s7 s11 wr => ∃ (r k3 m3 : Nat), r + g = e2 ∧ s6 = .int .i64 k3 ∧ s7 = .int .i64 m3 ∧ s11 = .int .i64 r ∧ Kept V wr ∧ k3 ≤ P2 + r ∧ m3 ≤ P2 + r ∧ decide (k3 = 0) = (decide (k2 = 0) && (a.eps.take r).all (fun e => fitsE e s)))
      case atStart => exact ⟨0, k2, m2, by omega, rfl, rfl, rfl, hkr2, by omega, by omega, by simp⟩
      case round =>
        clear hkr2 x0 hbl d7 lV y8 hbl2 hkr
        obtain ⟨r, k3, m3, hr, rfl, rfl, rfl, hkr3, hk3, hm3, hkd3⟩ := hrel
        have Hr := hide hr
        have Hkd3 := hide hkd3
        clear hr hkd3
        by_cases hlr : r < e2
        case neg =>
          have hge : (e2 : Int) ≤ (r : Int) := by omega
          have htk : a.eps.take r = a.eps := List.take_of_length_le (by rw [He2.out]; omega)
          have hkd3 := Hkd3.out
          rw [htk] at hkd3
          have Hkk := hide (show k3 ≤ P + sumIf (x.take (j + 1)) ∧ m3 ≤ P + sumIf (x.take (j + 1)) by have := HPn.out; have := Hr.out; omega)
          have Hkz := hide (show decide (k3 = 0) = (decide (k = 0) && (x.take (j + 1)).all (fitsA s)) by rw [H7.out, ← Bool.and_assoc, ← Hkd2.out]; exact hkd3)
          clear htk hkd3 hk3 hm3
          go_wp2_with fail
          go_roundg (gj - 1)
          case measure => have := Hj.out; omega
          case rel => exact ⟨j + 1, k3, m3, by have := Hj.out; omega, rfl, rfl, rfl, hkr3, Hkk.out.1, Hkk.out.2, Hkz.out⟩
        case pos =>
        obtain ⟨ep, b3, off3, cs, hee, rfl, hb3, hrel', hce⟩ := q6.at hlr
        obtain ⟨rfl, heok⟩ : cs = ep.cells ∧ ep.ok := hrel'
        have h8 := all_takeS (fun e => fitsE e s) (l := a.eps) hee
        have hb3' : b3 < wr.heap.size := Nat.lt_of_lt_of_le hb3 hkr3.size
        have y := fun (o : Nat) v (hv : ep.cells[o]? = some v) => (hkr3.cell (p := ⟨b3, off3 + r * 5 + o, none⟩) hb3).trans (hce o v hv)
        have z0 := y 0 _ rfl
        rw [Nat.add_zero] at z0
        have z1 := y 1 _ rfl
        have z2 := y 2 _ rfl
        have z3 := y 3 _ rfl
        have z4 := y 4 _ rfl
        have hcall := fun w' => dfits_any ep s w' heok Hs8.out
        obtain ⟨v, hv⟩ : ∃ v, fitsE ep s = v := ⟨_, rfl⟩
        rw [hv] at h8 hcall
        unfold EpD.cells at hcall
        have hr0 : (0 : Int) ≤ (r : Int) := by omega
        have hlr' : (r : Int) < (e2 : Int) := by omega
        have hwr : IntKind.i64.wrap ((r : Int) + 1) = ((r + 1 : Nat) : Int) := by rw [IntKind.wrap_i64]; omega
        have hwm : IntKind.i64.wrap ((m3 : Int) + 1) = ((m3 + 1 : Nat) : Int) := by rw [IntKind.wrap_i64]; omega
        have hwk : IntKind.i64.wrap ((k3 : Int) + 1) = ((k3 + 1 : Nat) : Int) := by rw [IntKind.wrap_i64]; omega
        have H8 := hide h8
        have Hk3 := hide hk3
        have Hm3 := hide hm3
        clear y hce hee h8 hv heok hk3 hm3
        cases v with
        | false =>
          go_wp2_with (go_at_call 28; refine (hcall _).mono ?_; rintro e5 w5 ⟨rfl, hk5⟩)
          go_roundg (gk - 1)
          case measure => have := Hr.out; omega
          case rel => exact ⟨r + 1, k3 + 1, m3 + 1, by have := Hr.out; omega, by first | rfl | go_num, by first | rfl | go_num, rfl, hkr3.trans' hk5, by have := Hk3.out; omega, by have := Hm3.out; omega, by rw [H8.out, Bool.and_false, Bool.and_false]; simp⟩
        | true =>
          go_wp2_with (go_at_call 28; refine (hcall _).mono ?_; rintro e5 w5 ⟨rfl, hk5⟩)
          go_roundg (gk - 1)
          case measure => have := Hr.out; omega
          case rel => exact ⟨r + 1, k3, m3 + 1, by have := Hr.out; omega, rfl, by first | rfl | go_num, rfl, hkr3.trans' hk5, by have := Hk3.out; omega, by have := Hm3.out; omega, by rw [H8.out, Bool.and_true]; exact Hkd3.out⟩
end Go.Proofs.YtjgncofhobhjdaaDoor
