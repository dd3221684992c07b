/- Check, its parts. -/
import Derived.Test.YtjgncofhobhjdaaDoorChecked
import Derived.Deep.RegionHeld3
import Derived.Deep.DrawnRows
import Derived.Deep.DeepCutAuto
import Derived.Deep.LoopGhost
import Derived.Outline
import Derived.Handy
import Derived.OwnWalk
import Derived.BigQuiet
import Derived.Test.YtjgncofhobhjdaaDoorN5
import Derived.Test.YtjgncofhobhjdaaDoorN4
import Derived.Test.YtjgncofhobhjdaaDoorN6
import Derived.Test.YtjgncofhobhjdaaDoorSbK
import Derived.Test.YtjgncofhobhjdaaDoorN1
set_option linter.unusedVariables false
set_option linter.unusedSimpArgs false
set_option linter.unusedSectionVars false
/- apart: no endpoint's address stands in two interfaces, nor twice in a setting. Printed by gen_ss.py. -/
namespace Go.Proofs.YtjgncofhobhjdaaDoor
open Go.RowKit Go.Maps
attribute [local go_sem ↓] Go.wp_at_zero Go.wp_at_succ

theorem zeroInt (w : World) : (zeroValue 3).run Tryd.prog w = .ok (.int .i64 0) w := by kernel_rfl
theorem zeroBool (w : World) : (zeroValue 4).run Tryd.prog w = .ok (.bool false) w := by kernel_rfl
theorem drop_cons {α : Type} {l : List α} {i : Nat} {x : α} (h : l[i]? = some x) : l.drop i = x :: l.drop (i + 1) := by
  obtain ⟨h1, h2⟩ := List.getElem?_eq_some_iff.1 h
  rw [← h2]
  exact List.drop_eq_getElem_cons h1
/-- the rest of the check, behind an interface -/
def nextI (i : Nat) (l : List (List Alt)) : Option (Int → Option Nat) → Bool
  | none => false
  | some o => ifsApart i l o
/-- the rest of an interface's settings, behind one -/
def nextA (i : Nat) (l : List Alt) : Option (Int → Option Nat) → Option (Int → Option Nat)
  | none => none
  | some o => altsApart i l o
theorem ifs_cons (i : Nat) (x : List Alt) (l : List (List Alt)) (o : Int → Option Nat) : ifsApart i (x :: l) o = nextI (i + 1) l (altsApart i x o) := by
  conv => lhs; unfold ifsApart
  unfold nextI
  rfl
theorem alts_cons (i : Nat) (a : Alt) (l : List Alt) (o : Int → Option Nat) : altsApart i (a :: l) o = nextA i l (epsApart i a.eps o fun _ => false) := by
  show (epsApart i a.eps o fun _ => false).bind (altsApart i l) = _
  cases epsApart i a.eps o fun _ => false <;> rfl
theorem eps_cons (i : Nat) (e : EpD) (l : List EpD) (o : Int → Option Nat) (s : Int → Bool) : epsApart i (e :: l) o s = if other o i (addrS e) || s (addrS e) then none else epsApart i l (fun a => if a = addrS e then some i else o a) (fun a => if a = addrS e then true else s a) := rfl
theorem map_below {B : Nat} {w w' : World} {b : Nat} (hg : w.grownBy w' (some b)) (hb : B ≤ b) (hB : B ≤ w.heap.size) : Below B w w' := (Below.refl _ _).grown hg hB (fun k hk => by injection hk with hk; omega)
set_option maxRecDepth 100000 in
set_option maxHeartbeats 8000000 in
theorem apart_any (c : Cfg) (A : Option Addr) (cap : Nat) (w : World) (hC : CfgIs w (low w.heap.size) c A cap) (hz : sizeS c ≤ 1000000) :
    Calls Tryd.prog 48 #[.agg (c.cells A cap).toArray] w fun e w' => e = .returned (.bool (apartS c)) ∧ Kept w w' := by
  rw [sizeS_eq] at hz
  obtain ⟨r, hr⟩ : ∃ r, apartS c = r := ⟨_, rfl⟩
  rw [hr]
  unfold apartS at hr
  obtain ⟨n, hn⟩ : ∃ n, c.ifs.length = n := ⟨_, rfl⟩
  have hnc := hC.len
  have hcm := hC.cap
  rw [hn] at hnc
  unfold maxLen at hcm
  obtain ⟨⟨d0, d1, d2, d3, d4, d5, d6⟩, L⟩ := c
  unfold Cfg.cells CfgD.cells
  simp only at hn hr ⊢
  rw [hn]
  have HC := hide hC
  have Hn := hide hn
  have Hr := hide hr
  simp only at hz
  clear hC hn hr
  have hmm := @run_makeMap Tryd.prog
  go_enter Tryd.func48, Tryd.ntmps48
  go_upto_region 2 with (fail)
  refine wp_at (fun W => W.heap[w.heap.size]? = some (.cells #[.int .u16 d0, .int .u8 d1, .int .u8 d2, .int .u8 d3, .bool d4, .bool d5, .int .u8 d6, .slice A n cap] 32 (0, 0)) ∧ Kept w W ∧ MapIs Tryd.prog 5 W (w.heap.size + 1) 0 (ownerF fun _ => none)) ⟨heap_past (heap_at _ rfl), by go_grown, ?_⟩ (fun W hW => ?_)
  · refine MapIs.congr (f := fun _ => none) ?_ (fun kl _ => by unfold ownerF; split <;> rfl)
    have h := MapIs.made (w.alloc (.cells #[.int .u16 d0, .int .u8 d1, .int .u8 d2, .int .u8 d3, .bool d4, .bool d5, .int .u8 d6, .slice A n cap] 32)) Tryd.prog 5
    rw [show (w.alloc (.cells #[.int .u16 d0, .int .u8 d1, .int .u8 d2, .int .u8 d3, .bool d4, .bool d5, .int .u8 d6, .slice A n cap] 32)).heap.size = w.heap.size + 1 by simp] at h
    exact h
  obtain ⟨hB, hkW, hM⟩ := hW
  obtain ⟨M, hMd⟩ : ∃ M, w.heap.size + 1 = M := ⟨_, rfl⟩
  have hwM : w.heap.size ≤ M := by omega
  rw [hMd] at hM ⊢
  have hbl := heap_lt hB
  have b7 := cell_heap hB (o := 7) rfl
  have HM := hide hM
  clear hB hMd hM
  go_wp2_with fail
  go_loopg [18] n (fun g s18 wr => ∃ (i : Nat) (o : Int → Option Nat) (cnt : Nat), i + g = n ∧ s18 = .int .i64 i ∧ Kept w wr ∧ MapIs Tryd.prog 5 wr M cnt (ownerF o) ∧ cnt ≤ sumC (L.take i) ∧ ifsApart i (L.drop i) o = r)
  case atStart => exact ⟨0, fun _ => none, 0, by omega, rfl, hkW, HM.out, Nat.zero_le _, by rw [List.drop_zero]; exact Hr.out⟩
  case round =>
    obtain ⟨i, o, cnt, hi, rfl, hk, hM, hcnt, hri⟩ := hrel
    have Hi := hide hi
    have Hri := hide hri
    have HM := hide hM
    have hMl := hM.lt
    clear hi hri hM
    by_cases hlt : i < n
    · obtain ⟨x, b, off, A', c', hx, rfl, hbl', x0, hxc, hcm', hs⟩ := if_at HC.out hk (i := i) (by show i < L.length; rw [Hn.out]; exact hlt)
      have hmem := List.mem_of_getElem? hx
      have h1 := if_le (l := L) hmem
      have h2 := sumC_take (l := L) (i := i) hx
      have h3 := sumC_le L (i + 1)
      have hrr := Hri.out
      rw [drop_cons hx, ifs_cons] at hrr
      have h4 := len_le_sumIf x
      obtain ⟨m, hm⟩ : ∃ m, x.length = m := ⟨_, rfl⟩
      rw [hm] at x0 hxc hs h4
      obtain ⟨q, hq⟩ : ∃ q, altsApart i x o = q := ⟨_, rfl⟩
      rw [hq] at hrr
      have hi0 : (0 : Int) ≤ (i : Int) := by omega
      have hlt' : (i : Int) < (n : Int) := by omega
      have hwi : IntKind.i64.wrap ((i : Int) + 1) = ((i + 1 : Nat) : Int) := by rw [IntKind.wrap_i64]; omega
      unfold maxLen at hcm'
      obtain ⟨P, hP⟩ : ∃ P, sumC (L.take i) = P := ⟨_, rfl⟩
      rw [hP] at hcnt
      have hP2 : P + sumIf x ≤ 1000000 := by omega
      have HP := hide hP
      have H2 := hide h2
      have Hm := hide hm
      have Hq := hide hq
      have Hrr := hide hrr
      clear hx hmem h1 h2 h3 hP hm hq hrr
      go_wp2_with fail
      obtain ⟨wo, rfl⟩ : ∃ wo, wo = wr := ⟨_, rfl⟩
      obtain ⟨go, rfl⟩ : ∃ go, go = gk := ⟨_, rfl⟩
      refine wp_at (fun V => Kept wo V) (by go_grown) (fun V hkV => ?_)
      have HMV := hide (HM.out.keep hkV)
      go_loopg [26] m (fun g s26 wr => ∃ (j : Nat) (o : Int → Option Nat) (cnt : Nat), j + g = m ∧ s26 = .int .i64 j ∧ Kept w wr ∧ MapIs Tryd.prog 5 wr M cnt (ownerF o) ∧ cnt ≤ P + sumIf (x.take j) ∧ altsApart i (x.drop j) o = q)
      case atStart => exact ⟨0, o, cnt, by omega, rfl, hk.trans' hkV, HMV.out, by omega, by rw [List.drop_zero]; exact Hq.out⟩
      case round =>
        clear hcnt HM HMV Hq
        obtain ⟨j, o, cnt, hj, rfl, hk2, hM, hcnt, hqj⟩ := hrel
        have Hj := hide hj
        have Hqj := hide hqj
        have HM := hide hM
        have hMl2 := hM.lt
        clear hj hqj hM
        by_cases hlj : j < m
        · obtain ⟨a, b2, off2, X, cx, E, ce, ha, rfl, hbl2, hcells, hdo, q1, q2, q3, q4, q5, q6⟩ := alt_at hs hk2 hlj
          have hst := sumIf_take ha
          have hle := sumIf_le x (j + 1)
          have hqq := Hqj.out
          rw [drop_cons ha, alts_cons] at hqq
          unfold maxLen at q2 q4
          have y0 := hcells 0 _ rfl
          rw [Nat.add_zero] at y0
          have y1 := hcells 1 _ rfl
          have y2 := hcells 2 _ rfl
          have y3 := hcells 3 _ rfl
          have y4 := hcells 4 _ rfl
          have y5 := hcells 5 _ rfl
          have y6 := hcells 6 _ rfl
          have y7 := hcells 7 _ rfl
          have y8 := hcells 8 _ rfl
          have hj0 : (0 : Int) ≤ (j : Int) := by omega
          have hlj' : (j : Int) < (m : Int) := by omega
          have hwj : IntKind.i64.wrap ((j : Int) + 1) = ((j + 1 : Nat) : Int) := by rw [IntKind.wrap_i64]; omega
          obtain ⟨z, hz0⟩ : ∃ z, (epsApart i a.eps o fun _ => false) = z := ⟨_, rfl⟩
          rw [hz0] at hqq
          obtain ⟨k, hkk⟩ : ∃ k, a.eps.length = k := ⟨_, rfl⟩
          have hsz : altSize a = 9 + a.extra.length + 7 * k := by unfold altSize; rw [hkk]
          rw [hkk] at q3 q6 y8
          obtain ⟨T, hT⟩ : ∃ T, P + sumIf (x.take j) = T := ⟨_, rfl⟩
          rw [hT] at hcnt
          have hT2 : T + (9 + a.extra.length + 7 * k) ≤ 1000000 := by omega
          have Hst := hide hst
          have HT := hide hT
          have Hsz := hide hsz
          have Hz0 := hide hz0
          have Hqq := hide hqq
          have Hkk := hide hkk
          clear hcells hst hle hT hsz hz0 hqq ha hkk q5
          go_upto_region 8 with (fail)
          refine wp_at (fun V => V.heap[wr.heap.size]? = some (.cells #[.int .u8 a.d.num, .int .u8 a.d.alt, .int .u8 a.d.eps, .int .u8 a.d.cls, .int .u8 a.d.sub, .int .u8 a.d.proto, .int .u8 a.d.text, .slice X a.extra.length cx, .slice E k ce] 56 (0, 0)) ∧ Kept wr V) ⟨heap_at _ rfl, by go_grown⟩ (fun V2 hV2 => ?_)
          obtain ⟨hBa, hkV2⟩ := hV2
          have hla := heap_lt hBa
          have zz8 := cell_heap hBa (o := 8) rfl
          have HBa := hide hBa
          clear hBa y0 y1 y2 y3 y4 y5 y6 y7 y8
          go_upto_region 9 with (fail)
          refine wp_at (fun V => Kept V2 V ∧ MapIs Tryd.prog 5 V V2.heap.size 0 (seenF fun _ => false)) ⟨by go_grown, MapIs.congr (MapIs.made _ _ _) (fun kl _ => by unfold seenF; split <;> rfl)⟩ (fun V3 hV3 => ?_)
          obtain ⟨hkV3, hS⟩ := hV3
          have hkw3 : Kept w V3 := (hk2.trans' hkV2).trans' hkV3
          have hM3 := (HM.out.keep hkV2).keep hkV3
          have HM3 := hide hM3
          have HS := hide hS
          have hMne : M ≠ V2.heap.size := by have := hkV2.size; omega
          have hwV2 : w.heap.size ≤ V2.heap.size := (hk2.trans' hkV2).size
          have hB3 := heap_kept hkV3 HBa.out
          have zz8 := cell_heap hB3 (o := 8) rfl
          have hla3 := heap_lt hB3
          obtain ⟨S, hSd⟩ : ∃ S, V2.heap.size = S := ⟨_, rfl⟩
          rw [hSd] at hMne HS hwV2 ⊢
          clear hB3 hM3 hS hSd HM HBa
          go_wp2_with fail
          obtain ⟨w2o, rfl⟩ : ∃ w2o, w2o = wr := ⟨_, rfl⟩
          obtain ⟨g2, rfl⟩ : ∃ g2, g2 = gk := ⟨_, rfl⟩
          go_loopg [34] k (fun g s34 wr => ∃ (p : Nat) (o : Int → Option Nat) (s : Int → Bool) (cnt c2 : Nat), p + g = k ∧ s34 = .int .i64 p ∧ Kept w wr ∧ MapIs Tryd.prog 5 wr M cnt (ownerF o) ∧ MapIs Tryd.prog 5 wr S c2 (seenF s) ∧ cnt ≤ T + p ∧ c2 ≤ p ∧ epsApart i (a.eps.drop p) o s = z)
          case atStart => exact ⟨0, o, fun _ => false, cnt, 0, by omega, rfl, hkw3, HM3.out, HS.out, by omega, by omega, by rw [List.drop_zero]; exact Hz0.out⟩
          case round =>
            clear hcnt HM3 HS Hz0 Hqj
            obtain ⟨p, o, s, cnt, c2, hp, rfl, hk3, hM, hS, hcnt, hc2, hzp⟩ := hrel
            have Hp := hide hp
            have Hzp := hide hzp
            have HM := hide hM
            have HS := hide hS
            have hMl3 := hM.lt
            have hSl3 := hS.lt
            clear hp hzp hM hS
            by_cases hlp : p < k
            · obtain ⟨ep, be, offe, cse, hep, rfl, hbe, hrel', hce⟩ := q6.at hlp
              obtain ⟨rfl, hdo3⟩ : cse = ep.cells ∧ ep.ok := hrel'
              have hbe' := Nat.lt_of_lt_of_le hbe hk3.size
              have y := fun (o : Nat) v (hv : ep.cells[o]? = some v) => (hk3.cell (p := ⟨be, offe + p * 5 + o, none⟩) hbe).trans (hce o v hv)
              have y0 := y 0 _ rfl
              rw [Nat.add_zero] at y0
              have y1 := y 1 _ rfl
              have y2 := y 2 _ rfl
              have y3 := y 3 _ rfl
              have y4 := y 4 _ rfl
              have hp0 : (0 : Int) ≤ (p : Int) := by omega
              have hlp' : (p : Int) < (k : Int) := by omega
              have hwp : IntKind.i64.wrap ((p : Int) + 1) = ((p + 1 : Nat) : Int) := by rw [IntKind.wrap_i64]; omega
              have hzz := Hzp.out
              rw [drop_cons hep, eps_cons] at hzz
              have haddr := fun w' => addr_any ep w' hdo3
              have hua := addr_u8 hdo3
              unfold EpD.cells at haddr
              obtain ⟨ad, had⟩ : ∃ ad, addrS ep = ad := ⟨_, rfl⟩
              simp only [had] at hzz haddr hua
              have Hzz := hide hzz
              clear y hce hep had hzz
              go_upto_region 12 with (fail)
              refine wp_at (fun V => V.heap[wr.heap.size]? = some (.cells #[.int .u8 ep.num, .bool ep.inn, .int .u8 ep.kind, .int .u16 ep.max, .int .u8 ep.ivl] 59 (0, 0)) ∧ Kept wr V) ⟨heap_at _ rfl, by go_grown⟩ (fun V3 hV3 => ?_)
              obtain ⟨hA7, hkA⟩ := hV3
              have lA7 := heap_lt hA7
              have z0 := cell_heap hA7 (o := 0) rfl
              have z1 := cell_heap hA7 (o := 1) rfl
              have z2 := cell_heap hA7 (o := 2) rfl
              have z3 := cell_heap hA7 (o := 3) rfl
              have z4 := cell_heap hA7 (o := 4) rfl
              clear y0 y1 y2 y3 y4 hA7
              go_upto_region 13 with (go_at_call 58; refine (haddr _).mono ?_; rintro e V4 ⟨rfl, hk8⟩)
              have hk4 := hkA.trans' hk8
              have hM4 := HM.out.keep hk4
              have hS4 := HS.out.keep hk4
              have hk34 := hk3.trans' hk4
              have HM4 := hide hM4
              have HS4 := hide hS4
              have hMl4 := hM4.lt
              have hSl4 := hS4.lt
              clear z0 z1 z2 z3 z4 lA7 haddr hM4 hS4 hk8 hkA hk4
              cases ho : o ad with
              | some j' =>
                have hf : ownerF o (.int .u8 ad) = some (.int .i64 (j' : Int)) := by simp [ownerF, ho]
                by_cases hji : j' = i
                · have hoth : other o i ad = false := by unfold other; rw [ho, hji]; simp
                  have hne : ((j' : Int) != (i : Int)) = false := by simp; omega
                  cases hsa : s ad with
                  | true =>
                    have hg : seenF s (.int .u8 ad) = some (.bool true) := by simp [seenF, hsa]
                    have hzn : z = none := by rw [← Hzz.out, hoth, hsa]; rfl
                    have hrf : r = false := by rw [← Hrr.out, ← Hqq.out, hzn]; rfl
                    have Hrf := hide hrf
                    have hl1 := HM4.out.look keyed8 Tryd.underlying147 (zeroInt _) (key8 hua) true
                    rw [hf] at hl1
                    have hl2 := HS4.out.look keyed8 Tryd.underlying148 (zeroBool _) (key8 hua) false
                    rw [hg] at hl2
                    simp only [if_true, Option.getD_some, Option.isSome_some] at hl1
                    simp only [Bool.false_eq_true, if_false, Option.getD_some] at hl2
                    clear hoth hzn hrf ho hf hg hsa hji
                    go_wp2_with fail
                    go_ret
                    exact ⟨by rw [Hrf.out]; rfl, hk34⟩
                  | false =>
                    have hg : seenF s (.int .u8 ad) = none := by simp [seenF, hsa]
                    have hzn : epsApart i (a.eps.drop (p + 1)) (fun a => if a = ad then some i else o a) (fun a => if a = ad then true else s a) = z := by rw [← Hzz.out, hoth, hsa]; rfl
                    have Hzn := hide hzn
                    have hl1 := HM4.out.look keyed8 Tryd.underlying147 (zeroInt _) (key8 hua) true
                    rw [hf] at hl1
                    have hl2 := HS4.out.look keyed8 Tryd.underlying148 (zeroBool _) (key8 hua) false
                    rw [hg] at hl2
                    simp only [if_true, Option.getD_some, Option.isSome_some] at hl1
                    simp only [Bool.false_eq_true, if_false, Option.getD_none] at hl2
                    clear hoth hzn ho hf hg hsa hji
                    go_upto_region 16 with (fail)
                    clear hl1 hl2
                    go_upto_region 17 with (first
                      | (refine wpList_store_any _ rfl (.tmp 57) (.tmp 58) (.tmp 61) 147 rfl 5 3 keyed8 Tryd.underlying147 M cnt (ownerF o) (by rfl) HM4.out (by unfold maxLen; omega) (.int .u8 ad) (.int .i64 (i : Int)) _ (by rfl) (by rfl) (key8 hua) ?_; intro w5 hM5 hg5)
                      | (refine wpList_store_any _ rfl (.tmp 59) (.tmp 60) (.const (.bool true)) 148 rfl 5 4 keyed8 Tryd.underlying148 S c2 (seenF s) (by rfl) (HS4.out.kept hg5 (by simpa using hMne.symm)) (by unfold maxLen; omega) (.int .u8 ad) (.bool true) _ (by rfl) (by rfl) (key8 hua) ?_; intro w6 hS6 hg6))
                    have hM6 := hM5.kept hg6 (by simpa using hMne)
                    rw [owner_put] at hM6
                    rw [seen_put] at hS6
                    have hk5 : Below w.heap.size V4 w5 := map_below hg5 hwM hk34.size
                    have hk6 : Below w.heap.size w5 w6 := map_below hg6 hwV2 (Nat.le_trans hk34.size hk5.size)
                    have HM6 := hide hM6
                    have HS6 := hide hS6
                    have Hk6 := hide ((hk34.trans hk5).trans hk6)
                    clear hM6 hS6 hk5 hk6 hM5 hg5 hg6
                    go_wp2_with fail
                    go_roundg (gk - 1)
                    case measure => have := Hp.out; omega
                    case rel => exact ⟨p + 1, _, _, cnt + 1, c2 + 1, by have := Hp.out; omega, by first | rfl | go_num, Hk6.out, HM6.out, HS6.out, by omega, by omega, Hzn.out⟩
                · have hoth : other o i ad = true := by unfold other; rw [ho]; simpa using hji
                  have hne : ((j' : Int) != (i : Int)) = true := by simp; omega
                  have hzn : z = none := by rw [← Hzz.out, hoth]; rfl
                  have hrf : r = false := by rw [← Hrr.out, ← Hqq.out, hzn]; rfl
                  have Hrf := hide hrf
                  have hl1 := HM4.out.look keyed8 Tryd.underlying147 (zeroInt _) (key8 hua) true
                  rw [hf] at hl1
                  simp only [if_true, Option.getD_some, Option.isSome_some] at hl1
                  clear hoth hzn hrf ho hji hf
                  go_wp2_with fail
                  go_ret
                  exact ⟨by rw [Hrf.out]; rfl, hk34⟩
              | none =>
                have hf : ownerF o (.int .u8 ad) = none := by simp [ownerF, ho]
                have hoth : other o i ad = false := by unfold other; rw [ho]
                cases hsa : s ad with
                | true =>
                  have hg : seenF s (.int .u8 ad) = some (.bool true) := by simp [seenF, hsa]
                  have hzn : z = none := by rw [← Hzz.out, hoth, hsa]; rfl
                  have hrf : r = false := by rw [← Hrr.out, ← Hqq.out, hzn]; rfl
                  have Hrf := hide hrf
                  have hl1 := HM4.out.look keyed8 Tryd.underlying147 (zeroInt _) (key8 hua) true
                  rw [hf] at hl1
                  have hl2 := HS4.out.look keyed8 Tryd.underlying148 (zeroBool _) (key8 hua) false
                  rw [hg] at hl2
                  simp only [if_true, Option.getD_none, Option.isSome_none] at hl1
                  simp only [Bool.false_eq_true, if_false, Option.getD_some] at hl2
                  clear hoth hzn hrf ho hf hg hsa
                  go_wp2_with fail
                  go_ret
                  exact ⟨by rw [Hrf.out]; rfl, hk34⟩
                | false =>
                  have hg : seenF s (.int .u8 ad) = none := by simp [seenF, hsa]
                  have hzn : epsApart i (a.eps.drop (p + 1)) (fun a => if a = ad then some i else o a) (fun a => if a = ad then true else s a) = z := by rw [← Hzz.out, hoth, hsa]; rfl
                  have Hzn := hide hzn
                  have hl1 := HM4.out.look keyed8 Tryd.underlying147 (zeroInt _) (key8 hua) true
                  rw [hf] at hl1
                  have hl2 := HS4.out.look keyed8 Tryd.underlying148 (zeroBool _) (key8 hua) false
                  rw [hg] at hl2
                  simp only [if_true, Option.getD_none, Option.isSome_none] at hl1
                  simp only [Bool.false_eq_true, if_false, Option.getD_none] at hl2
                  clear hoth hzn ho hf hg hsa
                  go_upto_region 16 with (fail)
                  clear hl1 hl2
                  go_upto_region 17 with (first
                    | (refine wpList_store_any _ rfl (.tmp 57) (.tmp 58) (.tmp 61) 147 rfl 5 3 keyed8 Tryd.underlying147 M cnt (ownerF o) (by rfl) HM4.out (by unfold maxLen; omega) (.int .u8 ad) (.int .i64 (i : Int)) _ (by rfl) (by rfl) (key8 hua) ?_; intro w5 hM5 hg5)
                    | (refine wpList_store_any _ rfl (.tmp 59) (.tmp 60) (.const (.bool true)) 148 rfl 5 4 keyed8 Tryd.underlying148 S c2 (seenF s) (by rfl) (HS4.out.kept hg5 (by simpa using hMne.symm)) (by unfold maxLen; omega) (.int .u8 ad) (.bool true) _ (by rfl) (by rfl) (key8 hua) ?_; intro w6 hS6 hg6))
                  have hM6 := hM5.kept hg6 (by simpa using hMne)
                  rw [owner_put] at hM6
                  rw [seen_put] at hS6
                  have hk5 : Below w.heap.size V4 w5 := map_below hg5 hwM hk34.size
                  have hk6 : Below w.heap.size w5 w6 := map_below hg6 hwV2 (Nat.le_trans hk34.size hk5.size)
                  have HM6 := hide hM6
                  have HS6 := hide hS6
                  have Hk6 := hide ((hk34.trans hk5).trans hk6)
                  clear hM6 hS6 hk5 hk6 hM5 hg5 hg6
                  go_wp2_with fail
                  go_roundg (gk - 1)
                  case measure => have := Hp.out; omega
                  case rel => exact ⟨p + 1, _, _, cnt + 1, c2 + 1, by have := Hp.out; omega, by first | rfl | go_num, Hk6.out, HM6.out, HS6.out, by omega, by omega, Hzn.out⟩
            · have hge : (k : Int) ≤ (p : Int) := by omega
              have hdr : a.eps.drop p = [] := List.drop_of_length_le (by have := Hkk.out; omega)
              have hzs : z = some o := by rw [← Hzp.out, hdr]; rfl
              have hqs : altsApart i (x.drop (j + 1)) o = q := by rw [← Hqq.out, hzs]; rfl
              have Hqs := hide hqs
              clear hdr hzs hqs
              go_wp2_with fail
              go_roundg (g2 - 1)
              case measure => have := Hj.out; omega
              case rel =>
                refine ⟨j + 1, o, cnt, by have := Hj.out; omega, by first | rfl | go_num, hk3, HM.out, ?_, Hqs.out⟩
                have h1 := Hst.out
                have h2 := HT.out
                have h3 := Hsz.out
                have h4 := Hp.out
                omega
        · have hge : (m : Int) ≤ (j : Int) := by omega
          have htk : x.take j = x := List.take_of_length_le (by have := Hm.out; omega)
          have hdr : x.drop j = [] := List.drop_of_length_le (by have := Hm.out; omega)
          have hqs : q = some o := by rw [← Hqj.out, hdr]; rfl
          have hrs : ifsApart (i + 1) (L.drop (i + 1)) o = r := by rw [← Hrr.out, hqs]; rfl
          rw [htk] at hcnt
          have Hrs := hide hrs
          clear hdr hqs hrs htk
          go_wp2_with fail
          go_roundg (go - 1)
          case measure => have := Hi.out; omega
          case rel =>
            refine ⟨i + 1, o, cnt, by have := Hi.out; omega, by first | rfl | go_num, hk2, HM.out, ?_, Hrs.out⟩
            have h1 := H2.out
            have h2 := HP.out
            omega
    · have hge : (n : Int) ≤ (i : Int) := by omega
      have hdr : L.drop i = [] := List.drop_of_length_le (by have := Hn.out; omega)
      have hrt : r = true := by rw [← Hri.out, hdr]; rfl
      have Hrt := hide hrt
      clear hdr hrt
      go_wp2_with fail
      go_ret
      exact ⟨by rw [Hrt.out]; rfl, hk⟩
end Go.Proofs.YtjgncofhobhjdaaDoor
/- counted: whether the numbers and counts of a configuration are those of its parts. -/
namespace Go.Proofs.YtjgncofhobhjdaaDoor
open Go.RowKit
attribute [local go_sem ↓] Go.wp_at_zero Go.wp_at_succ

theorem altsCounted_drop {i j : Nat} {x : List Alt} {a : Alt} (h : x[j]? = some a) : altsCounted i j (x.drop j) = (decide (a.d.num = (i : Int)) && decide (a.d.alt = (j : Int)) && decide (a.d.eps = (a.eps.length : Int)) && altsCounted i (j + 1) (x.drop (j + 1))) := by
  obtain ⟨h1, h2⟩ := List.getElem?_eq_some_iff.1 h
  rw [List.drop_eq_getElem_cons h1, h2]
  rfl
theorem ifsCounted_drop {i : Nat} {L : List (List Alt)} {x : List Alt} (h : L[i]? = some x) : ifsCounted i (L.drop i) = (altsCounted i 0 x && ifsCounted (i + 1) (L.drop (i + 1))) := by
  obtain ⟨h1, h2⟩ := List.getElem?_eq_some_iff.1 h
  rw [List.drop_eq_getElem_cons h1, h2]
  rfl
set_option maxRecDepth 100000 in
set_option maxHeartbeats 8000000 in
theorem counted_any (c : Cfg) (A : Option Addr) (cap : Nat) (w : World) (hC : CfgIs w (low w.heap.size) c A cap) (hz : sizeS c ≤ 1000000) :
    Calls Tryd.prog 47 #[.agg (c.cells A cap).toArray] w fun e w' => e = .returned (.bool (countedS c)) ∧ Kept w w' := by
  have hsz := fun w' hk => size_any c A cap w' (hC.kept hk) hz
  obtain ⟨r, hr⟩ : ∃ r, countedS c = r := ⟨_, rfl⟩
  rw [hr]
  obtain ⟨S, hS⟩ : ∃ S, sizeS c = S := ⟨_, rfl⟩
  unfold countedS at hr
  rw [hS] at hsz hr hz
  obtain ⟨n, hn⟩ : ∃ n, c.ifs.length = n := ⟨_, rfl⟩
  have hnc := hC.len
  have hcm := hC.cap
  obtain ⟨⟨u0a, u0b⟩, ⟨u1a, u1b⟩, _⟩ := hC.d
  rw [hn] at hnc hr
  unfold maxLen at hcm
  have hlen : ∀ l ∈ c.ifs, l.length ≤ sumC c.ifs := fun l hl => Nat.le_trans (len_le_sumIf l) (if_le hl)
  obtain ⟨⟨d0, d1, d2, d3, d4, d5, d6⟩, L⟩ := c
  unfold Cfg.cells CfgD.cells at hsz ⊢
  simp only at hn hr hsz hlen u0a u0b u1a u1b ⊢
  rw [hn] at hsz ⊢
  have HC := hide hC
  have Hn := hide hn
  have Hr := hide hr
  have Hlen := hide hlen
  have wd1 : IntKind.i64.wrap d1 = d1 := by rw [IntKind.wrap_i64]; omega
  have wd0 : IntKind.i64.wrap d0 = d0 := by rw [IntKind.wrap_i64]; omega
  clear hC hn hr hlen
  go_enter Tryd.func47, Tryd.ntmps47
  go_upto_region 1 with (fail)
  refine wp_at (fun W => W.heap[w.heap.size]? = some (.cells #[.int .u16 d0, .int .u8 d1, .int .u8 d2, .int .u8 d3, .bool d4, .bool d5, .int .u8 d6, .slice A n cap] 32 (0, 0)) ∧ Kept w W) ⟨heap_at _ rfl, by go_grown⟩ (fun W hW => ?_)
  obtain ⟨hB, hkW⟩ := hW
  have HkW := hide hkW
  have hbl := heap_lt hB
  have b0 := cell_heap hB (o := 0) rfl
  have b1 := cell_heap hB (o := 1) rfl
  have b2 := cell_heap hB (o := 2) rfl
  have b3 := cell_heap hB (o := 3) rfl
  have b4 := cell_heap hB (o := 4) rfl
  have b5 := cell_heap hB (o := 5) rfl
  have b6 := cell_heap hB (o := 6) rfl
  have b7 := cell_heap hB (o := 7) rfl
  have HB := hide hB
  clear hB hkW
  by_cases g1 : d1 = (n : Int)
  · have q1 : (d1 != (n : Int)) = false := by simpa using g1
    by_cases g0 : d0 = (S : Int)
    · have q0 : (d0 != (S : Int)) = false := by simpa using g0
      have hr0 : r = ifsCounted 0 L := by rw [← Hr.out]; simp [g0, g1]
      clear g0 g1
      go_region_held3 (fun w' => (∀ b o, b < W.heap.size → w'.cell? ⟨b, o, none⟩ = W.cell? ⟨b, o, none⟩) ∧ Below W.heap.size W w') (first | assumption | exact since_start | exact since_keep (by assumption) (Nat.le_refl _) hk | exact since_alloc (by assumption) (Nat.le_refl _)) ((go_at_call 44; refine (hsz _ (by exact HkW.out.trans' (by assumption : _ ∧ Below W.heap.size W _).2)).mono ?_; rintro e w1 ⟨rfl, hk⟩))
      go_wp2_with fail
      refine wp_at (fun V => Kept w V) (since_kept HkW.out (by assumption) (Nat.le_refl _)) (fun V hkV => ?_)
      go_loopg [27] n (fun g s27 wr => ∃ i : Nat, i + g = n ∧ s27 = .int .i64 i ∧ Kept w wr ∧ r = ifsCounted i (L.drop i))
      case atStart => exact ⟨0, by omega, rfl, hkV, by rw [List.drop_zero]; exact hr0⟩
      case round =>
        obtain ⟨i, hi, rfl, hk, hri⟩ := hrel
        have Hi := hide hi
        have Hri := hide hri
        clear hi hri
        by_cases hlt : i < n
        · obtain ⟨x, b, off, A', c', hx, rfl, hbl', x0, hxc, hcm', hs⟩ := if_at HC.out hk (i := i) (by rw [Hn.out]; exact hlt)
          have hrr := Hri.out
          rw [ifsCounted_drop hx] at hrr
          have hml := Hlen.out x (List.mem_of_getElem? hx)
          obtain ⟨m, hm⟩ : ∃ m, x.length = m := ⟨_, rfl⟩
          rw [hm] at x0 hxc hs hml
          obtain ⟨q, hq0⟩ : ∃ q, altsCounted i 0 x = q := ⟨_, rfl⟩
          rw [hq0] at hrr
          have Hr2 := hide hrr
          have hi0 : (0 : Int) ≤ (i : Int) := by omega
          have hlt' : (i : Int) < (n : Int) := by omega
          have hwi : IntKind.i64.wrap ((i : Int) + 1) = ((i + 1 : Nat) : Int) := by rw [IntKind.wrap_i64]; omega
          unfold maxLen at hcm'
          have Hm := hide hm
          have Hq0 := hide hq0
          clear hx hm hrr hq0
          go_wp2_with fail
          obtain ⟨wo, rfl⟩ : ∃ wo, wo = wr := ⟨_, rfl⟩
          obtain ⟨go, rfl⟩ : ∃ go, go = gk := ⟨_, rfl⟩
          refine wp_at (fun V => Kept w V) (hk.trans' (by go_grown)) (fun V hkV => ?_)
          go_loopg [35] m (fun g s35 wr => ∃ j : Nat, j + g = m ∧ s35 = .int .i64 j ∧ Kept w wr ∧ altsCounted i j (x.drop j) = q)
          case atStart => exact ⟨0, by omega, rfl, hkV, by rw [List.drop_zero]; exact Hq0.out⟩
          case round =>
            obtain ⟨j, hj, rfl, hk2, hq⟩ := hrel
            have Hj := hide hj
            have Hq := hide hq
            clear hj hq
            by_cases hlj : j < m
            · obtain ⟨a, b2, off2, X, cx, E, ce, ha, rfl, hbl2, hcells, hdo, q1, q2, q3, q4, q5, q6⟩ := alt_at hs hk2 hlj
              obtain ⟨⟨v0, v0'⟩, ⟨v1, v1'⟩, ⟨v2, v2'⟩, _⟩ := hdo
              unfold maxLen at q2 q4
              have y0 := hcells 0 _ rfl
              rw [Nat.add_zero] at y0
              have y1 := hcells 1 _ rfl
              have y2 := hcells 2 _ rfl
              have y3 := hcells 3 _ rfl
              have y4 := hcells 4 _ rfl
              have y5 := hcells 5 _ rfl
              have y6 := hcells 6 _ rfl
              have y7 := hcells 7 _ rfl
              have y8 := hcells 8 _ rfl
              have hj0 : (0 : Int) ≤ (j : Int) := by omega
              have hlj' : (j : Int) < (m : Int) := by omega
              have Ha := hide ha
              have wa : IntKind.i64.wrap a.d.num = a.d.num := by rw [IntKind.wrap_i64]; omega
              have wb : IntKind.i64.wrap a.d.alt = a.d.alt := by rw [IntKind.wrap_i64]; omega
              have wc : IntKind.i64.wrap a.d.eps = a.d.eps := by rw [IntKind.wrap_i64]; omega
              have w5 : IntKind.i64.wrap ((j : Int) + 1) = ((j + 1 : Nat) : Int) := by rw [IntKind.wrap_i64]; omega
              clear hcells q5 q6 ha
              go_upto_region 9 with (refine wpList_store_row rfl 56 (.tmp 6) (.tmp 39) rfl wr.heap.size #[.int .u8 a.d.num, .int .u8 a.d.alt, .int .u8 a.d.eps, .int .u8 a.d.cls, .int .u8 a.d.sub, .int .u8 a.d.proto, .int .u8 a.d.text, .slice X a.extra.length cx, .slice E a.eps.length ce] (by rfl) (by rfl) 56 _ (heap_at _ rfl) (by kernel_rfl) (by rfl) (by simp [Value.oneCell']) ?_)
              refine wp_at (fun V => V.heap[wr.heap.size]? = some (.cells #[.int .u8 a.d.num, .int .u8 a.d.alt, .int .u8 a.d.eps, .int .u8 a.d.cls, .int .u8 a.d.sub, .int .u8 a.d.proto, .int .u8 a.d.text, .slice X a.extra.length cx, .slice E a.eps.length ce] 56 (0, 0)) ∧ Kept wr V) ⟨heap_row (heap_at _ rfl), below_row ((Below.refl _ _).alloc (Nat.le_refl _) _) (Nat.le_refl _) _⟩ (fun V2 hV2 => ?_)
              obtain ⟨hBa, hkV2⟩ := hV2
              have hla := heap_lt hBa
              have zz0 := cell_heap hBa (o := 0) rfl
              have zz1 := cell_heap hBa (o := 1) rfl
              have zz2 := cell_heap hBa (o := 2) rfl
              have zz8 := cell_heap hBa (o := 8) rfl
              clear hBa y0 y1 y2 y3 y4 y5 y6 y7 y8
              by_cases k1 : a.d.num = (i : Int)
              · have p1 : (a.d.num != (i : Int)) = false := by simpa using k1
                by_cases k2 : a.d.alt = (j : Int)
                · have p2 : (a.d.alt != (j : Int)) = false := by simpa using k2
                  by_cases k3 : a.d.eps = (a.eps.length : Int)
                  · have p3 : (a.d.eps != (a.eps.length : Int)) = false := by simpa using k3
                    have hq' : altsCounted i (j + 1) (x.drop (j + 1)) = q := by rw [← Hq.out, altsCounted_drop Ha.out]; simp [k1, k2, k3]
                    have Hq' := hide hq'
                    clear k1 k2 k3 hq'
                    go_wp2_with fail
                    go_roundg (gk - 1)
                    case measure => have := Hj.out; omega
                    case rel => exact ⟨j + 1, by have := Hj.out; omega, by first | rfl | go_num, hk2.trans' hkV2, Hq'.out⟩
                  · have p3 : (a.d.eps != (a.eps.length : Int)) = true := by simpa using k3
                    have hq : q = false := by rw [← Hq.out, altsCounted_drop Ha.out]; simp [k3]
                    have hr : r = false := by rw [Hr2.out, hq]; rfl
                    have Hrf := hide hr
                    clear hq hr
                    go_wp2_with fail
                    go_ret
                    exact ⟨by rw [Hrf.out]; rfl, hk2.trans' hkV2⟩
                · have p2 : (a.d.alt != (j : Int)) = true := by simpa using k2
                  have hq : q = false := by rw [← Hq.out, altsCounted_drop Ha.out]; simp [k2]
                  have hr : r = false := by rw [Hr2.out, hq]; rfl
                  have Hrf := hide hr
                  clear hq hr
                  go_wp2_with fail
                  go_ret
                  exact ⟨by rw [Hrf.out]; rfl, hk2.trans' hkV2⟩
              · have p1 : (a.d.num != (i : Int)) = true := by simpa using k1
                have hq : q = false := by rw [← Hq.out, altsCounted_drop Ha.out]; simp [k1]
                have hr : r = false := by rw [Hr2.out, hq]; rfl
                have Hrf := hide hr
                clear hq hr
                go_wp2_with fail
                go_ret
                exact ⟨by rw [Hrf.out]; rfl, hk2.trans' hkV2⟩
            · have hge : (m : Int) ≤ (j : Int) := by omega
              have hqt : q = true := by
                have h1 := Hq.out
                rw [List.drop_of_length_le (by have := Hm.out; omega)] at h1
                exact h1.symm
              have hr3 : r = ifsCounted (i + 1) (L.drop (i + 1)) := by rw [Hr2.out, hqt]; rfl
              have Hr3 := hide hr3
              clear hqt hr3
              go_wp2_with fail
              go_roundg (go - 1)
              case measure => have := Hi.out; omega
              case rel => exact ⟨i + 1, by have := Hi.out; omega, by first | rfl | go_num, hk2, Hr3.out⟩
        · have hge : (n : Int) ≤ (i : Int) := by omega
          have hrt : r = true := by
            rw [Hri.out, List.drop_of_length_le (by have := Hn.out; omega)]
            rfl
          have Hrt := hide hrt
          clear hrt
          go_wp2_with fail
          go_ret
          exact ⟨by rw [Hrt.out]; rfl, hk⟩
    · have q0 : (d0 != (S : Int)) = true := by simpa using g0
      have hr0 : r = false := by rw [← Hr.out]; simp [g0]
      subst hr0
      clear g0 g1
      go_region_held3 (fun w' => (∀ b o, b < W.heap.size → w'.cell? ⟨b, o, none⟩ = W.cell? ⟨b, o, none⟩) ∧ Below W.heap.size W w') (first | assumption | exact since_start | exact since_keep (by assumption) (Nat.le_refl _) hk | exact since_alloc (by assumption) (Nat.le_refl _)) ((go_at_call 44; refine (hsz _ (by exact HkW.out.trans' (by assumption : _ ∧ Below W.heap.size W _).2)).mono ?_; rintro e w1 ⟨rfl, hk⟩))
      go_wp2_with fail
      go_ret
      exact ⟨rfl, since_kept HkW.out (by assumption) (Nat.le_refl _)⟩
  · have q1 : (d1 != (n : Int)) = true := by simpa using g1
    have hr0 : r = false := by rw [← Hr.out]; simp [g1]
    subst hr0
    clear g1
    go_quiet (fail)
    go_wp2_with fail
    go_ret
    exact ⟨rfl, below_drewN HkW.out _⟩
end Go.Proofs.YtjgncofhobhjdaaDoor
/- Whether a descriptor in Extra is a standard one. -/
namespace Go.Proofs.YtjgncofhobhjdaaDoor
open Go.RowKit
attribute [local go_sem ↓] Go.wp_at_zero Go.wp_at_succ

set_option maxRecDepth 100000 in
theorem bytes2_any (A : Option Addr) (n c : Nat) (l : List Int) (w : World) (hl : Sl u8T w (low w.heap.size) A n l) (h2 : 2 ≤ n) :
    Calls Tryd.prog 74 #[.slice A n c] w fun e w' => e = .returned (.bool (stdS (kindB l))) ∧ Kept w w' := by
  obtain ⟨b, off, rfl, hb, hc⟩ := sl_bytes hl (by omega)
  have hu := sl_byte8 hl 1
  have x1 := hc 1 (by omega)
  have hk : kindB l = byteAt l 1 := rfl
  rw [hk]
  obtain ⟨z, hz⟩ : ∃ z, byteAt l 1 = z := ⟨_, rfl⟩
  rw [hz] at hu x1 ⊢
  have hn1 : (1 : Int) < (n : Int) := by omega
  clear hc hl hk hz
  go_enter Tryd.func74, Tryd.ntmps74
  go_wp2_with (go_at_call 36; refine (std_any z _ hu).mono ?_; rintro e w1 ⟨rfl, hk⟩)
  go_ret
  exact ⟨rfl, hk⟩
set_option maxRecDepth 100000 in
set_option maxHeartbeats 1000000 in
theorem indexF_any (A : Option Addr) (n c : Nat) (L : List (List Int)) (w : World) (hn : n ≤ 4096) (hl : Sl u8T.slice w (low w.heap.size) A n L) (h2 : ∀ p ∈ L, 2 ≤ p.length) :
    Calls Tryd.prog 95 #[.slice A n c, .func (.func 74) #[] #[]] w fun e w' => (∃ i : Int, e = .returned (.int .i64 i) ∧ decide (0 ≤ i) = L.any (fun p => stdS (kindB p))) ∧ Kept w w' := by
  go_enter Tryd.func95, Tryd.ntmps95
  go_wp2_with fail
  go_loopg [8] n (fun g s8 wr => ∃ i : Nat, i + g = n ∧ s8 = .int .i64 i ∧ Kept w wr ∧ ∀ j p, j < i → L[j]? = some p → stdS (kindB p) = false)
  case atStart => exact ⟨0, by omega, rfl, Below.refl _ _, fun j f hj => by omega⟩
  case round =>
    obtain ⟨i, hi, rfl, hk, hno⟩ := hrel
    have Hno := hide hno
    have Hi := hide hi
    clear hno hi
    by_cases hlt : i < n
    · obtain ⟨p, b, off, cs, hp, rfl, hbb, ⟨A', c', rfl, hq1, hq2, hs⟩, hcs⟩ := (hl.kept hk).at hlt
      have x0 : wr.cell? ⟨b, off + i, none⟩ = some (.slice A' p.length c') := by have := hcs 0 _ rfl; simpa [Ty.slice] using this
      have hp2 := h2 p (List.mem_of_getElem? hp)
      have hbl : b < wr.heap.size := hbb
      have hz := bytes2_any A' p.length c' p wr hs hp2
      have hi0 : (0 : Int) ≤ (i : Int) := by omega
      have hlt' : (i : Int) < (n : Int) := by omega
      have Hp := hide hp
      clear hcs hp
      by_cases hr : stdS (kindB p) = true
      · rw [hr] at hz
        go_wp2_with (go_at_call 74; refine hz.mono ?_; rintro e w1 ⟨rfl, hk1⟩)
        go_ret
        refine ⟨⟨i, rfl, ?_⟩, hk.trans' hk1⟩
        rw [show L.any (fun p => stdS (kindB p)) = true from List.any_eq_true.2 ⟨p, List.mem_of_getElem? Hp.out, hr⟩]
        simp
      · have hr' : stdS (kindB p) = false := by simpa using hr
        rw [hr'] at hz
        go_wp2_with (go_at_call 74; refine hz.mono ?_; rintro e w1 ⟨rfl, hk1⟩)
        go_roundg (gk - 1)
        case measure => have := Hi.out; omega
        case rel =>
          refine ⟨i + 1, by have := Hi.out; omega, by go_num, hk.trans' hk1, fun j g hj hg => ?_⟩
          by_cases e : j = i
          · subst e
            rw [Hp.out] at hg
            injection hg with hg
            subst hg
            exact hr'
          · exact Hno.out j g (by omega) hg
    · have hge : (n : Int) ≤ (i : Int) := by omega
      go_wp2_with fail
      go_ret
      refine ⟨⟨-1, rfl, ?_⟩, hk⟩
      have e : L.any (fun p => stdS (kindB p)) = false := by
        rw [List.any_eq_false]
        intro f hf
        obtain ⟨j, hj, rfl⟩ := List.getElem_of_mem hf
        have hln := hl.1
        have hii := Hi.out
        simpa using Hno.out j L[j] (by omega) (List.getElem?_eq_getElem hj)
      rw [e]; rfl
set_option maxRecDepth 100000 in
theorem anyB_any (A : Option Addr) (n c : Nat) (L : List (List Int)) (w : World) (hn : n ≤ 4096) (hl : Sl u8T.slice w (low w.heap.size) A n L) (h2 : ∀ p ∈ L, 2 ≤ p.length) :
    Calls Tryd.prog 73 #[.slice A n c, .func (.func 74) #[] #[]] w fun e w' => e = .returned (.bool (L.any (fun p => stdS (kindB p)))) ∧ Kept w w' := by
  have h56 := indexF_any A n c L w hn hl h2
  go_enter Tryd.func73, Tryd.ntmps73
  go_wp2_with (go_at_call 95; refine h56.mono ?_; rintro e w1 ⟨⟨i, rfl, hi⟩, hk⟩)
  go_ret
  exact ⟨rfl, hk⟩
end Go.Proofs.YtjgncofhobhjdaaDoor
/- bytes: what its inner function does. -/
namespace Go.Proofs.YtjgncofhobhjdaaDoor
open Go.RowKit
attribute [local go_sem ↓] Go.wp_at_zero Go.wp_at_succ

/-- all below a base is as it was, but two boxes -/
structure FrA (B O V : Nat) (w w' : World) : Prop where
  os : w'.os = w.os
  tape : w'.tape = w.tape
  output : w'.output = w.output
  size : w.heap.size ≤ w'.heap.size
  block : ∀ k, k < B → k ≠ O → k ≠ V → w'.heap[k]? = w.heap[k]?
section
variable {B O V : Nat} {w w' w'' : World}
theorem FrA.refl : FrA B O V w w := ⟨rfl, rfl, rfl, Nat.le_refl _, fun _ _ _ _ => rfl⟩
theorem FrA.trans (h : FrA B O V w w') (k : FrA B O V w' w'') : FrA B O V w w'' := ⟨k.os.trans h.os, k.tape.trans h.tape, k.output.trans h.output, Nat.le_trans h.size k.size, fun i h1 h2 h3 => (k.block i h1 h2 h3).trans (h.block i h1 h2 h3)⟩
theorem FrA.kept (h : Kept w w') (hb : B ≤ w.heap.size) : FrA B O V w w' := ⟨h.os, h.tape, h.output, h.size, fun k h1 _ _ => h.block k (by omega)⟩
theorem FrA.below (h : Below B w w') : FrA B O V w w' := ⟨h.os, h.tape, h.output, h.size, fun k h1 _ _ => h.block k h1⟩
theorem FrA.setO (i : Nat) (u : Value) : FrA B O V w (w.setCell ⟨O, i, none⟩ u) := ⟨rfl, rfl, rfl, by rw [World.size_setCell]; exact Nat.le_refl _, fun k _ h2 _ => Below.heap_setCell _ _ _ k h2⟩
theorem FrA.setV (i : Nat) (u : Value) : FrA B O V w (w.setCell ⟨V, i, none⟩ u) := ⟨rfl, rfl, rfl, by rw [World.size_setCell]; exact Nat.le_refl _, fun k _ _ h2 => Below.heap_setCell _ _ _ k h2⟩
theorem FrA.toBelow {N : Nat} (h : FrA B O V w w') (h1 : N ≤ B) (h2 : N ≤ O) (h3 : N ≤ V) : Below N w w' := ⟨h.os, h.tape, h.output, h.size, fun k hk => h.block k (by omega) (by omega) (by omega)⟩
end
/-- the boxes of bytes: what has been written, and whether all is valid -/
structure Bys (B O V : Nat) (w : World) (k : Nat) (bs : List Int) (q : Bool) : Prop where
  out : ∃ v, w.heap[O]? = some (.cells #[v] 34 (0, 0)) ∧ Own u8T 5 B w v k bs
  val : w.heap[V]? = some (.cells #[.bool q] 4 (0, 0))
  low : O < B ∧ V < B ∧ O ≠ V
  base : B ≤ w.heap.size
theorem flat_u8 : Flat u8T := fun {w w' F F' x cs} h => h
theorem Bys.kept {B O V : Nat} {w w' : World} {k : Nat} {bs : List Int} {q : Bool} (h : Bys B O V w k bs q) (hk : Kept w w') : Bys B O V w' k bs q := by
  obtain ⟨v, h1, h2⟩ := h.out
  exact ⟨⟨v, heap_kept hk h1, h2.kept hk⟩, heap_kept hk h.val, h.low, Nat.le_trans h.base hk.size⟩
theorem Bys.setV {B O V : Nat} {w : World} {k : Nat} {bs : List Int} {q : Bool} (h : Bys B O V w k bs q) (q' : Bool) : Bys B O V (w.setCell ⟨V, 0, none⟩ (.bool q')) k bs q' := by
  obtain ⟨v, h1, h2⟩ := h.out
  obtain ⟨l1, l2, l3⟩ := h.low
  have hg : w.grownBy (w.setCell ⟨V, 0, none⟩ (.bool q')) (some V) := grown_at grown_self 0 _
  exact ⟨⟨v, heap_grown hg h1 (fun e => l3 (by injection e)), h2.grownF flat_u8 hg (h2.above l2)⟩, heap_store h.val _, h.low, by rw [World.size_setCell]; exact h.base⟩
theorem own_notTy {α : Type} {W : World} {t : Ty α} {e : TypeId} {base n : Nat} {v : Value} {xs : List α} (ho : Own t e base W v n xs) {k : Nat} {cs : Array Value} {t2 : TypeId} (hk : W.heap[k]? = some (.cells cs t2 (0, 0))) (he : e ≠ t2) : v.ownBlock ≠ some k := by
  intro e2
  obtain ⟨_, _, ⟨_, h2⟩, _⟩ := ho
  rcases h2 with ⟨rfl, _⟩ | ⟨g, cap, cur, rfl, _, hg2, _⟩
  · cases e2
  · have e3 : g = k := by simpa [Value.ownBlock] using e2
    subst e3
    rw [hg2] at hk
    injection hk with hk
    injection hk with _ hk _
    exact he hk
/-- blocks that are no rows of bytes stay, but two -/
def Stays (O V : Nat) (w w' : World) : Prop := ∀ k cs t, w.heap[k]? = some (.cells cs t (0, 0)) → 5 ≠ t → k ≠ O → k ≠ V → w'.heap[k]? = some (.cells cs t (0, 0))
theorem Stays.refl {O V : Nat} {w : World} : Stays O V w w := fun _ _ _ h _ _ _ => h
theorem Stays.trans {O V : Nat} {a b c : World} (h : Stays O V a b) (k : Stays O V b c) : Stays O V a c := fun i cs t h1 h2 h3 h4 => k i cs t (h i cs t h1 h2 h3 h4) h2 h3 h4
theorem Stays.kept {O V : Nat} {w w' : World} (h : Kept w w') : Stays O V w w' := fun _ _ _ h1 _ _ _ => heap_kept h h1
theorem Stays.setO {O V : Nat} {w : World} (i : Nat) (u : Value) : Stays O V w (w.setCell ⟨O, i, none⟩ u) := fun k _ _ h1 _ h3 _ => (Below.heap_setCell _ _ _ k h3).trans h1
theorem Stays.setV {O V : Nat} {w : World} (i : Nat) (u : Value) : Stays O V w (w.setCell ⟨V, i, none⟩ u) := fun k _ _ h1 _ _ h4 => (Below.heap_setCell _ _ _ k h4).trans h1
/-- all stays but two boxes and the row of bytes -/
def Rest (O V : Nat) (w w' : World) : Prop := ∀ k, k < w.heap.size → k ≠ O → k ≠ V → (∀ v, w.heap[O]? = some (.cells #[v] 34 (0, 0)) → v.ownBlock ≠ some k) → w'.heap[k]? = w.heap[k]?
/-- the call of add -/
def AddPost (B O V : Nat) (w : World) (k : Nat) (bs : List Int) (q : Bool) (w' : World) : Prop := Bys B O V w' k bs q ∧ FrA B O V w w' ∧ Stays O V w w' ∧ Rest O V w w'
set_option maxRecDepth 100000 in
set_option maxHeartbeats 2000000 in
theorem add_any (B O V k n c : Nat) (bs l : List Int) (q : Bool) (A : Option Addr) (E : Int) (w : World) (h : Bys B O V w k bs q) (hl : Sl u8T w (fun b => b < w.heap.size ∧ ∀ v, w.heap[O]? = some (.cells #[v] 34 (0, 0)) → v.ownBlock ≠ some b) A n l) (hkn : k + n ≤ 1000000) :
    Calls Tryd.prog 70 #[.slice A n c, .int .i64 E, .pointer (some ⟨O, 0, none⟩), .pointer (some ⟨V, 0, none⟩)] w fun e w' => e = .returned (.tuple #[]) ∧ AddPost B O V w (k + n) (bs ++ l) (q && E == 0) w' := by
  obtain ⟨i5, hi5, hz0, hz1, hz2⟩ := info_parts info5
  obtain ⟨v, h1, h2⟩ := h.out
  obtain ⟨l1, l2, l3⟩ := h.low
  have hv := h.val
  have hb := h.base
  have lO := heap_lt h1
  have lV := heap_lt hv
  have c0 : w.cell? ⟨O, 0, none⟩ = some v := cell_heap h1 (o := 0) rfl
  have f0 := frozen_heap h1 (o := 0)
  have d0 : w.cell? ⟨V, 0, none⟩ = some (.bool q) := cell_heap hv (o := 0) rfl
  have hl' : Sl u8T w (apart w v) A n l := hl.keep (fun b hb => ⟨hb.1, hb.2 v h1⟩) (fun _ _ _ => rfl)
  obtain ⟨A5, c5, rfl, hc1, hc2⟩ := h2.isSlice
  go_enter Tryd.func70, Tryd.ntmps70
  cases q with
  | true =>
    go_wp2_with (at_builtin; refine wpList_append_sl (T := u8T) rfl (.tmp 6) (.tmp 7) 34 rfl B 5 i5 _ 1 Tryd.underlying34 hi5 hz0 hz1 hz2 rfl (by decide) _ k bs (by rfl) h2 A n c l (by rfl) hl' (by_one8 _ _) (by unfold maxLen; omega) (by omega) hb ?_; intro v7 w7 hown7 hg7 hb7 hat7; obtain ⟨A7, c7, rfl, h71, h72⟩ := hown7.isSlice; have hO7 := heap_grown hg7 h1 (fun e => h2.not_at l1 e.symm); have hV7 := heap_grown hg7 hv (fun e => h2.not_at l2 e.symm); have cO7 := cell_heap hO7 (o := 0) rfl; have fO7 := frozen_heap hO7 (o := 0); have cV7 := cell_heap hV7 (o := 0) rfl; have fV7 := frozen_heap hV7 (o := 0); have lO7 := heap_lt hO7; have lV7 := heap_lt hV7)
    have hgO : w7.grownBy (w7.setCell ⟨O, 0, none⟩ (.slice A7 (k + n) c7)) (some O) := grown_at grown_self 0 _
    have hb1 : Bys B O V (w7.setCell ⟨O, 0, none⟩ (.slice A7 (k + n) c7)) (k + n) (bs ++ l) true := ⟨⟨_, heap_store hO7 _, hown7.grownF flat_u8 hgO (hown7.above l1)⟩, heap_grown hgO hV7 (fun e => l3 (by injection e with e; exact e.symm)), ⟨l1, l2, l3⟩, by rw [World.size_setCell]; exact Nat.le_trans hb hb7.size⟩
    exact ⟨rfl, .tuple #[], by simp [results, Tryd.results70, go_sem], rfl, hb1.setV _, ((FrA.below hb7).trans (FrA.setO 0 _)).trans (FrA.setV 0 _), (Stays.trans (fun i cs t e1 e2 _ _ => heap_grown hg7 e1 (fun e => own_notTy h2 e1 e2 e.symm)) (Stays.setO 0 _)).trans (Stays.setV 0 _), fun i e1 e2 e3 e4 => ((Below.heap_setCell _ _ _ i e3).trans (Below.heap_setCell _ _ _ i e2)).trans (hg7.block i e1 (fun e => e4 _ h1 e.symm))⟩
  | false =>
    go_wp2_with (at_builtin; refine wpList_append_sl (T := u8T) rfl (.tmp 6) (.tmp 7) 34 rfl B 5 i5 _ 1 Tryd.underlying34 hi5 hz0 hz1 hz2 rfl (by decide) _ k bs (by rfl) h2 A n c l (by rfl) hl' (by_one8 _ _) (by unfold maxLen; omega) (by omega) hb ?_; intro v7 w7 hown7 hg7 hb7 hat7; obtain ⟨A7, c7, rfl, h71, h72⟩ := hown7.isSlice; have hO7 := heap_grown hg7 h1 (fun e => h2.not_at l1 e.symm); have hV7 := heap_grown hg7 hv (fun e => h2.not_at l2 e.symm); have cO7 := cell_heap hO7 (o := 0) rfl; have fO7 := frozen_heap hO7 (o := 0); have cV7 := cell_heap hV7 (o := 0) rfl; have fV7 := frozen_heap hV7 (o := 0); have lO7 := heap_lt hO7; have lV7 := heap_lt hV7)
    have hgO : w7.grownBy (w7.setCell ⟨O, 0, none⟩ (.slice A7 (k + n) c7)) (some O) := grown_at grown_self 0 _
    have hb1 : Bys B O V (w7.setCell ⟨O, 0, none⟩ (.slice A7 (k + n) c7)) (k + n) (bs ++ l) false := ⟨⟨_, heap_store hO7 _, hown7.grownF flat_u8 hgO (hown7.above l1)⟩, heap_grown hgO hV7 (fun e => l3 (by injection e with e; exact e.symm)), ⟨l1, l2, l3⟩, by rw [World.size_setCell]; exact Nat.le_trans hb hb7.size⟩
    exact ⟨rfl, .tuple #[], by simp [results, Tryd.results70, go_sem], rfl, hb1.setV _, ((FrA.below hb7).trans (FrA.setO 0 _)).trans (FrA.setV 0 _), (Stays.trans (fun i cs t e1 e2 _ _ => heap_grown hg7 e1 (fun e => own_notTy h2 e1 e2 e.symm)) (Stays.setO 0 _)).trans (Stays.setV 0 _), fun i e1 e2 e3 e4 => ((Below.heap_setCell _ _ _ i e3).trans (Below.heap_setCell _ _ _ i e2)).trans (hg7.block i e1 (fun e => e4 _ h1 e.symm))⟩
end Go.Proofs.YtjgncofhobhjdaaDoor
