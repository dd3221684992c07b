/- ConfigurationsSame, walked. Printed by gen_ke.py. -/
import Derived.Test.YtjgncofhobhjdaaDoorChecked
import Derived.Deep.RegionHeld3
import Derived.Deep.DrawnRows
import Derived.Deep.DeepCutAuto
import Derived.Deep.LoopGhost
import Derived.Outline
import Derived.Handy
import Derived.OwnWalk
import Derived.BigQuiet
import Derived.Test.YtjgncofhobhjdaaDoorN26
import Derived.Test.YtjgncofhobhjdaaDoorLzK
set_option linter.unusedVariables false
set_option linter.unusedSimpArgs false
set_option linter.unusedSectionVars false
namespace Go.Proofs.YtjgncofhobhjdaaDoor
open Go.RowKit
attribute [local go_sem ↓] Go.wp_at_zero Go.wp_at_succ

theorem sum_set_le : ∀ (l : List Nat) (i x : Nat), (l.set i x).sum ≤ l.sum + x
  | [], _, _ => by simp
  | y :: l, 0, x => by simp only [List.set_cons_zero, List.sum_cons]; omega
  | y :: l, i + 1, x => by
    have := sum_set_le l i x
    simp only [List.set_cons_succ, List.sum_cons]
    omega
theorem size_set {D : CfgD} {I : List (List Alt)} {i j : Nat} {l : List Alt} {a' : Alt} (hl : I[i]? = some l) : sizeS ⟨D, I.set i (l.set j a')⟩ ≤ 2 * sizeS ⟨D, I⟩ + altSize a' := by
  rw [sizeS_eq, sizeS_eq]
  show 9 + sumC (I.set i (l.set j a')) ≤ 2 * (9 + sumC I) + altSize a'
  have h1 : sumC (I.set i (l.set j a')) ≤ sumC I + sumIf (l.set j a') := by
    unfold sumC
    rw [List.map_set]
    exact sum_set_le _ _ _
  have h2 : sumIf (l.set j a') ≤ sumIf l + altSize a' := by
    unfold sumIf
    rw [List.map_set]
    exact sum_set_le _ _ _
  have h3 := if_le (List.mem_of_getElem? hl)
  omega
theorem small_set {D : CfgD} {I : List (List Alt)} {i : Nat} {l' : List Alt} (h : SmallE ⟨D, I⟩) (hl : ∀ a ∈ l', ∀ e ∈ a.eps, e.num < 16) : SmallE ⟨D, I.set i l'⟩ := by
  intro l hl1 a ha e he
  rcases List.mem_or_eq_of_mem_set hl1 with h1 | rfl
  · exact h l h1 a ha e he
  · exact hl a ha e he
theorem ok_set {D : CfgD} {I : List (List Alt)} {i : Nat} {l' : List Alt} (h : Cfg.ok ⟨D, I⟩) (hl : ∀ a ∈ l', a.ok) : Cfg.ok ⟨D, I.set i l'⟩ := by
  refine ⟨h.1, fun l hl1 => ?_⟩
  rcases List.mem_or_eq_of_mem_set hl1 with h1 | rfl
  · exact h.2 l h1
  · exact hl
theorem set_all {α : Type} {P : α → Prop} {l : List α} {j : Nat} {x : α} (h : ∀ a ∈ l, P a) (hx : P x) : ∀ a ∈ l.set j x, P a := fun a ha => by
  rcases List.mem_or_eq_of_mem_set ha with h1 | rfl
  · exact h a h1
  · exact hx
def EPN : EpD := ⟨15, false, 2, 8, 0⟩
theorem eps_all {P : EpD → Prop} {l : List EpD} (h : ∀ z ∈ l, P z) (hn : P EPN) : ∀ z ∈ l ++ [EPN], P z := fun z hz => by
  rcases List.mem_append.1 hz with h1 | h1
  · exact h z h1
  · have h2 : z = EPN := by simpa using h1
    rw [h2]; exact hn
theorem epn_ok : EPN.ok := by unfold EPN EpD.ok u8k u16k; simp
theorem LRd.low {base : Nat} {w : World} {A : Option Addr} {c n : Nat} {L : List LF} {D : CfgD} {I : List (List Alt)} (h : LRd base w (.slice A n c) L) (hn : I.length = n) (hp : plainL L = I) (hd : D.ok) (hc : L.length ≤ c) (hm : c ≤ maxLen) : CfgIs w (low w.heap.size) ⟨D, I⟩ A c := by
  have hl : L.length = n := by rw [← hn, ← hp]; unfold plainL; rw [List.length_map]
  have hs := h.sl hl
  rw [hp] at hs
  subst hn
  have hcf : CfgIs w (fun b => base ≤ b ∧ b < w.heap.size) ⟨D, I⟩ A c := ⟨hd, by show I.length ≤ c; rw [← hl]; exact hc, hm, hs⟩
  exact hcf.keep (fun b hb => hb.2) (fun _ _ _ => rfl)
theorem own_one {α : Type} {t : Ty α} {e : TypeId} {w : World} {base n : Nat} {v : Value} {xs : List α} (h : Own t e base w v n xs) : v.oneCell' = true := by
  obtain ⟨A, c, rfl, _⟩ := h.isSlice
  rfl
theorem LRd.kept {base : Nat} {w w' : World} {v : Value} {L : List LF} (h : LRd base w v L) (hk : Kept w w') : LRd base w' v L := ⟨h.own.kept hk, fun y hy => (h.rows y hy).kept hk⟩
theorem size_behind {D : CfgD} {I : List (List Alt)} {i : Nat} {l : List Alt} {a : Alt} (hl : I[i]? = some l) : sizeS ⟨D, I.set i (l ++ [a])⟩ ≤ 2 * sizeS ⟨D, I⟩ + altSize a := by
  rw [sizeS_eq, sizeS_eq]
  show 9 + sumC (I.set i (l ++ [a])) ≤ 2 * (9 + sumC I) + altSize a
  have h1 : sumC (I.set i (l ++ [a])) ≤ sumC I + sumIf (l ++ [a]) := by
    unfold sumC
    rw [List.map_set]
    exact sum_set_le _ _ _
  have h2 : sumIf (l ++ [a]) = sumIf l + altSize a := by
    unfold sumIf
    rw [List.map_append, List.sum_append]
    simp
  have h3 := if_le (List.mem_of_getElem? hl)
  omega
theorem app_all {P : Alt → Prop} {l : List Alt} {a : Alt} (h : ∀ z ∈ l, P z) (hn : P a) : ∀ z ∈ l ++ [a], P z := fun z hz => by
  rcases List.mem_append.1 hz with h1 | h1
  · exact h z h1
  · have h2 : z = a := by simpa using h1
    rw [h2]; exact hn
theorem plainL_behind {L : List LF} {i : Nat} {y : LF} {p : LA} {v' : Value} {l : List Alt} (hl : l = y.alts.map LA.a) : plainL (L.set i ⟨y.alts ++ [p], v'⟩) = (plainL L).set i (l ++ [p.a]) := by
  unfold plainL
  rw [List.map_set, hl, List.map_append]
  rfl
theorem row_from {w : World} {g base : Nat} {cs : Array Value} (h : g < base) : From base w (w.setRow g cs) := ⟨by rw [size_setRow]; exact Nat.le_refl _, fun b hb _ => by simp [World.setRow, Array.getElem?_modify, show g ≠ b by omega]⟩
theorem LIs.low {base : Nat} {w : World} {A : Option Addr} {c n : Nat} {L : List LF} {D : CfgD} {I : List (List Alt)} (h : LIs base w (.slice A n c) L) (hn : I.length = n) (hp : plainL L = I) (hd : D.ok) (hc : L.length ≤ c) (hm : c ≤ maxLen) : CfgIs w (low w.heap.size) ⟨D, I⟩ A c := by
  subst hn
  exact (LIs.cfg (C := ⟨D, I⟩) h hp hd hc hm).keep (fun b hb => hb.2) (fun _ _ _ => rfl)
set_option maxRecDepth 100000 in
set_option maxHeartbeats 16000000 in
theorem same_law (x y : PC) (A B : Option Addr) (cap capB : Nat) (h0 h1 : Int) (w : World) (hC : PcIs w x A cap) (hD : PcIs w y B capB) (hx : x.ok) (hy : y.ok) (hh0 : u8k h0) (hh1 : u8k h1) (hz : countP x.ifs ≤ 2000000) (hzy : countP y.ifs ≤ 2000000) (hT : Tabs w) :
    Calls Tryd.prog 9 #[.agg (x.cells A cap).toArray, .agg (y.cells B capB).toArray, .agg #[.int .u8 h0, .int .u8 h1]] w fun e w' => e = .returned (.bool true) ∧ Kept w w' := by
  have HTw := hide hT
  obtain ⟨i8, hi8, h80, h81, h82⟩ := info_parts info5
  obtain ⟨iE, hiE, hE0, hE1, hE2⟩ := info_parts infoEp
  obtain ⟨iA, hiA, hA0, hA1, hA2⟩ := info_parts infoAlt
  have hlv := fun w' (hk : Kept w w') => lives_any w' (hT.kept hk)
  have hb1 := fun w' (hk : Kept w w') => big_any x A cap w' (hC.kept hk) hz
  have hb2 := fun w' (hk : Kept w w') => big_any y B capB w' (hD.kept hk) hzy
  have ho1 := fun w' (hk : Kept w w') hb => of_plain x A cap w' (hC.kept hk) hb hx
  have hoa := fun w' (hk : Kept w w') hb => of_any x A cap w' (hC.kept hk) hb hx
  have ho2 := fun w' (hk : Kept w w') hb => of_plain y B capB w' (hD.kept hk) hb hy
  have hs1 := fun hb => of_size (x := x) hb hx
  have hc1 := fun hb => of_check (x := x) hb hx
  have hk1 := fun hb => of_ok (x := x) hb hx
  have hs2 := fun hb => of_size (x := y) hb hy
  have hc2 := fun hb => of_check (x := y) hb hy
  have hk2 := fun hb => of_ok (x := y) hb hy
  obtain ⟨bg1, hbg1⟩ : ∃ bg, bigS x = bg := ⟨_, rfl⟩
  obtain ⟨bg2, hbg2⟩ : ∃ bg, bigS y = bg := ⟨_, rfl⟩
  obtain ⟨E1, hE1⟩ : ∃ C, ofS x = C := ⟨_, rfl⟩
  obtain ⟨E2, hE2⟩ : ∃ C, ofS y = C := ⟨_, rfl⟩
  simp only [hbg1, hE1] at hb1 ho1 hoa hs1 hc1 hk1
  simp only [hbg2, hE2] at hb2 ho2 hs2 hc2 hk2
  obtain ⟨nu, te, po, se, wa, L⟩ := x
  obtain ⟨nu2, te2, po2, se2, wa2, L2⟩ := y
  obtain ⟨n0, hn0⟩ : ∃ n0, L.length = n0 := ⟨_, rfl⟩
  obtain ⟨m0, hm0⟩ : ∃ n0, L2.length = n0 := ⟨_, rfl⟩
  unfold PC.cells at hb1 hb2 ho1 hoa ho2 ⊢
  simp only [hn0] at hb1 ho1 hoa ⊢
  simp only [hm0] at hb2 ho2 ⊢
  clear hC hD hx hy hz hzy hT hn0 hm0 hbg1 hbg2 hE1 hE2
  go_enter Tryd.func9, Tryd.ntmps9
  go_upto_region 1 with (fail)
  refine wp_at (fun W => W.heap[w.heap.size]? = some (.cells #[.int .u8 nu, .int .u8 te, .int .u8 po, .bool se, .bool wa, .slice A n0 cap] 24 (0, 0)) ∧ W.heap[w.heap.size + 1]? = some (.cells #[.int .u8 nu2, .int .u8 te2, .int .u8 po2, .bool se2, .bool wa2, .slice B m0 capB] 24 (0, 0)) ∧ W.heap[w.heap.size + 1 + 1]? = some (.cells #[.int .u8 h0, .int .u8 h1] 44 (0, 0)) ∧ Kept w W) ⟨heap_past (heap_past (heap_at _ rfl)), heap_past (heap_at _ (by first | rfl | simp)), heap_at _ (by first | rfl | simp), by go_grown⟩ (fun W hW => ?_)
  obtain ⟨hI, hJ, hH, hkW⟩ := hW
  obtain ⟨I0, hI0⟩ : ∃ I0, w.heap.size = I0 := ⟨_, rfl⟩
  obtain ⟨J0, hJ0⟩ : ∃ J0, I0 + 1 = J0 := ⟨_, rfl⟩
  obtain ⟨B0, hB0⟩ : ∃ B0, J0 + 1 = B0 := ⟨_, rfl⟩
  rw [hI0, hJ0, hB0] at hH
  rw [hI0, hJ0] at hJ
  rw [hI0] at hI
  simp only [hI0, hJ0, hB0]
  have i0 := cell_heap hI (o := 0) rfl; have i1 := cell_heap hI (o := 1) rfl; have i2 := cell_heap hI (o := 2) rfl; have i3 := cell_heap hI (o := 3) rfl; have i4 := cell_heap hI (o := 4) rfl; have i5 := cell_heap hI (o := 5) rfl
  have j0 := cell_heap hJ (o := 0) rfl; have j1 := cell_heap hJ (o := 1) rfl; have j2 := cell_heap hJ (o := 2) rfl; have j3 := cell_heap hJ (o := 3) rfl; have j4 := cell_heap hJ (o := 4) rfl; have j5 := cell_heap hJ (o := 5) rfl
  have lI := heap_lt hI
  have lJ := heap_lt hJ
  have HI := hide hI
  have HJ := hide hJ
  have HH := hide hH
  have HkW := hide hkW
  clear hI hJ hH hkW hI0 hJ0 hB0
  cases bg1 with
  | true =>
    clear ho1 hoa ho2 hs1 hc1 hk1 hs2 hc2 hk2
    go_wp2_with (first
      | (go_at_call 12; refine (hb1 _ HkW.out).mono ?_; rintro e w1 ⟨⟨k, rfl, hk0⟩, hkk⟩; have hkp : 0 < k := by simpa using hk0)
      | (go_at_call 13; refine (hlv _ (HkW.out.trans' hkk)).mono ?_; rintro e w2 ⟨rfl, hk3⟩))
    go_ret
    exact ⟨rfl, (HkW.out.trans' hkk).trans' hk3⟩
  | false =>
  cases bg2 with
  | true =>
    clear ho1 hoa ho2 hs1 hc1 hk1 hs2 hc2 hk2
    go_wp2_with (first
      | (go_at_call 12; have hgd := hkk; refine (hb2 _ (HkW.out.trans' hkk)).mono ?_; rintro e w3 ⟨⟨k3, rfl, hk0'⟩, hk3⟩; have hkp3 : 0 < k3 := by simpa using hk0')
      | (go_at_call 12; refine (hb1 _ HkW.out).mono ?_; rintro e w1 ⟨⟨k, rfl, hk0⟩, hkk⟩; have hkp : k ≤ 0 := (by simpa using hk0); have hJ1 := heap_kept hkk HJ.out; have jj0 := cell_heap hJ1 (o := 0) rfl; have jj1 := cell_heap hJ1 (o := 1) rfl; have jj2 := cell_heap hJ1 (o := 2) rfl; have jj3 := cell_heap hJ1 (o := 3) rfl; have jj4 := cell_heap hJ1 (o := 4) rfl; have jj5 := cell_heap hJ1 (o := 5) rfl; have lJ1 := heap_lt hJ1)
      | (go_at_call 13; refine (hlv _ ((HkW.out.trans' hkk).trans' hk3)).mono ?_; rintro e w4 ⟨rfl, hk4⟩))
    go_ret
    exact ⟨rfl, ((HkW.out.trans' hkk).trans' hk3).trans' hk4⟩
  | false =>
  replace ho1 := fun w' hk => ho1 w' hk rfl
  replace hoa := fun w' hk => hoa w' hk rfl
  replace ho2 := fun w' hk => ho2 w' hk rfl
  replace hs1 := hs1 rfl
  replace hc1 := hc1 rfl
  replace hk1 := hk1 rfl
  replace hs2 := hs2 rfl
  replace hc2 := hc2 rfl
  replace hk2 := hk2 rfl
  have hinj := told_inj hc1 hc2 hk1 hk2
  have hu1 := told_u8' hk1
  have hu2 := told_u8' hk2
  have hm1 := small_valid' hc1
  have hm2 := small_valid' hc2
  obtain ⟨D1, I1⟩ := E1
  obtain ⟨n1, hn1⟩ : ∃ n, I1.length = n := ⟨_, rfl⟩
  obtain ⟨D2, I2⟩ := E2
  obtain ⟨n2, hn2⟩ : ∃ n, I2.length = n := ⟨_, rfl⟩
  unfold Cfg.cells CfgD.cells at ho1 hoa ho2
  simp only [hn1, List.cons_append, List.nil_append] at ho1 hoa
  simp only [hn2, List.cons_append, List.nil_append] at ho2
  have Hn1 := hide hn1
  have Hn2 := hide hn2
  have Hs1 := hide hs1
  have Hs2 := hide hs2
  have Hc1 := hide hc1
  have Hk1 := hide hk1
  have Hinj := hide hinj
  have Hu1 := hide hu1
  have Hu2 := hide hu2
  have Hm1 := hide hm1
  have Hm2 := hide hm2
  clear hs1 hc1 hk1 hs2 hc2 hk2 hinj hu1 hu2 hm1 hm2 hn1 hn2
  go_upto_region 3 with (first
      | (go_at_call 12; have hgd := hkk; refine (hb2 _ (HkW.out.trans' hkk)).mono ?_; rintro e w3 ⟨⟨k3, rfl, hk0'⟩, hk3⟩; have hkp3 : k3 ≤ 0 := by simpa using hk0')
      | (go_at_call 12; refine (hb1 _ HkW.out).mono ?_; rintro e w1 ⟨⟨k, rfl, hk0⟩, hkk⟩; have hkp : k ≤ 0 := (by simpa using hk0); have hJ1 := heap_kept hkk HJ.out; have jj0 := cell_heap hJ1 (o := 0) rfl; have jj1 := cell_heap hJ1 (o := 1) rfl; have jj2 := cell_heap hJ1 (o := 2) rfl; have jj3 := cell_heap hJ1 (o := 3) rfl; have jj4 := cell_heap hJ1 (o := 4) rfl; have jj5 := cell_heap hJ1 (o := 5) rfl; have lJ1 := heap_lt hJ1))
  have hkA := (HkW.out.trans' hkk).trans' hk3
  have hI3 := heap_kept (hkk.trans' hk3) HI.out
  have HJ3 := hide (heap_kept (hkk.trans' hk3) HJ.out)
  have HH3 := hide (heap_kept (hkk.trans' hk3) HH.out)
  clear i0 i1 i2 i3 i4 i5 j0 j1 j2 j3 j4 j5 jj0 jj1 jj2 jj3 jj4 jj5 lI lJ lJ1 hJ1 HI HJ HH hk0 hk0' hkk hk3 HkW hkp hkp3
  have i0 := cell_heap hI3 (o := 0) rfl; have i1 := cell_heap hI3 (o := 1) rfl; have i2 := cell_heap hI3 (o := 2) rfl; have i3 := cell_heap hI3 (o := 3) rfl; have i4 := cell_heap hI3 (o := 4) rfl; have i5 := cell_heap hI3 (o := 5) rfl
  have lI := heap_lt hI3
  have HI3 := hide hI3
  clear hI3 hb1 hb2
  go_upto_region 4 with (go_at_call 14; refine (ho1 _ hkA).mono ?_; rintro e w4 ⟨⟨A1, c1, rfl, hcf1⟩, hk4⟩)
  refine wp_at (fun V => ∃ AB, V.heap[AB]? = some (.cells #[.int .u16 D1.total, .int .u8 D1.ifs, .int .u8 D1.number, .int .u8 D1.text, .bool D1.self, .bool D1.wake, .int .u8 D1.power, .slice A1 n1 c1] 32 (0, 0)) ∧ AB = w4.heap.size ∧ Kept w4 V) ⟨_, heap_at _ rfl, rfl, by go_grown⟩ (fun V hV => ?_)
  obtain ⟨AB, hAB, hABd, hkV⟩ := hV
  rw [← hABd]
  have hkB := (hkA.trans' hk4).trans' hkV
  have hJ4 := heap_kept (hk4.trans' hkV) HJ3.out
  have HI4 := hide (heap_kept (hk4.trans' hkV) HI3.out)
  have hVw := hkB.size
  have HH4 := hide (heap_kept (hk4.trans' hkV) HH3.out)
  have Hcf1 := hide (hcf1.kept hkV)
  have HAB := hide hAB
  clear i0 i1 i2 i3 i4 i5 lI hAB hABd hkV hk4 hkA hcf1 HI3 HJ3 HH3 ho1
  have j0 := cell_heap hJ4 (o := 0) rfl; have j1 := cell_heap hJ4 (o := 1) rfl; have j2 := cell_heap hJ4 (o := 2) rfl; have j3 := cell_heap hJ4 (o := 3) rfl; have j4 := cell_heap hJ4 (o := 4) rfl; have j5 := cell_heap hJ4 (o := 5) rfl
  have lJ := heap_lt hJ4
  clear hJ4
  go_upto_region 5 with (go_at_call 14; refine (ho2 _ hkB).mono ?_; rintro e w5 ⟨⟨A2, c2, rfl, hcf2⟩, hk5⟩)
  refine wp_at (fun X => ∃ BB, X.heap[BB]? = some (.cells #[.int .u16 D2.total, .int .u8 D2.ifs, .int .u8 D2.number, .int .u8 D2.text, .bool D2.self, .bool D2.wake, .int .u8 D2.power, .slice A2 n2 c2] 32 (0, 0)) ∧ BB = w5.heap.size ∧ Kept w5 X) ⟨_, heap_at _ rfl, rfl, by go_grown⟩ (fun X hX => ?_)
  obtain ⟨BB, hBB, hBBd, hkX⟩ := hX
  rw [← hBBd]
  have hkC := (hkB.trans' hk5).trans' hkX
  have HAX := hide (heap_kept (hk5.trans' hkX) HAB.out)
  have HIX := hide (heap_kept (hk5.trans' hkX) HI4.out)
  have hHX := heap_kept (hk5.trans' hkX) HH4.out
  have HHX := hide hHX
  have Hcf1X := hide (Hcf1.out.kept (hk5.trans' hkX))
  have Hcf2X := hide (hcf2.kept hkX)
  have HBX := hide hBB
  have hVB : V.heap.size ≤ BB := by rw [hBBd]; exact hk5.size
  have hBX : BB < X.heap.size := heap_lt hBB
  have hkVX : Kept V X := hk5.trans' hkX
  clear j0 j1 j2 j3 j4 j5 lJ hBB hBBd hkX hk5 hcf2 HI4 ho2
  have b0 := cell_heap hHX (o := 0) rfl
  have b1 := cell_heap hHX (o := 1) rfl
  have lH := heap_lt hHX
  clear hHX
  obtain ⟨z0, z1⟩ := hh0
  obtain ⟨r, hr⟩ : ∃ r, h0 % 2 = r := ⟨_, rfl⟩
  have hmr : h0.tmod 2 = r := by rw [Int.tmod_eq_emod_of_nonneg z0]; exact hr
  have hr2 : r = 0 ∨ r = 1 := by omega
  clear hr
  rcases hr2 with rfl | rfl
  · go_upto_region 20 with (fail)
    refine same_tail hkC HAX.out HBX.out Hcf1X.out Hcf2X.out Hn1.out Hn2.out (by have := Hs1.out; omega) (by have := Hs2.out; omega) Hm1.out Hm2.out HTw.out (hv_of Hu1.out Hu2.out Hinj.out) _ ?_
    assumption
  have hIX := HIX.out
  have i0 := cell_heap hIX (o := 0) rfl; have i1 := cell_heap hIX (o := 1) rfl; have i2 := cell_heap hIX (o := 2) rfl; have i3 := cell_heap hIX (o := 3) rfl; have i4 := cell_heap hIX (o := 4) rfl; have i5 := cell_heap hIX (o := 5) rfl
  have lI := heap_lt hIX
  clear hIX Hcf2X Hinj Hu2 Hm2 Hs2 Hn2
  go_upto_region 7 with (first
    | (go_at_call 14; refine (hoa _ hkC).mono ?_; rintro e w6 ⟨⟨A3, c3, L3, rfl, hpl, hl3, hm3, hli⟩, hk6⟩; have hB6 := heap_kept hk6 HBX.out)
    | (refine wpList_store_row rfl 32 (.tmp 8) (.tmp 30) rfl BB #[.int .u16 D1.total, .int .u8 D1.ifs, .int .u8 D1.number, .int .u8 D1.text, .bool D1.self, .bool D1.wake, .int .u8 D1.power, .slice A3 n1 c3] (by rfl) (by rfl) 32 _ hB6 (by kernel_rfl) (by rfl) (by simp [Value.oneCell']) ?_))
  refine wp_at (fun Y => Y.heap[BB]? = some (.cells #[.int .u16 D1.total, .int .u8 D1.ifs, .int .u8 D1.number, .int .u8 D1.text, .bool D1.self, .bool D1.wake, .int .u8 D1.power, .slice A3 n1 c3] 32 (0, 0)) ∧ Kept V Y ∧ LIs X.heap.size Y (.slice A3 n1 c3) L3 ∧ X.heap.size ≤ Y.heap.size) ⟨heap_row hB6, below_row (hkVX.trans' hk6) hVB _, hli.from_ (row_from hBX), by rw [size_setRow]; exact hk6.size⟩ (fun Y hY => ?_)
  obtain ⟨hBY, hkVY, hliY, hYX⟩ := hY
  have HYX := hide hYX
  clear hYX
  have hHY := heap_kept hkVY HH4.out
  have hkwY : Kept w Y := hkB.trans' hkVY
  have HBY := hide hBY
  have HLi := hide hliY
  have HkVY := hide hkVY
  clear i0 i1 i2 i3 i4 i5 lI b0 b1 lH hk6 hB6 hli HBX HAX HIX HHX Hcf1X hkC
  have b0 := cell_heap hBY (o := 0) rfl; have b1 := cell_heap hBY (o := 1) rfl; have b2 := cell_heap hBY (o := 2) rfl; have b3 := cell_heap hBY (o := 3) rfl; have b4 := cell_heap hBY (o := 4) rfl; have b5 := cell_heap hBY (o := 5) rfl; have b6 := cell_heap hBY (o := 6) rfl; have b7 := cell_heap hBY (o := 7) rfl
  have lBB := heap_lt hBY
  have q0 := cell_heap hHY (o := 0) rfl
  have q1 := cell_heap hHY (o := 1) rfl
  have lH := heap_lt hHY
  have hcc := check_of Hc1.out
  have hn1p : 0 < n1 := by
    have h1 := hcc.ifs
    have h2 := hcc.valid.d
    unfold okCfg at h2
    simp only [Bool.and_eq_true, decide_eq_true_eq] at h2
    have h3 := h2.1.1.1.2
    have h4 : (1 : Int) ≤ (I1.length : Int) := by rw [← h1]; exact h2.1.1.1.2
    rw [Hn1.out] at h4
    omega
  obtain ⟨i, hi⟩ : ∃ i : Nat, h1 % (n1 : Int) = (i : Int) := ⟨(h1 % (n1 : Int)).toNat, by have := Int.emod_nonneg h1 (show (n1 : Int) ≠ 0 by omega); omega⟩
  have hin : i < n1 := by have := Int.emod_lt_of_pos h1 (show (0 : Int) < (n1 : Int) by omega); omega
  obtain ⟨y0, y1⟩ := hh1
  have hwh : IntKind.i64.wrap h1 = h1 := by rw [IntKind.wrap_i64]; omega
  have hmi : h1.tmod (n1 : Int) = (i : Int) := by rw [Int.tmod_eq_emod_of_nonneg y0]; exact hi
  have hn0i : ¬ (n1 : Int) = 0 := by omega
  have hn0n : ¬ n1 = 0 := by omega
  have hpl1 : plainL L3 = I1 := hpl
  have hi1 : i < I1.length := by rw [Hn1.out]; exact hin
  obtain ⟨y, hyL, hyl⟩ := plainL_at (show (plainL L3)[i]? = some I1[i] by rw [hpl1]; exact List.getElem?_eq_getElem hi1)
  obtain ⟨l, hl⟩ : ∃ l, I1[i] = l := ⟨_, rfl⟩
  have hIl : I1[i]? = some l := by rw [List.getElem?_eq_getElem hi1, hl]
  rw [hl] at hyl
  have hl0 : 0 < l.length := List.length_pos_iff.2 (hcc.each l (List.mem_of_getElem? hIl)).2
  have hl16 := (hcc.each l (List.mem_of_getElem? hIl)).1
  have hym : y.alts.length = l.length := by rw [hyl, List.length_map]
  have hyr := hliY.rows y (List.mem_of_getElem? hyL)
  have hL3n : L3.length = n1 := by rw [← Hn1.out, ← hpl1]; unfold plainL; rw [List.length_map]
  have hown := hliY.own
  rw [hL3n] at hown
  obtain ⟨gI, cI, curI, hvI, hgI, hhI, hcI1, hcI2, hbI⟩ := own_block hown hn1p
  injection hvI with hvI1 _ hvI3
  subst hvI1 hvI3
  obtain ⟨g, cA, curA, hvA, hgA, hhA, hcA1, hcA2, hbA⟩ := own_block hyr.1 (by omega)
  obtain ⟨m, hmm⟩ : ∃ m, y.alts.length = m := ⟨_, rfl⟩
  rw [hmm] at hvA hcA1 hym
  obtain ⟨j, hj⟩ : ∃ j, m - 1 = j := ⟨_, rfl⟩
  have hjm : j < m := by omega
  obtain ⟨p, hp⟩ : ∃ p, y.alts[j]? = some p := ⟨_, List.getElem?_eq_getElem (by omega)⟩
  have hcellI := own_cells (j := i) (cs := [y.v]) hown hyL (fun F c hr => hr.1) 0 _ rfl
  have hcellI' : Y.cell? ⟨gI, i, none⟩ = some (.slice (some ⟨g, 0, none⟩) m cA) := by rw [← hvA]; simpa [lfT, Ty.flat] using hcellI
  have hyr1 := hyr.1
  rw [hvA, hmm] at hyr1
  have hcells := own_cells (j := j) (cs := p.cells) hyr1 hp (fun F c hr => hr.1)
  have hjw : IntKind.i64.wrap ((m : Int) - 1) = (j : Int) := by rw [IntKind.wrap_i64]; omega
  have hj0 : (0 : Int) ≤ (j : Int) := by omega
  have hjmi : (j : Int) < (m : Int) := by omega
  have hi0 : (0 : Int) ≤ (i : Int) := by omega
  have hini : (i : Int) < (n1 : Int) := by omega
  have lg := heap_lt hhA
  have lgI := heap_lt hhI
  have Hcells := hide hcells
  have HhA := hide hhA
  have HhI := hide hhI
  have Hyr := hide hyr
  have Hown := hide hown
  have Hp := hide hp
  have HyL := hide hyL
  have Hyl := hide hyl
  have Hpl := hide hpl1
  have HIl := hide hIl
  have Hmm := hide hmm
  have Hcc := hide hcc
  have HgA := hide hgA
  have HgI := hide hgI
  have HvA := hide hvA
  have Hym := hide hym
  have HL3 := hide hL3n
  clear hBY hHY hkVY hliY hcells hhA hhI hyr hyr1 hown hp hyL hyl hpl hpl1 hIl hmm hcc hgA hgI hvA hcellI hi hl hym hL3n hj hi1
  go_upto_region 8 with (fail)
  go_quiet (fail)
  go_upto_region 9 with (fail)
  refine wp_at (fun Z => Kept Y Z ∧ (∀ k : Nat, Z.heap[k]? = Y.heap[k]?)) ⟨by first | exact below_drewN (Below.refl _ _) _ | go_grown, fun _ => rfl⟩ (fun Z hZ => ?_)
  obtain ⟨hkZ, hsZ⟩ := hZ
  have hkVZ := HkVY.out.trans' hkZ
  have hBZ := heap_kept hkZ HBY.out
  have hliZ := HLi.out.kept hkZ
  have hHZ := heap_kept hkVZ HH4.out
  have hAZ := heap_kept hkZ HhA.out
  have hIZ := heap_kept hkZ HhI.out
  have hcZ : ∀ (o : Nat) u, p.cells[o]? = some u → Z.cell? ⟨g, j * 9 + o, none⟩ = some u := fun o u hu => (hkZ.cell (p := ⟨g, j * 9 + o, none⟩) lg).trans (Hcells.out o u hu)
  have HBZ := hide hBZ
  have HLZ := hide hliZ
  have HAZ := hide hAZ
  have HIZ := hide hIZ
  have HcZ := hide hcZ
  have HkVZ := hide hkVZ
  have Hzs := hide (show X.heap.size ≤ Z.heap.size from Nat.le_trans HYX.out hkZ.size)
  clear b0 b1 b2 b3 b4 b5 b6 b7 q0 q1 lH lBB lg lgI hcellI' hAZ hIZ hcZ hkVZ hliZ HBY HLi HhA HhI Hcells HkVY hkZ hsZ hkwY
  have q0 := cell_heap hHZ (o := 0) rfl
  have lH := heap_lt hHZ
  obtain ⟨qh, hqh⟩ : ∃ qh, h0 / 2 = qh := ⟨_, rfl⟩
  have hq2 : h0.tdiv 2 = qh := by rw [Int.tdiv_eq_ediv_of_nonneg z0]; exact hqh
  have hqn : 0 ≤ qh := by omega
  have hwq : IntKind.u8.wrap qh = qh := by
    have : IntKind.u8.wrap qh = qh % 256 := by simp [IntKind.wrap, IntKind.signed, IntKind.bits]
    omega
  obtain ⟨r6, hr6⟩ : ∃ r6, qh % 6 = r6 := ⟨_, rfl⟩
  have hm6 : qh.tmod 6 = r6 := by rw [Int.tmod_eq_emod_of_nonneg hqn]; exact hr6
  have hr6c : r6 = 0 ∨ r6 = 1 ∨ r6 = 2 ∨ r6 = 3 ∨ r6 = 4 ∨ r6 = 5 := by omega
  clear hr6 hqh hHZ hmr
  have lB := heap_lt hBZ
  have hpa : l[j]? = some p.a := by rw [Hyl.out, List.getElem?_map, Hp.out]; rfl
  have hpal := List.mem_of_getElem? hpa
  have hlI := List.mem_of_getElem? HIl.out
  have hpok : p.a.ok := Hk1.out.2 l hlI p.a hpal
  have hpsz : altSize p.a ≤ 3129 := Nat.le_trans (alt_le hpal) (Nat.le_trans (if_le hlI) (by have h := Hs1.out; rw [sizeS_eq] at h; have h2 : 9 + sumC I1 ≤ 3129 := h; omega))
  have hVg : V.heap.size ≤ g := Nat.le_trans hkVX.size hbA
  have hBg : BB ≠ g := by omega
  have hpll : (plainL L3)[i]? = some l := by rw [Hpl.out]; exact HIl.out
  have Hpa := hide hpa
  have Hpok := hide hpok
  have Hpll := hide hpll
  have HlI := hide hlI
  have Hpal := hide hpal
  clear hpa hpok hpll hlI hpal
  rcases hr6c with rfl | rfl | rfl | rfl | rfl | rfl
  · obtain ⟨tx, htx⟩ : ∃ tx, IntKind.u8.wrap (D1.text + 1) = tx := ⟨_, rfl⟩
    have htx8 : u8k tx := by rw [← htx]; exact wrap_u8k _
    have b3 : Z.cell? ⟨BB, 3, none⟩ = some (.int .u8 D1.text) := cell_heap hBZ (o := 3) rfl
    have f3 := frozen_heap hBZ (o := 3)
    clear hBZ
    go_upto_region 20 with (fail)
    refine same_tail (D2 := { D1 with text := tx }) (I2 := I1) (w := w) (hkB.trans' (HkVZ.out.setCell hVB _)) (heap_kept (HkVZ.out.setCell hVB _) HAB.out) (heap_store HBZ.out _) (Hcf1.out.kept (HkVZ.out.setCell hVB _)) (LIs.low (HLZ.out.from_ (From.set _ hBX)) Hn1.out Hpl.out ⟨Hk1.out.1.1, Hk1.out.1.2.1, Hk1.out.1.2.2.1, htx8, Hk1.out.1.2.2.2.2⟩ hl3 hm3) Hn1.out Hn1.out (by have := Hs1.out; omega) (by have := Hs1.out; exact Nat.le_trans this (by omega)) Hm1.out Hm1.out HTw.out (hv_of Hu1.out (told_u8' ⟨⟨Hk1.out.1.1, Hk1.out.1.2.1, Hk1.out.1.2.2.1, htx8, Hk1.out.1.2.2.2.2⟩, Hk1.out.2⟩) told_text) _ ?_
    assumption
  · clear hBZ
    obtain ⟨q2, hq2'⟩ : ∃ q2, IntKind.u8.wrap (p.a.d.proto + 1) = q2 := ⟨_, rfl⟩
    have hq8 : u8k q2 := by rw [← hq2']; exact wrap_u8k _
    have c5 : Z.cell? ⟨g, j * 9 + 5, none⟩ = some (.int .u8 p.a.d.proto) := HcZ.out 5 _ rfl
    have f5 := frozen_heap HAZ.out (o := j * 9 + 5)
    have lg := heap_lt HAZ.out
    have Hq8 := hide hq8
    clear hq8
    go_upto_region 20 with (fail)
    have hok2 : (⟨p.a.d.num, p.a.d.alt, p.a.d.eps, p.a.d.cls, p.a.d.sub, q2, p.a.d.text⟩ : IfD).ok := ⟨Hpok.out.1.1, Hpok.out.1.2.1, Hpok.out.1.2.2.1, Hpok.out.1.2.2.2.1, Hpok.out.1.2.2.2.2.1, Hq8.out, Hpok.out.1.2.2.2.2.2.2⟩
    have hli := HLZ.out.field HyL.out Hp.out HgA.out (d' := { p.a.d with proto := q2 }) (o := 5) (u := .int .u8 q2) (by decide) rfl hok2
    refine same_tail (D2 := D1) (I2 := I1.set i (l.set j { p.a with d := { p.a.d with proto := q2 } })) (w := w) (hkB.trans' (HkVZ.out.setCell hVg _)) (heap_kept (HkVZ.out.setCell hVg _) HAB.out) (heap_other HBZ.out hBg) (Hcf1.out.kept (HkVZ.out.setCell hVg _)) (LIs.low hli (by rw [List.length_set]; exact Hn1.out) (by rw [plainL_set (l := l) Hpll.out Hyl.out, Hpl.out]) Hk1.out.1 (by rw [List.length_set]; exact hl3) hm3) Hn1.out (by rw [List.length_set]; exact Hn1.out) (by have := Hs1.out; omega) (by have h := size_set (D := D1) (j := j) (a' := { p.a with d := { p.a.d with proto := q2 } }) HIl.out; have h2 := Hs1.out; have h3 : altSize { p.a with d := { p.a.d with proto := q2 } } = altSize p.a := rfl; omega) Hm1.out (small_set Hm1.out (set_all (Hm1.out l HlI.out) (Hm1.out l HlI.out p.a Hpal.out))) HTw.out (hv_of Hu1.out (told_u8' (ok_set Hk1.out (set_all (Hk1.out.2 l HlI.out) ⟨hok2, Hpok.out.2⟩))) (told_proto HIl.out Hpa.out)) _ ?_
    assumption
  · clear hBZ
    have hprZ := (HLZ.out.rows y (List.mem_of_getElem? HyL.out)).2 p (List.mem_of_getElem? Hp.out)
    have hyrZ := (HLZ.out.rows y (List.mem_of_getElem? HyL.out)).1
    have hgX : p.X.ownBlock ≠ some g := fun e => by
      rcases rows_apart hprZ.1 hyrZ (by decide) with h1 | h1
      · rw [h1] at e; cases e
      · exact h1 (e.trans HgA.out.symm)
    obtain ⟨XX, cX, hXX, hx1, hx2⟩ := hprZ.1.isSlice
    have c7 : Z.cell? ⟨g, j * 9 + 7, none⟩ = some p.X := HcZ.out 7 _ rfl
    obtain ⟨nX, hnX⟩ : ∃ nX, p.a.extra.length = nX := ⟨_, rfl⟩
    have hown := hprZ.1
    have hnX2 : nX ≤ 3129 := by rw [← hnX]; have h := hpsz; unfold altSize at h; omega
    rw [hXX, hnX] at hown c7
    rw [hnX] at hXX
    have f7 := frozen_heap HAZ.out (o := j * 9 + 7)
    have lg := heap_lt HAZ.out
    have Hown := hide hown
    have HXX := hide hXX
    have HnX := hide hnX
    have HgX := hide hgX
    have hXsz : X.heap.size ≤ Z.heap.size := by have h1 := Hzs.out; omega
    clear hprZ hyrZ hgX hXX hnX hown
    go_upto_region 20 with (at_builtin; refine wpList_append_sl (T := u8T) rfl (.tmp 82) (.tmp 83) 34 rfl X.heap.size 5 i8 _ 1 Tryd.underlying34 hi8 h80 h81 h82 rfl (by exact Nat.one_pos) _ nX p.a.extra (by rfl) (Hown.out.alloc _) (some ⟨Z.heap.size, 0, none⟩) 2 2 [2, 40] (by rfl) (by exact sl_lit8 (l := [2, 40]) (heap_at _ rfl) ⟨by simp, fun e => by have := (Hown.out.lt e).2; omega⟩ (by intro z hz; unfold u8k; simp at hz; omega)) (by_one8 _ _) (by unfold maxLen; omega) (by omega) (by simp; omega) ?_; intro v9 w9 hown9 hg9 hb9 hat9; obtain ⟨A9, c9, rfl, h91, h92⟩ := hown9.isSlice; have hg9' := hg9; rw [← HXX.out] at hg9'; have hA9 := heap_grown hg9' (heap_past HAZ.out) (fun e => HgX.out e.symm); have c79 : w9.cell? ⟨g, j * 9 + 7, none⟩ = some (.slice XX nX cX) := (cell_of_row _ _ _ _ _ _ hA9).trans ((cell_of_row _ _ _ _ _ _ HAZ.out).symm.trans c7); have f79 := frozen_heap hA9 (o := j * 9 + 7); have lg9 := heap_lt hA9)
    have hB9 := heap_grown hg9' (heap_past HBZ.out) (fun e => by have h1 := Hown.out; rw [HXX.out] at e; have := (h1.lt e.symm).1; omega)
    have hmv : Moved (Z.alloc (.cells #[.int .u8 2, .int .u8 40] 5)) p.X (.slice A9 (nX + 2) c9) := by
      rcases hat9 with h | h
      · exact .inl (by rw [HXX.out]; exact h)
      · exact .inr ⟨_, h, Nat.le_refl _⟩
    have hli := (HLZ.out.kept ((Below.refl _ Z).alloc (Nat.le_refl _) (.cells #[.int .u8 2, .int .u8 40] 5))).extra HyL.out Hp.out HgA.out Hpok.out.1 (X' := .slice A9 (nX + 2) c9) (ex' := p.a.extra ++ [2, 40]) hg9' (by rw [List.length_append, HnX.out]; exact hown9) hmv
    have hkF : Kept V (w9.setCell ⟨g, j * 9 + 7, none⟩ (.slice A9 (nX + 2) c9)) := ((HkVZ.out.alloc HkVZ.out.size _).trans (hb9.mono hkVX.size)).setCell hVg _
    have hex : ∀ z ∈ p.a.extra ++ [2, 40], u8k z := fun z hz => (List.mem_append.1 hz).elim (Hpok.out.2.1 z) (fun h => by unfold u8k; simp at h; omega)
    refine same_tail (D2 := D1) (I2 := I1.set i (l.set j { p.a with extra := p.a.extra ++ [2, 40] })) (w := w) (hkB.trans' hkF) (heap_kept hkF HAB.out) (heap_other hB9 hBg) (Hcf1.out.kept hkF) (LIs.low hli (by rw [List.length_set]; exact Hn1.out) (by rw [plainL_set (l := l) Hpll.out Hyl.out, Hpl.out]) Hk1.out.1 (by rw [List.length_set]; exact hl3) hm3) Hn1.out (by rw [List.length_set]; exact Hn1.out) (by have := Hs1.out; omega) (by have h := size_set (D := D1) (j := j) (a' := { p.a with extra := p.a.extra ++ [2, 40] }) HIl.out; have h2 := Hs1.out; have h3 : altSize { p.a with extra := p.a.extra ++ [2, 40] } = altSize p.a + 2 := (by unfold altSize; simp; omega); omega) Hm1.out (small_set Hm1.out (set_all (Hm1.out l HlI.out) (Hm1.out l HlI.out p.a Hpal.out))) HTw.out (hv_of Hu1.out (told_u8' (ok_set Hk1.out (set_all (Hk1.out.2 l HlI.out) ⟨Hpok.out.1, hex, Hpok.out.2.2⟩))) (fun h => absurd h (told_more HIl.out Hpa.out (by simp)))) _ ?_
    assumption
  · clear hBZ
    have hprZ := (HLZ.out.rows y (List.mem_of_getElem? HyL.out)).2 p (List.mem_of_getElem? Hp.out)
    have hyrZ := (HLZ.out.rows y (List.mem_of_getElem? HyL.out)).1
    have hgX : p.E.ownBlock ≠ some g := fun e => by
      rcases rows_apart hprZ.2 hyrZ (by decide) with h1 | h1
      · rw [h1] at e; cases e
      · exact h1 (e.trans HgA.out.symm)
    obtain ⟨XX, cX, hXX, hx1, hx2⟩ := hprZ.2.isSlice
    have c7 : Z.cell? ⟨g, j * 9 + 8, none⟩ = some p.E := HcZ.out 8 _ rfl
    obtain ⟨nX, hnX⟩ : ∃ nX, p.a.eps.length = nX := ⟨_, rfl⟩
    have hown := hprZ.2
    have hnX2 : nX ≤ 3129 := by rw [← hnX]; have h := hpsz; unfold altSize at h; omega
    rw [hXX, hnX] at hown c7
    rw [hnX] at hXX
    have f7 := frozen_heap HAZ.out (o := j * 9 + 8)
    have lg := heap_lt HAZ.out
    have Hown := hide hown
    have HXX := hide hXX
    have HnX := hide hnX
    have HgX := hide hgX
    have hXsz : X.heap.size ≤ Z.heap.size := by have h1 := Hzs.out; omega
    clear hprZ hyrZ hgX hXX hnX hown
    go_upto_region 20 with (at_builtin; refine wpList_append_el (T := epT) rfl (.tmp 93) (.tmp 95) 54 rfl X.heap.size 59 iE _ 8 Tryd.underlying54 hiE hE0 hE1 hE2 rfl (by exact (by decide : 0 < 5)) _ nX p.a.eps (by rfl) (Hown.out.alloc _) Z.heap.size _ _ EPN (by rfl) (heap_at _ rfl) (by exact ⟨rfl, epn_ok⟩) (by simp [Value.oneCell']) (by unfold maxLen; omega) (by omega) (by simp; omega) ?_; intro g9 cap9 w9 hown9 hg9 hb9 hat9 hlt9; have hg9' := hg9; rw [← HXX.out] at hg9'; have hA9 := heap_grown hg9' (heap_past HAZ.out) (fun e => HgX.out e.symm); have c79 : w9.cell? ⟨g, j * 9 + 8, none⟩ = some (.slice XX nX cX) := (cell_of_row _ _ _ _ _ _ hA9).trans ((cell_of_row _ _ _ _ _ _ HAZ.out).symm.trans c7); have f79 := frozen_heap hA9 (o := j * 9 + 8); have lg9 := heap_lt hA9)
    have hB9 := heap_grown hg9' (heap_past HBZ.out) (fun e => by have h1 := Hown.out; rw [HXX.out] at e; have := (h1.lt e.symm).1; omega)
    have hmv : Moved (Z.alloc (.cells #[.int .u8 15, .bool false, .int .u8 2, .int .u16 8, .int .u8 0] 59)) p.E (.slice (some ⟨g9, 0, none⟩) (nX + 1) cap9) := by
      rcases hat9 with h | h
      · exact .inl (by rw [HXX.out]; exact h.symm)
      · exact .inr ⟨g9, rfl, by omega⟩
    have hli := (HLZ.out.kept ((Below.refl _ Z).alloc (Nat.le_refl _) (.cells #[.int .u8 15, .bool false, .int .u8 2, .int .u16 8, .int .u8 0] 59))).eps HyL.out Hp.out HgA.out Hpok.out.1 (E' := .slice (some ⟨g9, 0, none⟩) (nX + 1) cap9) (es' := p.a.eps ++ [EPN]) hg9' (by rw [List.length_append, HnX.out]; exact hown9) hmv
    have hkF : Kept V (w9.setCell ⟨g, j * 9 + 8, none⟩ (.slice (some ⟨g9, 0, none⟩) (nX + 1) cap9)) := ((HkVZ.out.alloc HkVZ.out.size _).trans (hb9.mono hkVX.size)).setCell hVg _
    have hex : ∀ z ∈ p.a.eps ++ [EPN], z.ok := eps_all Hpok.out.2.2 epn_ok
    refine same_tail (D2 := D1) (I2 := I1.set i (l.set j { p.a with eps := p.a.eps ++ [EPN] })) (w := w) (hkB.trans' hkF) (heap_kept hkF HAB.out) (heap_other hB9 hBg) (Hcf1.out.kept hkF) (LIs.low hli (by rw [List.length_set]; exact Hn1.out) (by rw [plainL_set (l := l) Hpll.out Hyl.out, Hpl.out]) Hk1.out.1 (by rw [List.length_set]; exact hl3) hm3) Hn1.out (by rw [List.length_set]; exact Hn1.out) (by have := Hs1.out; omega) (by have h := size_set (D := D1) (j := j) (a' := { p.a with eps := p.a.eps ++ [EPN] }) HIl.out; have h2 := Hs1.out; have h3 : altSize { p.a with eps := p.a.eps ++ [EPN] } = altSize p.a + 7 := (by unfold altSize; simp; omega); omega) Hm1.out (small_set Hm1.out (set_all (Hm1.out l HlI.out) (eps_all (Hm1.out l HlI.out p.a Hpal.out) (by decide)))) HTw.out (hv_of Hu1.out (told_u8' (ok_set Hk1.out (set_all (Hk1.out.2 l HlI.out) ⟨Hpok.out.1, Hpok.out.2.1, hex⟩))) (fun h => absurd h (told_more HIl.out Hpa.out (by simp only [List.length_append, List.length_cons, List.length_nil]; omega)))) _ ?_
    assumption
  · have b7 : Z.cell? ⟨BB, 7, none⟩ = some (.slice (some ⟨gI, 0, none⟩) n1 c3) := cell_heap hBZ (o := 7) rfl
    have lBB := heap_lt hBZ
    clear hBZ
    have hyZ := HLZ.out.rows y (List.mem_of_getElem? HyL.out)
    have hprZ := hyZ.2 p (List.mem_of_getElem? Hp.out)
    have hoy := hyZ.1
    have hoI := HLZ.out.own
    have hgIg : y.v.ownBlock ≠ some gI := fun e => by
      rcases rows_apart hoy hoI (by decide) with h1 | h1
      · rw [h1] at e; cases e
      · exact h1 (e.trans HgI.out.symm)
    have hcI : Z.cell? ⟨gI, i, none⟩ = some (.slice (some ⟨g, 0, none⟩) m cA) := by
      have hL : (Value.slice (some ⟨gI, 0, none⟩) n1 c3) = .slice (some ⟨gI, 0, none⟩) n1 c3 := rfl
      have ho := hoI
      rw [HL3.out] at ho
      have h := own_cells (j := i) (cs := [y.v]) ho HyL.out (fun F c hr => hr.1) 0 _ rfl
      rw [← HvA.out]
      simpa [lfT, Ty.flat] using h
    rw [HvA.out, Hmm.out] at hoy
    rw [HvA.out] at hgIg
    have fI := frozen_heap HIZ.out (o := i)
    have lgI := heap_lt HIZ.out
    have lg := heap_lt HAZ.out
    have e0 : Z.cell? ⟨g, j * 9, none⟩ = some (.int .u8 p.a.d.num) := HcZ.out 0 _ rfl
    have e1 : Z.cell? ⟨g, j * 9 + 1, none⟩ = some (.int .u8 p.a.d.alt) := HcZ.out 1 _ rfl
    have e2 : Z.cell? ⟨g, j * 9 + 2, none⟩ = some (.int .u8 p.a.d.eps) := HcZ.out 2 _ rfl
    have e3 : Z.cell? ⟨g, j * 9 + 3, none⟩ = some (.int .u8 p.a.d.cls) := HcZ.out 3 _ rfl
    have e4 : Z.cell? ⟨g, j * 9 + 4, none⟩ = some (.int .u8 p.a.d.sub) := HcZ.out 4 _ rfl
    have e5 : Z.cell? ⟨g, j * 9 + 5, none⟩ = some (.int .u8 p.a.d.proto) := HcZ.out 5 _ rfl
    have e6 : Z.cell? ⟨g, j * 9 + 6, none⟩ = some (.int .u8 p.a.d.text) := HcZ.out 6 _ rfl
    have e7 : Z.cell? ⟨g, j * 9 + 7, none⟩ = some (p.X) := HcZ.out 7 _ rfl
    have e8 : Z.cell? ⟨g, j * 9 + 8, none⟩ = some (p.E) := HcZ.out 8 _ rfl
    have Hoy := hide hoy
    have HgIg := hide hgIg
    have Hpr := hide hprZ
    have hXsz : X.heap.size ≤ Z.heap.size := Hzs.out
    have hm16 : m ≤ 16 := by have := Hym.out; omega
    clear hyZ hprZ hoy hoI hgIg
    go_upto_region 19 with (fail)
    go_region_law (refine step_append_el (T := laT) rfl (.tmp 109) (.tmp 113) 48 rfl X.heap.size 56 iA _ 56 Tryd.underlying48 hiA hA0 hA1 hA2 rfl (by exact (by decide : 0 < 9)) _ m y.alts (by rfl) (Hoy.out.drew.alloc _) Z.heap.size _ _ p (by rfl) (heap_at _ rfl) (by exact ⟨rfl, Hpok.out.1⟩) (by intro u hu; simp at hu; rcases hu with rfl | rfl | rfl | rfl | rfl | rfl | rfl | rfl | rfl; all_goals first | rfl | exact own_one Hpr.out.1 | exact own_one Hpr.out.2) (by unfold maxLen; omega) (by omega) (by simp; omega) ?_; intro g9 cap9 w9 hown9 hg9 hb9 hat9 hlt9; have hI9 := heap_grown hg9 (heap_past HIZ.out) (fun e => HgIg.out e.symm); have cI9 : w9.cell? ⟨gI, i, none⟩ = some (.slice (some ⟨g, 0, none⟩) m cA) := (cell_of_row _ _ _ _ _ _ hI9).trans ((cell_of_row _ _ _ _ _ _ HIZ.out).symm.trans hcI); have fI9 := frozen_heap hI9 (o := i); have lI9 := heap_lt hI9; have hB9 := heap_grown hg9 (heap_past HBZ.out) (fun e => by have := (Hoy.out.lt e.symm).1; omega); have b79 : w9.cell? ⟨BB, 7, none⟩ = some (.slice (some ⟨gI, 0, none⟩) n1 c3) := cell_heap hB9 (o := 7) rfl; have lB9 := heap_lt hB9)
    all_goals
      have hkW9 : Kept V w9 := (HkVZ.out.drew.alloc (by exact HkVZ.out.size) _).trans (hb9.mono hkVX.size)
      have hgIV : V.heap.size ≤ gI := Nat.le_trans hkVX.size hbI
      have hBI : BB ≠ gI := by omega
      have hkA : Kept Z (Z.drew.alloc (.cells #[.int .u8 p.a.d.num, .int .u8 p.a.d.alt, .int .u8 p.a.d.eps, .int .u8 p.a.d.cls, .int .u8 p.a.d.sub, .int .u8 p.a.d.proto, .int .u8 p.a.d.text, p.X, p.E] 56)) := (Below.refl _ _).drew.alloc (by exact Nat.le_refl _) _
      have hrd := (HLZ.out.kept hkA).behind (w1 := w9) HyL.out HgI.out (Hpr.out.kept hkA) (v' := .slice (some ⟨g9, 0, none⟩) (m + 1) cap9) (by rw [HvA.out]; exact hg9) (by rw [List.length_append, Hmm.out]; exact hown9)
      have Hrd := hide hrd
      have HkF := hide (show Kept V (w9.setCell ⟨gI, i, none⟩ (.slice (some ⟨g9, 0, none⟩) (m + 1) cap9)) from hkW9.setCell hgIV _)
      have HBF := hide (heap_other (a := ⟨gI, i, none⟩) (v := .slice (some ⟨g9, 0, none⟩) (m + 1) cap9) hB9 hBI)
      clear hrd hkW9 b79 lB9 hB9 hown9 hg9 hb9 hat9 cI9 fI9 hI9 lI9
      go_upto_region 20 with (fail)
      refine wp_at (fun F => Kept V F ∧ F.heap[BB]? = some (.cells #[.int .u16 D1.total, .int .u8 D1.ifs, .int .u8 D1.number, .int .u8 D1.text, .bool D1.self, .bool D1.wake, .int .u8 D1.power, .slice (some ⟨gI, 0, none⟩) n1 c3] 32 (0, 0)) ∧ LRd X.heap.size F (.slice (some ⟨gI, 0, none⟩) n1 c3) (L3.set i ⟨y.alts ++ [p], .slice (some ⟨g9, 0, none⟩) (m + 1) cap9⟩)) ⟨by first | exact HkF.out | exact HkF.out.drew, by exact HBF.out, by first | exact Hrd.out | exact Hrd.out.kept (Below.refl _ _).drew⟩ (fun F hF => ?_)
      obtain ⟨hkF, hBF, hrF⟩ := hF
      refine same_tail (D2 := D1) (I2 := I1.set i (l ++ [p.a])) (w := w) (hkB.trans' hkF) (heap_kept hkF HAB.out) hBF (Hcf1.out.kept hkF) (LRd.low hrF (by rw [List.length_set]; exact Hn1.out) (by rw [plainL_behind (l := l) Hyl.out, Hpl.out]) Hk1.out.1 (by rw [List.length_set]; exact hl3) hm3) Hn1.out (by rw [List.length_set]; exact Hn1.out) (by have := Hs1.out; omega) (by have h := size_behind (D := D1) (a := p.a) HIl.out; have h2 := Hs1.out; omega) Hm1.out (small_set Hm1.out (app_all (Hm1.out l HlI.out) (Hm1.out l HlI.out p.a Hpal.out))) HTw.out (hv_of Hu1.out (told_u8' (ok_set Hk1.out (app_all (Hk1.out.2 l HlI.out) Hpok.out))) (fun h => absurd h (told_behind HIl.out))) _ ?_
      assumption
  · clear hBZ
    go_upto_region 20 with (fail)
    refine same_tail (D2 := D1) (I2 := I1) (w := w) (hkB.trans' HkVZ.out) (heap_kept HkVZ.out HAB.out) HBZ.out (Hcf1.out.kept HkVZ.out) (LIs.low HLZ.out Hn1.out Hpl.out Hk1.out.1 hl3 hm3) Hn1.out Hn1.out (by have := Hs1.out; omega) (by have := Hs1.out; omega) Hm1.out Hm1.out HTw.out (hv_of Hu1.out Hu1.out (fun _ => rfl)) _ ?_
    assumption
end Go.Proofs.YtjgncofhobhjdaaDoor
