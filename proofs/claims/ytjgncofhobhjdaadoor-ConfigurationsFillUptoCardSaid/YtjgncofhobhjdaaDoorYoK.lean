/- Of: the configuration of plain data. Printed by gen_yo.py. -/
import Derived.Test.YtjgncofhobhjdaaDoorChecked
import Derived.Deep.RegionHeld3
import Derived.Deep.DrawnRows
import Derived.Deep.DeepCutAuto
import Derived.Deep.LoopGhost
import Derived.Outline
import Derived.Handy
import Derived.OwnWalk
import Derived.BigQuiet
import Derived.Deep.RegionLaw
import Derived.Deep.CutBlock
import Derived.Laws.MakeOwn
import Derived.Test.YtjgncofhobhjdaaDoorN12
import Derived.Test.YtjgncofhobhjdaaDoorN11
import Derived.Test.YtjgncofhobhjdaaDoorN13
set_option linter.unusedVariables false
set_option linter.unusedSimpArgs false
set_option linter.unusedSectionVars false
namespace Go.Proofs.YtjgncofhobhjdaaDoor
open Go.RowKit
attribute [local go_sem ↓] Go.wp_at_zero Go.wp_at_succ

theorem LIs.lower {b1 base : Nat} {w : World} {v : Value} {L : List LF} (h : LIs base w v L) (hb : b1 ≤ base) : LIs b1 w v L := ⟨h.own.lower hb, fun y hy => (h.rows y hy).lower hb, h.apI, h.apA⟩
set_option maxRecDepth 100000 in
set_option maxHeartbeats 16000000 in
theorem of_any (x : PC) (A : Option Addr) (cap : Nat) (w : World) (hC : PcIs w x A cap) (hbig : bigS x = false) (hx : x.ok) :
    Calls Tryd.prog 14 #[.agg (x.cells A cap).toArray] w fun e w' => (∃ A' c' L', e = .returned (.agg ((ofS x).cells A' c').toArray) ∧ plainL L' = (ofS x).ifs ∧ L'.length ≤ c' ∧ c' ≤ maxLen ∧ LIs w.heap.size w' (.slice A' (ofS x).ifs.length c') L') ∧ Kept w w' := by
  obtain ⟨iA, hiA, hA0, hA1, hA2⟩ := info_parts infoAlt
  obtain ⟨iI, hiI, hI0, hI1, hI2⟩ := info_parts infoIf
  obtain ⟨j5, hj5, hj50, hj51, hj52⟩ := info_parts info5
  obtain ⟨jE, hjE, hjE0, hjE1, hjE2⟩ := info_parts infoEp
  have hnc := hC.len
  have hcm := hC.cap
  have hsz := of_size hbig hx
  have hok := of_ok hbig hx
  have hsm := big_alt hbig
  obtain ⟨nu, te, po, se, wa, L⟩ := x
  obtain ⟨n0, hn0⟩ : ∃ n0, L.length = n0 := ⟨_, rfl⟩
  unfold PC.cells
  unfold maxLen at hcm
  simp only at hsm
  simp only [hn0] at hnc hsm ⊢
  obtain ⟨⟨u0, u1⟩, ⟨u2, u3⟩, ⟨u4, u5⟩⟩ := hC.d
  simp only at u0 u1 u2 u3 u4 u5
  obtain ⟨N2, hN2⟩ : ∃ N2, 1 + nu % 8 = N2 := ⟨_, rfl⟩
  obtain ⟨N3, hN3⟩ : ∃ N3, te % 8 = N3 := ⟨_, rfl⟩
  obtain ⟨N6, hN6⟩ : ∃ N6, po % 251 = N6 := ⟨_, rfl⟩
  have r1 : nu.tmod 8 = N2 - 1 := by rw [Int.tmod_eq_emod_of_nonneg u0]; omega
  have r1b : IntKind.u8.wrap (1 + (N2 - 1)) = N2 := by rw [IntKind.wrap_u8]; omega
  have r2 : te.tmod 8 = N3 := by rw [Int.tmod_eq_emod_of_nonneg u2]; omega
  have r3 : po.tmod 251 = N6 := by rw [Int.tmod_eq_emod_of_nonneg u4]; omega
  have Hs := hide (show (1 + nu % 8 = N2 ∧ te % 8 = N3 ∧ po % 251 = N6) from ⟨hN2, hN3, hN6⟩)
  have HC := hide hC
  have Hn0 := hide hn0
  have Hsz := hide hsz
  have Hok := hide hok
  have Hx := hide hx
  have Hsm := hide hsm.2
  have hn6 := hsm.1
  clear hC hn0 hsz hok hsm hN2 hN3 hN6 hx hbig
  go_enter Tryd.func14, Tryd.ntmps14
  go_upto_region 2 with (fail)
  refine wp_at (fun W => W.heap[w.heap.size]? = some (.cells #[.int .u8 nu, .int .u8 te, .int .u8 po, .bool se, .bool wa, .slice A n0 cap] 24 (0, 0)) ∧ W.heap[w.heap.size + 1]? = some (.cells #[.int .u16 0, .int .u8 0, .int .u8 0, .int .u8 0, .bool false, .bool false, .int .u8 0, .slice none 0 0] 32 (0, 0)) ∧ W.heap[w.heap.size + 1 + 1]? = some (.cells #[.int .u16 0, .int .u8 0, .int .u8 N2, .int .u8 N3, .bool se, .bool wa, .int .u8 N6, .slice none 0 0] 32 (0, 0)) ∧ Kept w W) ?_ (fun W hW => ?_)
  · exact ⟨heap_past (heap_past (heap_at _ rfl)), heap_past (heap_at _ (by simp)), heap_at _ (by simp), by go_grown⟩
  obtain ⟨hI, hT, hO, hkW⟩ := hW
  obtain ⟨I0, hId⟩ : ∃ I0, w.heap.size = I0 := ⟨_, rfl⟩
  obtain ⟨OB, hOd⟩ : ∃ OB, w.heap.size + 1 + 1 = OB := ⟨_, rfl⟩
  obtain ⟨TB, hTd⟩ : ∃ TB, w.heap.size + 1 = TB := ⟨_, rfl⟩
  have hlow : w.heap.size ≤ OB ∧ w.heap.size ≤ TB ∧ TB < OB := by omega
  have hIO : I0 < OB := by omega
  have hwI : w.heap.size ≤ I0 := by omega
  simp only [hOd]
  simp only [hTd]
  simp only [hId]
  rw [hOd] at hO
  rw [hTd] at hT
  rw [hId] at hI
  have lI := heap_lt hI
  have i5 := cell_heap hI (o := 5) rfl
  have HI := hide hI
  have HFO : Hid (GO w OB TB #[.int .u16 0, .int .u8 0, .int .u8 N2, .int .u8 N3, .bool se, .bool wa, .int .u8 N6, .slice none 0 0] #[.int .u16 0, .int .u8 0, .int .u8 0, .int .u8 0, .bool false, .bool false, .int .u8 0, .slice none 0 0] (.slice none 0 0) 0 [] W) := hide ⟨hO, hT, Own.nil _ _ _ _, fun _ h => absurd h List.not_mem_nil, .nil, .nil, hkW, hlow⟩
  clear hOd hTd hId hI hT hO hkW r1 r1b r2 r3
  obtain ⟨n, hn⟩ : ∃ n, (ifsOr L).length = n := ⟨_, rfl⟩
  have hnn : n = if n0 = 0 then 1 else n0 := by
    rw [← hn, ← Hn0.out]
    unfold ifsOr
    cases L with
    | nil => rfl
    | cons a l => simp
  have hn6' : n ≤ 6 ∧ 1 ≤ n := by rw [hnn]; split <;> omega
  obtain ⟨hn6', hn1⟩ := hn6'
  have Hn := hide hn
  have Hnn := hide hnn
  clear hn hnn
  go_upto_if 34 with (fail)
  go_cut [4] (fun s4 wc => wc = W ∧ s4 = .int .i64 n)
  case first =>
    by_cases h0 : n0 = 0
    · subst h0
      have Hv := hide (show n = 1 by rw [Hnn.out, if_pos rfl])
      go_wp2_with fail
      go_meet
      exact ⟨rfl, by rw [Hv.out]; rfl⟩
    · have Hv := hide (show n = n0 by rw [Hnn.out, if_neg h0])
      have hq : ((n0 : Int) == 0) = false := by simpa using h0
      clear h0
      go_wp2_with fail
      go_meet
      exact ⟨rfl, by rw [Hv.out]⟩
  case rest =>
  obtain ⟨hwc, rfl⟩ := hcut
  subst hwc
  rename World => W
  obtain ⟨FL, hFL⟩ : ∃ FL, ofIfs L = FL := ⟨_, rfl⟩
  have hFn : FL.length = n := by rw [← hFL, ← Hn.out]; unfold ofIfs; rw [List.length_mapIdx]
  have hFi : ∀ i, i < n → FL[i]? = some ((altsOr ((L[i]?).getD [])).mapIdx fun j a => ofAlt i j a) := by
    intro i hi
    rw [← hFL]
    unfold ofIfs
    rw [List.getElem?_mapIdx]
    have hLi : (ifsOr L)[i]? = some ((L[i]?).getD []) := by
      rw [← Hn.out] at hi
      unfold ifsOr at hi ⊢
      split at hi
      · rename_i hL
        subst hL
        have : i = 0 := by simpa using hi
        subst this
        rfl
      · rename_i hL
        rw [if_neg hL, List.getElem?_eq_getElem hi]
        rfl
    rw [hLi]
    rfl
  have hFz : 9 + sumC FL ≤ 3129 := by
    have h := Hsz.out
    rw [sizeS_eq] at h
    rw [← hFL]
    exact h
  have HFL := hide hFL
  have HFn := hide hFn
  have HFi := hide hFi
  clear hFL hFn hFi
  go_wp2_with fail
  go_loopg [5, 6] n (fun g s5 s6 wr => ∃ (i : Nat) (v : Value) (xs : List LF), i + g = n ∧ s5 = .int .i64 ((9 + sumC (FL.take i) : Nat) : Int) ∧ s6 = .int .i64 i ∧ wr.heap[I0]? = some (.cells #[.int .u8 nu, .int .u8 te, .int .u8 po, .bool se, .bool wa, .slice A n0 cap] 24 (0, 0)) ∧ GO w OB TB #[.int .u16 0, .int .u8 0, .int .u8 N2, .int .u8 N3, .bool se, .bool wa, .int .u8 N6, v] #[.int .u16 0, .int .u8 0, .int .u8 0, .int .u8 0, .bool false, .bool false, .int .u8 0, .slice none 0 0] v i xs wr ∧ plainL xs = FL.take i)
  case atStart => exact ⟨0, .slice none 0 0, [], by omega, by simp [sumC], rfl, HI.out, HFO.out, rfl⟩
  case round =>
    clear HFO HI lI i5
    obtain ⟨i, v, xs, hi, rfl, rfl, hI, hFO, hxs⟩ := hrel
    have Hxs := hide hxs
    clear hxs
    have Hi := hide hi
    have HFO := hide hFO
    have lI := heap_lt hI
    have i5 := cell_heap hI (o := 5) rfl
    have HI := hide hI
    have hk := hFO.kept
    have hOl := heap_lt hFO.out
    have hTl := heap_lt hFO.res
    clear hi hI hFO
    by_cases hlt : i < n
    case neg =>
      have hge : (n : Int) ≤ (i : Int) := by omega
      have hin : i = n := by have := Hi.out; omega
      subst hin
      have hall : FL.take i = FL := List.take_of_length_le (by rw [HFn.out]; exact Nat.le_refl _)
      have hfo := HFO.out
      have hpl := Hxs.out
      have hT : ((9 + sumC (FL.take i) : Nat) : Int) = ((9 + sumC FL : Nat) : Int) := by rw [hall]
      rw [hall] at hpl
      rw [hT]
      obtain ⟨S, hS⟩ : ∃ S, 9 + sumC FL = S := ⟨_, rfl⟩
      rw [hS] at hFz ⊢
      obtain ⟨Av, cv, rfl, hv1, hv2⟩ := hfo.own.isSlice
      have lo := heap_lt hfo.out
      have lt := heap_lt hfo.res
      have co0 := cell_heap hfo.out (o := 0) rfl
      have co1 := cell_heap hfo.out (o := 1) rfl
      have fo0 := frozen_heap hfo.out (o := 0)
      have fo1 := frozen_heap hfo.out (o := 1)
      have hw1 : IntKind.u8.wrap (i : Int) = (i : Int) := by rw [IntKind.wrap_u8]; omega
      have hw2 : IntKind.u16.wrap (S : Int) = (S : Int) := by rw [IntKind.wrap_u16]; omega
      have hwm1 : (i : Int) % 256 = (i : Int) := by omega
      have hwm2 : (S : Int) % 65536 = (S : Int) := by omega
      have HS := hide hS
      have Hpl := hide hpl
      have Hfo := hide hfo
      clear hall hfo hpl hT hS HFO hk hOl hTl lI i5
      go_upto_region 35 with (fail)
      refine wp_at (fun V => V.heap[OB]? = some (.cells #[.int .u16 (S : Int), .int .u8 (i : Int), .int .u8 N2, .int .u8 N3, .bool se, .bool wa, .int .u8 N6, .slice Av i cv] 32 (0, 0)) ∧ V.heap[TB]? = some (.cells #[.int .u16 0, .int .u8 0, .int .u8 0, .int .u8 0, .bool false, .bool false, .int .u8 0, .slice none 0 0] 32 (0, 0)) ∧ Kept w V ∧ From (OB + 1) wr V) ⟨heap_store (heap_store Hfo.out.out _) _, heap_other (heap_other Hfo.out.res (by show TB ≠ OB; omega)) (by show TB ≠ OB; omega), (Hfo.out.kept.setCell hlow.1 _).setCell hlow.1 _, From.set' _ _ (From.set' _ _ From.refl (.inl (Nat.lt_succ_self OB))) (.inl (Nat.lt_succ_self OB))⟩ (fun X hX => ?_)
      obtain ⟨hOX, hTX, hkX, hfX⟩ := hX
      clear lo lt co0 co1 fo0 fo1
      have lo := heap_lt hOX
      have lt := heap_lt hTX
      have ox0 := cell_heap hOX (o := 0) rfl
      have ox1 := cell_heap hOX (o := 1) rfl
      have ox2 := cell_heap hOX (o := 2) rfl
      have ox3 := cell_heap hOX (o := 3) rfl
      have ox4 := cell_heap hOX (o := 4) rfl
      have ox5 := cell_heap hOX (o := 5) rfl
      have ox6 := cell_heap hOX (o := 6) rfl
      have ox7 := cell_heap hOX (o := 7) rfl
      have HTX := hide hTX
      have HkX := hide hkX
      have HfX := hide hfX
      clear hOX hTX hkX hfX
      go_wp2_with (refine wpList_store_row rfl 32 (.tmp 2) (.tmp 190) rfl TB #[.int .u16 (S : Int), .int .u8 (i : Int), .int .u8 N2, .int .u8 N3, .bool se, .bool wa, .int .u8 N6, .slice Av i cv] (by rfl) (by rfl) 32 _ HTX.out (by kernel_rfl) (by rfl) (by simp [Value.oneCell']) ?_)
      have hres : (ofS ⟨nu, te, po, se, wa, L⟩).cells Av cv = [.int .u16 (S : Int), .int .u8 (i : Int), .int .u8 N2, .int .u8 N3, .bool se, .bool wa, .int .u8 N6, .slice Av i cv] := by
        obtain ⟨e1, e2, e3⟩ := Hs.out
        unfold ofS ofD Cfg.cells CfgD.cells
        simp only [HFL.out, e1, e2, e3, HFn.out]
        rw [show (ifsOr L).length = i from Hn.out]
        have : 9 + (FL.map fun l => (l.map altSize).sum).sum = S := HS.out
        rw [this]
        rfl
      have hln : xs.length = i := by have h := congrArg List.length Hpl.out; unfold plainL at h; rw [List.length_map, HFn.out] at h; exact h
      refine bodyPost_ret (results_cell_row rfl _ _ TB 32 #[.int .u16 (S : Int), .int .u8 (i : Int), .int .u8 N2, .int .u8 N3, .bool se, .bool wa, .int .u8 N6, .slice Av i cv] (0, 0) _ rfl (heap_row HTX.out) Tryd.underlying32 rfl (by kernel_rfl)) rfl ⟨⟨Av, cv, xs, by rw [hres], ?_, by rw [hln]; exact hv1, hv2, ?_⟩, below_row HkX.out hlow.2.1 _⟩
      · rw [Hpl.out]
        exact HFL.out.symm
      · rw [show (ofS ⟨nu, te, po, se, wa, L⟩).ifs.length = i by show (ofIfs L).length = i; rw [HFL.out, HFn.out]]
        have hft : From (OB + 1) X (X.setRow TB #[.int .u16 (S : Int), .int .u8 (i : Int), .int .u8 N2, .int .u8 N3, .bool se, .bool wa, .int .u8 N6, .slice Av i cv]) := ⟨by rw [size_setRow]; exact Nat.le_refl _, fun b h1 _ => by simp [World.setRow, Array.getElem?_modify, show TB ≠ b by omega]⟩
        have hli : LIs (OB + 1) wr (.slice Av i cv) xs := ⟨by rw [hln]; exact Hfo.out.own, Hfo.out.rows, Hfo.out.apI, Hfo.out.apA⟩
        exact ((hli.from_ HfX.out).from_ hft).lower (by omega)
    case pos =>
    have hstep := HFi.out i hlt
    have h2 := sumC_take (l := FL) (i := i) hstep
    have h3 := sumC_le FL (i + 1)
    obtain ⟨l0, hl0⟩ : ∃ l0, (L[i]?).getD [] = l0 := ⟨_, rfl⟩
    rw [hl0] at hstep h2
    have hl0s : l0.length ≤ 4 ∧ ∀ a ∈ l0, a.ok ∧ a.eps.length ≤ 4 ∧ a.extra.length ≤ 3 := by
      rw [← hl0]
      cases hLi : L[i]? with
      | none => exact ⟨Nat.zero_le _, fun a h => by cases h⟩
      | some y =>
        have hm := List.mem_of_getElem? hLi
        exact ⟨(Hsm.out y hm).1, fun a ha => ⟨Hx.out.2.2.2 y hm a ha, (Hsm.out y hm).2 a ha⟩⟩
    obtain ⟨n1, hn1d⟩ : ∃ n1, l0.length = n1 := ⟨_, rfl⟩
    have hi0 : (0 : Int) ≤ (i : Int) := by omega
    have hlt' : (i : Int) < (n : Int) := by omega
    have hwi : IntKind.i64.wrap ((i : Int) + 1) = ((i + 1 : Nat) : Int) := by rw [IntKind.wrap_i64]; omega
    have Hl0 := hide hl0
    have Hl0s := hide hl0s.2
    have hn14 : n1 ≤ 4 := by rw [← hn1d]; exact hl0s.1
    have Hn1 := hide hn1d
    have Hstep := hide hstep
    have H2 := hide h2
    clear hl0 hl0s hn1d hstep h2
    go_upto_if 44 with (fail)
    go_cut [7] (fun s7 wc => ∃ (Al : Option Addr) (cl : Nat), wc = wr ∧ s7 = .slice Al n1 cl ∧ n1 ≤ cl ∧ cl ≤ maxLen ∧ Sl paT wr (low w.heap.size) Al n1 l0)
    case first =>
      by_cases hin : i < n0
      · obtain ⟨l, b, off, A', c', hx2, rfl, hbl, x0, hxc, hcm', hs⟩ := pif_at HC.out hk (i := i) (by show i < L.length; rw [Hn0.out]; exact hin)
        have hll : l = l0 := by rw [← Hl0.out, show L[i]? = some l from hx2]; rfl
        subst hll
        rw [Hn1.out] at x0 hxc hs
        have hs' := hs.below hk
        have hin' : (i : Int) < (n0 : Int) := by omega
        clear hx2
        go_wp2_with fail
        go_meet
        exact ⟨A', c', rfl, rfl, hxc, hcm', hs'⟩
      · have hin' : (n0 : Int) ≤ (i : Int) := by omega
        have hl00 : l0 = [] := by rw [← Hl0.out, List.getElem?_eq_none (by rw [Hn0.out]; omega)]; rfl
        have hn10 : n1 = 0 := by rw [← Hn1.out, hl00]; rfl
        subst hn10
        have Hl00 := hide hl00
        clear hl00
        go_wp2_with fail
        go_meet
        exact ⟨none, 0, rfl, rfl, Nat.le_refl _, by unfold maxLen; decide, by rw [Hl00.out]; exact Sl.nil _ _ _ _⟩
    case rest =>
    obtain ⟨Al, cl, hwc, rfl, hcl1, hcl2, hsl⟩ := hcut
    subst hwc
    rename World => wr
    obtain ⟨m, hm⟩ : ∃ m, (altsOr l0).length = m := ⟨_, rfl⟩
    have hmn : m = if n1 = 0 then 1 else n1 := by
      rw [← hm, ← Hn1.out]
      unfold altsOr
      cases l0 with
      | nil => rfl
      | cons a l => simp
    have hm4 : m ≤ 4 ∧ 1 ≤ m := by rw [hmn]; split <;> omega
    obtain ⟨hm4, hm1⟩ := hm4
    obtain ⟨l1, hl1⟩ : ∃ l1, altsOr l0 = l1 := ⟨_, rfl⟩
    have hl1s : ∀ a ∈ l1, a.ok ∧ a.eps.length ≤ 4 ∧ a.extra.length ≤ 3 := by
      rw [← hl1]
      unfold altsOr
      split
      · intro a ha
        obtain rfl : a = pa0 := by simpa using ha
        exact ⟨⟨⟨by decide, by decide⟩, ⟨by decide, by decide⟩, fun z hz => absurd hz (by simp [pa0]), fun z hz => absurd hz (by simp [pa0])⟩, by decide, by decide⟩
      · exact Hl0s.out
    have hl1z : l0 ≠ [] → l1 = l0 := fun h => by rw [← hl1]; unfold altsOr; rw [if_neg h]
    have hl10 : l0 = [] → l1 = [pa0] := fun h => by rw [← hl1]; unfold altsOr; rw [if_pos h]
    rw [hl1] at hm Hstep H2
    have Hm := hide hm
    have Hmn := hide hmn
    have Hl1s := hide hl1s
    have Hl1z := hide hl1z
    have Hl10 := hide hl10
    have Hsl := hide hsl
    clear hm hmn hl1 hl1s hl1z hl10 hsl
    go_upto_if 52 with (fail)
    go_cut [7] (fun s7 wc => ∃ (Al : Option Addr) (cl : Nat), Kept wr wc ∧ s7 = .slice Al m cl ∧ m ≤ cl ∧ cl ≤ maxLen ∧ Sl paT wc (fun b => b < w.heap.size ∨ wr.heap.size ≤ b ∧ b < wc.heap.size) Al m l1)
    case first =>
      by_cases h0 : n1 = 0
      · subst h0
        have hl00 : l0 = [] := List.eq_nil_of_length_eq_zero Hn1.out
        have Hv := hide (show m = 1 by rw [Hmn.out, if_pos rfl])
        have Hl := hide (Hl10.out hl00)
        clear hl00
        go_wp2_with fail
        go_meet
        refine ⟨some ⟨wr.heap.size, 0, none⟩, 1, by go_grown, by rw [Hv.out], by rw [Hv.out]; exact Nat.le_refl _, by unfold maxLen; decide, ?_⟩
        rw [Hv.out, Hl.out]
        exact Sl.one (off := 0) (cs := [.int .u8 0, .int .u8 0, .slice none 0 0, .slice none 0 0]) (.inr ⟨Nat.le_refl _, by simp⟩) ⟨none, 0, none, 0, rfl, ⟨by decide, by decide⟩, ⟨by decide, by decide⟩, Nat.le_refl _, by unfold maxLen; decide, Nat.le_refl _, by unfold maxLen; decide, Sl.nil _ _ _ _, Sl.nil _ _ _ _⟩ (range_heap (heap_at _ rfl))
      · have hq : ((n1 : Int) == 0) = false := by simpa using h0
        have hne : l0 ≠ [] := fun e => h0 (by rw [← Hn1.out, e]; rfl)
        have Hv := hide (show m = n1 by rw [Hmn.out, if_neg h0])
        have Hl := hide (Hl1z.out hne)
        clear h0 hne
        go_wp2_with fail
        go_meet
        refine ⟨Al, cl, Below.refl _ _, by rw [Hv.out], by rw [Hv.out]; exact hcl1, hcl2, ?_⟩
        rw [Hv.out, Hl.out]
        exact Hsl.out.keep (fun b hb => .inl hb) (fun _ _ _ => rfl)
    case rest =>
    obtain ⟨Am, cm, hk2, rfl, hcm1, hcm2, hslm⟩ := hcut
    rename World => W1
    have hI1 := heap_kept hk2 HI.out
    have hFO1 := HFO.out.keep hk2
    have hkW1 := hFO1.kept
    have hslm' : Sl paT W1 (fun b => b < w.heap.size ∨ OB + 1 ≤ b ∧ b < W1.heap.size) Am m l1 := hslm.keep (fun b hb => hb.imp id (fun h => ⟨by omega, h.2⟩)) (fun _ _ _ => rfl)
    have lI1 := heap_lt hI1
    have hO1 := heap_lt hFO1.out
    have hT1 := heap_lt hFO1.res
    have HI1 := hide hI1
    have HFO1 := hide hFO1
    have Hslm := hide hslm'
    unfold maxLen at hcm2
    clear hk2 hI1 hFO1 hslm hslm' Hsl HFO HI lI i5 hOl hTl hk
    go_upto_region 15 with (fail)
    refine wp_at (fun V => V.heap[W1.heap.size]? = some (.cells #[.slice none 0 0] 50 (0, 0)) ∧ Kept W1 V) ⟨heap_at _ rfl, by go_grown⟩ (fun V hV => ?_)
    obtain ⟨hY, hkV⟩ := hV
    obtain ⟨YB, hYd⟩ : ∃ YB, W1.heap.size = YB := ⟨_, rfl⟩
    have hwY : W1.heap.size ≤ YB := by omega
    have hYle := hide (show W1.heap.size = YB from hYd)
    rw [hYd] at hY
    simp only [hYd]
    have hFI : GI w W1 OB TB YB #[.int .u16 0, .int .u8 0, .int .u8 N2, .int .u8 N3, .bool se, .bool wa, .int .u8 N6, v] #[.int .u16 0, .int .u8 0, .int .u8 0, .int .u8 0, .bool false, .bool false, .int .u8 0, .slice none 0 0] (.slice none 0 0) 0 [] V := ⟨heap_kept hkV HFO1.out.out, heap_kept hkV HFO1.out.res, hY, Own.nil _ _ _ _, fun _ h => absurd h List.not_mem_nil, .nil, hkW1.trans' hkV, From.kept hkV, ⟨hO1, hT1, hwY, hlow.1, hlow.2.1, by omega⟩⟩
    have HFI := hide hFI
    have HIV := hide (heap_kept hkV HI1.out)
    have hIY : I0 < YB := by omega
    clear hYd hY hFI hkV
    obtain ⟨YL, hYL⟩ : ∃ YL, (l1.mapIdx fun j a => ofAlt i j a) = YL := ⟨_, rfl⟩
    rw [hYL] at Hstep H2
    have hYi : ∀ (j : Nat) a, l1[j]? = some a → YL[j]? = some (ofAlt i j a) := fun j a h => by rw [← hYL, List.getElem?_mapIdx, h]; rfl
    have hYm : YL.length = m := by rw [← hYL, List.length_mapIdx, Hm.out]
    have HYi := hide hYi
    have HYm := hide hYm
    obtain ⟨T0, hT0⟩ : ∃ T0, 9 + sumC (FL.take i) = T0 := ⟨_, rfl⟩
    have HT0 := hide hT0
    have hT0z : T0 + sumIf YL ≤ 3129 := by have := H2.out; omega
    rw [hT0]
    clear hYL hYi hYm hT0 h3
    go_wp2_with fail
    obtain ⟨go, rfl⟩ : ∃ go, go = gk := ⟨_, rfl⟩
    go_loopg [5, 9] m (fun g s5 s9 wx => ∃ (j : Nat) (u : Value) (ys : List LA), j + g = m ∧ s5 = .int .i64 ((T0 + sumIf (YL.take j) : Nat) : Int) ∧ s9 = .int .i64 j ∧ wx.heap[I0]? = some (.cells #[.int .u8 nu, .int .u8 te, .int .u8 po, .bool se, .bool wa, .slice A n0 cap] 24 (0, 0)) ∧ GI w W1 OB TB YB #[.int .u16 0, .int .u8 0, .int .u8 N2, .int .u8 N3, .bool se, .bool wa, .int .u8 N6, v] #[.int .u16 0, .int .u8 0, .int .u8 0, .int .u8 0, .bool false, .bool false, .int .u8 0, .slice none 0 0] u j ys wx ∧ ys.map LA.a = YL.take j)
    case atStart => exact ⟨0, .slice none 0 0, [], by omega, by simp [sumIf], rfl, HIV.out, HFI.out, rfl⟩
    case round =>
      clear HFI HIV
      obtain ⟨j, u, ys, hj, rfl, rfl, hI2, hFI, hys⟩ := hrel
      have Hys := hide hys
      clear hys
      have Hj := hide hj
      have HFI := hide hFI
      have HI2 := hide hI2
      have hkx := hFI.kept
      have hYl := hFI.size
      clear hj hI2 hFI
      by_cases hlj : j < m
      case neg =>
        have hge : (m : Int) ≤ (j : Int) := by omega
        have hjm : j = m := by have := Hj.out; omega
        subst hjm
        have hall : YL.take j = YL := List.take_of_length_le (by rw [HYm.out]; exact Nat.le_refl _)
        have hgi := HFI.out
        have hga := Hys.out
        rw [hall] at hga ⊢
        have hgo := HFO1.out.next hgi
        obtain ⟨Au, cu, rfl, hu1, hu2⟩ := hgi.own.isSlice
        obtain ⟨Av, cv, rfl, hv1, hv2⟩ := hgo.own.isSlice
        have hyl : ys.length = j := by have h := congrArg List.length hga; rw [List.length_map, HYm.out] at h; exact h
        have hyr : (⟨ys, .slice Au j cu⟩ : LF).rows (YB + 1) wr := ⟨by show Own laT _ _ _ _ ys.length ys; rw [hyl]; exact hgi.own, hgi.rows⟩
        have hOB : OB + 1 ≤ YB + 1 := by have := hgi.low.1; have := hgi.low.2.2.1; omega
        have hz : W1.heap.size ≤ YB + 1 := by have := hgi.low.2.2.1; omega
        have hap1 : ∀ z ∈ xs, z.apart ⟨ys, .slice Au j cu⟩ := fun z hz' => LF.apart_of (HFO1.out.rows z hz') hyr hz
        have hap2 : ∀ z ∈ xs, ∀ p ∈ z.alts, ∀ q ∈ ys, p.apart q := fun z hz' p hp q hq => LA.apart_of ((HFO1.out.rows z hz').2 p hp) (hgi.rows q hq) hz
        have hin : i + 1 ≤ 1000000 := by omega
        have lo := heap_lt hgo.out
        have ly := heap_lt hgi.y
        have co7 := cell_heap hgo.out (o := 7) rfl
        have cy0 := cell_heap hgi.y (o := 0) rfl
        have fo7 := frozen_heap hgo.out (o := 7)
        have hown := hgo.own
        have HIw := hide HI2.out
        have Hgo := hide hgo
        have Hyr := hide (hyr.lower hOB)
        have Hyp := hide hgi.ap
        have Hap1 := hide hap1
        have Hap2 := hide hap2
        have Hga := hide hga
        obtain ⟨y, hy⟩ : ∃ y : LF, y = ⟨ys, .slice Au j cu⟩ := ⟨_, rfl⟩
        have hrel : ∀ W' F, lfT.rel W' F y [.slice Au j cu] := fun W' F => by rw [hy]; exact ⟨rfl, trivial⟩
        have Hrel := hide hrel
        have Hy := hide hy
        have hOBs : OB + 1 ≤ wr.heap.size := lo
        clear hall hgi hgo hyr hap1 hap2 hga hrel hy hz hOB hyl
        go_upto_region 32 with (fail)
        go_wp2_with (at_builtin; refine wpList_append_el (T := lfT) rfl (.tmp 177) (.tmp 179) 30 rfl (OB + 1) 50 iI _ 24 Tryd.underlying30 hiI hI0 hI1 hI2 rfl (by exact Nat.one_pos) _ i xs (by rfl) (hown.alloc _) wr.heap.size _ _ y (by rfl) (heap_at _ rfl) (Hrel.out _ _) (by simp [Value.oneCell']) (by unfold maxLen; omega) (by omega) (by simp; omega) ?_; intro g9 cap9 w9 hown9 hg9 hb9 hat9 hlt9; have ho9 := heap_grown hg9 (heap_past Hgo.out.out) (fun e => Hgo.out.own.not_at (Nat.lt_succ_self OB) e.symm); have co9 := cell_heap ho9 (o := 7) rfl; have fo9 := frozen_heap ho9 (o := 7); have lo9 := heap_lt ho9)
        have hal : ∀ o, Kept wr (wr.alloc o) := fun o => (Below.refl _ _).alloc (Nat.le_refl _) o
        have hfin := (Hgo.out.keep (hal _)).grow hg9 hown9 (by rw [Hy.out]; exact Hyr.out.kept (hal _)) (by rw [Hy.out]; exact Hyp.out) (by rw [Hy.out]; exact Hap1.out) (by rw [Hy.out]; exact Hap2.out)
        have hI9 := fun u => heap_other (a := ⟨OB, 7, none⟩) (v := u) (heap_below hb9 (heap_past HIw.out) (by omega)) (by show I0 ≠ OB; omega)
        have hpl : plainL (xs ++ [y]) = FL.take (i + 1) := by
          have h := (List.getElem?_eq_some_iff.1 Hstep.out)
          rw [List.take_succ_eq_append_getElem h.1, h.2, ← Hxs.out, Hy.out]
          unfold plainL
          rw [List.map_append]
          simp only [List.map_cons, List.map_nil]
          rw [Hga.out]
        have Hsum : Hid ((T0 : Int) + ((sumIf YL : Nat) : Int) = ((9 + sumC (FL.take (i + 1)) : Nat) : Int)) := hide (by have := H2.out; have := HT0.out; omega)
        have Hfin := hide hfin
        have HI9 := hide hI9
        have Hpl := hide hpl
        clear hfin hown9 hg9 hb9 hat9 hlt9 ho9 co9 fo9 lo9 hI9 hpl hown
        go_wp2_with fail
        go_roundg (go - 1)
        case measure => have := Hi.out; omega
        case rel => exact ⟨i + 1, _, xs ++ [y], by have := Hi.out; omega, by rw [← Hsum.out], by first | rfl | go_num, HI9.out _, Hfin.out, Hpl.out⟩
      case pos =>
      have hslx : Sl paT wr (low wr.heap.size) Am m l1 := Hslm.out.keep (fun b hb => hb.elim (fun h => Nat.lt_of_lt_of_le h hkx.size) (fun h => Nat.lt_of_lt_of_le h.2 HFI.out.fr.size)) (fun b o hb => hb.elim (fun h => (hkx.cell (p := ⟨b, o, none⟩) h).trans (hkW1.cell (p := ⟨b, o, none⟩) h).symm) (fun h => HFI.out.fr.cell h.1 h.2))
      obtain ⟨a, b2, off2, X, cx, E, ce, ha, rfl, hbl2, hcells, hc8, ht8, q1, q2, q3, q4, q5, q6⟩ := palt_at hslx (Below.refl _ _) hlj
      have hYj := HYi.out j a ha
      have h4 := sumIf_take hYj
      have h5 := sumIf_le YL (j + 1)
      obtain ⟨ha1, ha2, ha3⟩ := Hl1s.out a (List.mem_of_getElem? ha)
      have y0 := hcells 0 _ rfl
      have hj0 : (0 : Int) ≤ (j : Int) := by omega
      have hlj' : (j : Int) < (m : Int) := by omega
      have hwj : IntKind.i64.wrap ((j : Int) + 1) = ((j + 1 : Nat) : Int) := by rw [IntKind.wrap_i64]; omega
      have hi6 : i ≤ 6 := by omega
      have hj4 : j ≤ 4 := by omega
      have htt : T0 + sumIf (YL.take j) ≤ 100000 := by omega
      have Hcells := hide hcells
      have H4 := hide h4
      have HYj := hide hYj
      have Ha1 := hide ha1
      have Hq5 := hide q5
      have Hq6 := hide q6
      clear hslx hcells ha hYj h4 ha1 q5 q6 y0
      go_upto_region 18 with (fail)
      refine alt_piece HFI.out hbl2 Hcells.out q1 q2 Hq5.out Hq6.out Ha1.out ha2 ha3 hi6 hj4 htt hlj' _ _ ?_ ?_
      · assumption
      intro s10 s11 s12 s13 s61 s62 s63 s64 s65 s66 s67 s68 s69 s70 s71 s72 s73 s74 s75 s76 s77 s78 s79 s80 s81 s82 s83 s84 s85 s86 s87 s88 s89 s90 s91 s92 s93 s94 s95 s96 s97 s98 s99 s100 s101 s102 s103 s104 s105 s106 s107 s108 s109 s110 s111 s112 s113 s114 s115 s116 s117 s118 s119 s120 s121 s122 s123 s124 s125 s126 s127 s128 s129 s130 s131 s132 s133 s134 s135 s136 s137 s138 s139 s140 s141 s142 s143 s144 s145 s146 s147 s148 s149 s150 s151 s152 s153 s154 s155 s156 s157 s158 s159 s160 s161 s162 s163 s164 s165 s166 s167 s168 s169 s170 s171 s172 s173 s174 s175 p v' w' hp hgi9 hbel
      have hsum : T0 + sumIf (YL.take j) + altSize (ofAlt i j a) = T0 + sumIf (YL.take (j + 1)) := by have := H4.out; omega
      rw [hsum]
      have hpl : (ys ++ [p]).map LA.a = YL.take (j + 1) := by
        have h := (List.getElem?_eq_some_iff.1 HYj.out)
        rw [List.take_succ_eq_append_getElem h.1, h.2, ← Hys.out, List.map_append]
        simp only [List.map_cons, List.map_nil]
        rw [hp]
      have HI9 := hide (heap_below hbel HI2.out hIY)
      have Hgi9 := hide hgi9
      have Hpl := hide hpl
      clear hgi9 hbel hpl hp hsum
      go_wp2_with fail
      go_roundg (gk - 1)
      case measure => have := Hj.out; omega
      case rel => exact ⟨j + 1, _, ys ++ [p], by have := Hj.out; omega, by first | rfl | go_num, by first | rfl | go_num, HI9.out, Hgi9.out, Hpl.out⟩
end Go.Proofs.YtjgncofhobhjdaaDoor
