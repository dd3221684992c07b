/- Fill: a configuration with the numbers, counts and the total of its parts. Printed by gen_sx.py. -/
import Derived.Test.YtjgncofhobhjdaaDoorChecked
import Derived.Deep.RegionHeld3
import Derived.Deep.DrawnRows
import Derived.Deep.DeepCutAuto
import Derived.Deep.LoopGhost
import Derived.Outline
import Derived.Handy
import Derived.OwnWalk
import Derived.BigQuiet
import Derived.Deep.RegionLaw
import Derived.Test.YtjgncofhobhjdaaDoorN5
set_option linter.unusedVariables false
set_option linter.unusedSimpArgs false
set_option linter.unusedSectionVars false
namespace Go.Proofs.YtjgncofhobhjdaaDoor
open Go.RowKit
attribute [local go_sem ↓] Go.wp_at_zero Go.wp_at_succ

theorem infoAlt : (Tryd.prog.info? 56).map (fun i => (i.zero, i.size, i.bytes)) = some (some (.agg #[.int .u8 0, .int .u8 0, .int .u8 0, .int .u8 0, .int .u8 0, .int .u8 0, .int .u8 0, .slice none 0 0, .slice none 0 0]), 9, 56) := by kernel_rfl
theorem infoIf : (Tryd.prog.info? 50).map (fun i => (i.zero, i.size, i.bytes)) = some (some (.agg #[.slice none 0 0]), 1, 24) := by kernel_rfl
theorem fillAlt_size (i j : Nat) (a : Alt) : altSize (fillAlt i j a) = altSize a := rfl
theorem fill_sumIf (i : Nat) (x : List Alt) : sumIf (x.mapIdx fun j a => fillAlt i j a) = sumIf x := by
  unfold sumIf
  congr 1
  apply List.ext_getElem?
  intro k
  simp only [List.getElem?_map, List.getElem?_mapIdx, Option.map_map]
  cases x[k]? <;> rfl
theorem fill_size (D : CfgD) (c : Cfg) : sizeS ⟨D, fillIfs c.ifs⟩ = sizeS c := by
  rw [sizeS_eq, sizeS_eq]
  show 9 + sumC (fillIfs c.ifs) = 9 + sumC c.ifs
  congr 1
  unfold sumC
  congr 1
  apply List.ext_getElem?
  intro k
  unfold fillIfs
  simp only [List.getElem?_map, List.getElem?_mapIdx, Option.map_map]
  cases c.ifs[k]? with
  | none => rfl
  | some x => exact congrArg some (fill_sumIf k x)
theorem fill_len (c : Cfg) : (fillIfs c.ifs).length = c.ifs.length := by unfold fillIfs; rw [List.length_mapIdx]
/-- what holds between the steps of the inner loop -/
structure FI (w W0 : World) (OB TB YB : Nat) (oc tc : Array Value) (v : Value) (n : Nat) (xs : List Alt) (X : World) : Prop where
  out : X.heap[OB]? = some (.cells oc 32 (0, 0))
  res : X.heap[TB]? = some (.cells tc 32 (0, 0))
  y : X.heap[YB]? = some (.cells #[v] 50 (0, 0))
  own : Own (altT.on fun b => YB + 1 ≤ b) 56 (YB + 1) X v n xs
  kept : Kept w X
  fr : From (OB + 1) W0 X
  low : OB < W0.heap.size ∧ TB < W0.heap.size ∧ W0.heap.size ≤ YB ∧ w.heap.size ≤ OB ∧ w.heap.size ≤ TB ∧ TB ≠ OB
theorem FI.keep {w W0 X Y : World} {OB TB YB n : Nat} {oc tc : Array Value} {v : Value} {xs : List Alt} (h : FI w W0 OB TB YB oc tc v n xs X) (hk : Kept X Y) : FI w W0 OB TB YB oc tc v n xs Y :=
  ⟨heap_kept hk h.out, heap_kept hk h.res, heap_kept hk h.y, h.own.kept hk, h.kept.trans' hk, h.fr.kept' _ hk, h.low⟩
theorem FI.size {w W0 X : World} {OB TB YB n : Nat} {oc tc : Array Value} {v : Value} {xs : List Alt} (h : FI w W0 OB TB YB oc tc v n xs X) : YB < X.heap.size := heap_lt h.y
/-- the row has grown, and its header is stored -/
theorem FI.grow {w W0 X Y : World} {OB TB YB n n' : Nat} {oc tc : Array Value} {v v' : Value} {xs xs' : List Alt} (h : FI w W0 OB TB YB oc tc v n xs X) (hg : X.grownBy Y v.ownBlock) (ho : Own (altT.on fun b => YB + 1 ≤ b) 56 (YB + 1) Y v' n' xs') :
    FI w W0 OB TB YB oc tc v' n' xs' (Y.setCell ⟨YB, 0, none⟩ v') := by
  obtain ⟨l1, l2, l3, l4, l5, l6⟩ := h.low
  have hy := heap_grown hg h.y (fun e => h.own.not_at (Nat.lt_succ_self YB) e.symm)
  have hb : Below w.heap.size w Y := h.kept.trans (((Below.refl _ _).grown hg h.kept.size (fun k hk => by have := (h.own.lt hk).1; omega)))
  refine ⟨(Below.heap_setCell _ _ _ _ (by show OB ≠ YB; omega)).trans (heap_grown hg h.out (fun e => h.own.not_at (by omega) e.symm)), (Below.heap_setCell _ _ _ _ (by show TB ≠ YB; omega)).trans (heap_grown hg h.res (fun e => h.own.not_at (by omega) e.symm)), heap_store hy _, ?_, hb.setCell (by show w.heap.size ≤ YB; omega) _, ?_, h.low⟩
  · exact ho.from_ (From.set _ (Nat.lt_succ_self YB))
  · exact From.set' _ _ (From.grown hg _ h.fr (fun b e => by have := (h.own.lt e).1; omega)) (.inr l3)
/-- what holds between the steps of the outer loop -/
structure FO (w : World) (OB TB : Nat) (oc tc : Array Value) (v : Value) (n : Nat) (xs : List (List Alt)) (X : World) : Prop where
  out : X.heap[OB]? = some (.cells oc 32 (0, 0))
  res : X.heap[TB]? = some (.cells tc 32 (0, 0))
  own : Own (ifT.on fun b => OB + 1 ≤ b) 50 (OB + 1) X v n xs
  kept : Kept w X
  low : w.heap.size ≤ OB ∧ w.heap.size ≤ TB ∧ TB < OB
theorem FO.keep {w X Y : World} {OB TB n : Nat} {oc tc : Array Value} {v : Value} {xs : List (List Alt)} (h : FO w OB TB oc tc v n xs X) (hk : Kept X Y) : FO w OB TB oc tc v n xs Y :=
  ⟨heap_kept hk h.out, heap_kept hk h.res, h.own.kept hk, h.kept.trans' hk, h.low⟩
theorem FO.grow {w X Y : World} {OB TB n n' : Nat} {oc tc : Array Value} {v v' : Value} {xs xs' : List (List Alt)} (h : FO w OB TB oc tc v n xs X) (hg : X.grownBy Y v.ownBlock) (ho : Own (ifT.on fun b => OB + 1 ≤ b) 50 (OB + 1) Y v' n' xs') :
    FO w OB TB (oc.setIfInBounds 7 v') tc v' n' xs' (Y.setCell ⟨OB, 7, none⟩ v') := by
  obtain ⟨l1, l2, l3⟩ := h.low
  have hb : Below w.heap.size w Y := h.kept.trans (((Below.refl _ _).grown hg h.kept.size (fun k hk => by have := (h.own.lt hk).1; omega)))
  exact ⟨heap_store (heap_grown hg h.out (fun e => h.own.not_at (Nat.lt_succ_self OB) e.symm)) _, (Below.heap_setCell _ _ _ _ (by show TB ≠ OB; omega)).trans (heap_grown hg h.res (fun e => h.own.not_at (by omega) e.symm)), ho.from_ (From.set _ (Nat.lt_succ_self OB)), hb.setCell (by show w.heap.size ≤ OB; omega) _, h.low⟩
theorem of_drewN {w w1 : World} {B : Nat} (h : Below B w w1) (n : Nat) : Below B w (w1.drewN n) := ⟨h.os, h.tape, h.output, h.size, h.block⟩
set_option maxRecDepth 100000 in
set_option maxHeartbeats 16000000 in
theorem fill_any (c : Cfg) (A : Option Addr) (cap : Nat) (w : World) (hC : CfgIs w (low w.heap.size) c A cap) (hz : sizeS c ≤ 1000000) (hnb : c.ifs.length ≤ 100000) :
    Calls Tryd.prog 22 #[.agg (c.cells A cap).toArray] w fun e w' => (∃ A', e = .returned (.agg ((fillS c).cells A' c.ifs.length).toArray) ∧ CfgIs w' (fun b => w.heap.size ≤ b ∧ b < w'.heap.size) (fillS c) A' c.ifs.length) ∧ Kept w w' := by
  obtain ⟨iA, hiA, hA0, hA1, hA2⟩ := info_parts infoAlt
  obtain ⟨iI, hiI, hI0, hI1, hI2⟩ := info_parts infoIf
  obtain ⟨n, hn⟩ : ∃ n, c.ifs.length = n := ⟨_, rfl⟩
  have hnc := hC.len
  have hcm := hC.cap
  have hd := hC.d
  have hfz := fun D => fill_size D c
  have hfl := fill_len c
  have hF : fillS c = ⟨{ c.d with number := if c.d.number = 0 then 1 else c.d.number, ifs := (c.ifs.length : Int) % 256, total := (sizeS c : Int) % 65536 }, fillIfs c.ifs⟩ := rfl
  rw [hn] at hnc hfl hF hnb
  rw [hF]
  have hzz := hz
  rw [sizeS_eq] at hz
  obtain ⟨S, hS⟩ : ∃ S, sizeS c = S := ⟨_, rfl⟩
  rw [hS] at hzz hfz ⊢
  unfold maxLen at hcm
  obtain ⟨⟨d0, d1, d2, d3, d4, d5, d6⟩, L⟩ := c
  unfold Cfg.cells CfgD.cells
  simp only at hn hz hfz hfl hd ⊢
  rw [hn, hfl]
  obtain ⟨N, hN⟩ : ∃ N, (if d2 = 0 then 1 else d2) = N := ⟨_, rfl⟩
  have hN8 : u8k N := by
    rw [← hN]
    obtain ⟨_, _, h2, _⟩ := hd
    simp only at h2
    split
    · exact ⟨by decide, by decide⟩
    · exact h2
  rw [hN]
  have hnL : n ≤ sumC L + 1000000 ∨ True := .inr trivial
  have HC := hide hC
  have Hn := hide hn
  have HN := hide hN
  have Hfz := hide hfz
  have Hfl := hide hfl
  have Hd := hide hd
  have HN8 := hide hN8
  clear hC hn hF hS hN hfz hfl hd hN8 hnL
  go_enter Tryd.func22, Tryd.ntmps22
  go_upto_region 2 with (fail)
  refine wp_at (fun W => W.heap[w.heap.size]? = some (.cells #[.int .u16 d0, .int .u8 d1, .int .u8 d2, .int .u8 d3, .bool d4, .bool d5, .int .u8 d6, .slice A n cap] 32 (0, 0)) ∧ W.heap[w.heap.size + 1]? = some (.cells #[.int .u16 0, .int .u8 0, .int .u8 0, .int .u8 0, .bool false, .bool false, .int .u8 0, .slice none 0 0] 32 (0, 0)) ∧ W.heap[w.heap.size + 1 + 1]? = some (.cells #[.int .u16 d0, .int .u8 d1, .int .u8 d2, .int .u8 d3, .bool d4, .bool d5, .int .u8 d6, .slice none 0 0] 32 (0, 0)) ∧ Kept w W) ⟨heap_past (heap_past (heap_at _ rfl)), heap_past (heap_at _ (by simp)), heap_at _ (by simp), by go_grown⟩ (fun W hW => ?_)
  obtain ⟨hI, hT, hO, hkW⟩ := hW
  obtain ⟨OB, hOd⟩ : ∃ OB, w.heap.size + 1 + 1 = OB := ⟨_, rfl⟩
  obtain ⟨TB, hTd⟩ : ∃ TB, w.heap.size + 1 = TB := ⟨_, rfl⟩
  have hlow : w.heap.size ≤ OB ∧ w.heap.size ≤ TB ∧ TB < OB := by omega
  have hIO : w.heap.size ≠ OB := by omega
  rw [hOd] at hO ⊢
  rw [hTd] at hT ⊢
  have lI := heap_lt hI
  have lO := heap_lt hO
  have i7 := cell_heap hI (o := 7) rfl
  have o2 := cell_heap hO (o := 2) rfl
  have fo2 := frozen_heap hO (o := 2)
  have HI := hide hI
  have HT := hide hT
  have HO := hide hO
  have HkW := hide hkW
  clear hOd hTd hI hT hO hkW
  go_upto_if 15 with (fail)
  go_cut [] (fun wc => wc.heap[w.heap.size]? = some (.cells #[.int .u16 d0, .int .u8 d1, .int .u8 d2, .int .u8 d3, .bool d4, .bool d5, .int .u8 d6, .slice A n cap] 32 (0, 0)) ∧ FO w OB TB #[.int .u16 d0, .int .u8 d1, .int .u8 N, .int .u8 d3, .bool d4, .bool d5, .int .u8 d6, .slice none 0 0] #[.int .u16 0, .int .u8 0, .int .u8 0, .int .u8 0, .bool false, .bool false, .int .u8 0, .slice none 0 0] (.slice none 0 0) 0 [] wc)
  case first =>
    by_cases h0 : d2 = 0
    · have hNe : N = 1 := by rw [← HN.out, if_pos h0]
      subst h0
      have HNe := hide hNe
      clear hNe
      go_wp2_with fail
      go_meet
      refine ⟨heap_other HI.out hIO, ⟨?_, heap_other HT.out (by show TB ≠ OB; omega), Own.nil _ _ _ _, HkW.out.trans (Below.setCell (Below.refl _ _) hlow.1 _), hlow⟩⟩
      rw [HNe.out]
      exact heap_store HO.out _
    · have hNe : N = d2 := by rw [← HN.out, if_neg h0]
      have HNe := hide hNe
      have hq : (d2 == 0) = false := by simpa using h0
      clear hNe
      go_wp2_with fail
      go_meet
      refine ⟨HI.out, ⟨?_, HT.out, Own.nil _ _ _ _, HkW.out, hlow⟩⟩
      rw [HNe.out]
      exact HO.out
  case rest =>
    obtain ⟨hI, hFO⟩ := hcut
    have lI2 := heap_lt hI
    have i7' := cell_heap hI (o := 7) rfl
    have HFO := hide hFO
    clear hI hFO i7 o2 fo2 HI HT HO HkW
    go_wp2_with fail
    go_loopg [21] n (fun g s21 wr => ∃ (i : Nat) (v : Value), i + g = n ∧ s21 = .int .i64 i ∧ FO w OB TB #[.int .u16 d0, .int .u8 d1, .int .u8 N, .int .u8 d3, .bool d4, .bool d5, .int .u8 d6, v] #[.int .u16 0, .int .u8 0, .int .u8 0, .int .u8 0, .bool false, .bool false, .int .u8 0, .slice none 0 0] v i ((fillIfs L).take i) wr)
    case atStart => exact ⟨0, .slice none 0 0, by omega, rfl, HFO.out⟩
    case round =>
      clear HFO lI2 i7'
      obtain ⟨i, v, hi, rfl, hFO⟩ := hrel
      have Hi := hide hi
      have HFO := hide hFO
      clear hi
      have hk := hFO.kept
      by_cases hlt : i < n
      · obtain ⟨x, b, off, A', c', hx, rfl, hbl', x0, hxc, hcm', hs⟩ := if_at HC.out hk (i := i) (by show i < L.length; rw [Hn.out]; exact hlt)
        have hmem := List.mem_of_getElem? hx
        have h1 := if_le (l := L) hmem
        have h4 := len_le_sumIf x
        have hstep : (fillIfs L).take (i + 1) = (fillIfs L).take i ++ [x.mapIdx fun j a => fillAlt i j a] := by
          have hxi : (fillIfs L)[i]? = some (x.mapIdx fun j a => fillAlt i j a) := by unfold fillIfs; rw [List.getElem?_mapIdx, hx]; rfl
          obtain ⟨g1, g2⟩ := List.getElem?_eq_some_iff.1 hxi
          rw [List.take_succ_eq_append_getElem g1, g2]
        obtain ⟨m, hm⟩ : ∃ m, x.length = m := ⟨_, rfl⟩
        rw [hm] at x0 hxc hs h4
        have hi0 : (0 : Int) ≤ (i : Int) := by omega
        have hlt' : (i : Int) < (n : Int) := by omega
        have hwi : IntKind.i64.wrap ((i : Int) + 1) = ((i + 1 : Nat) : Int) := by rw [IntKind.wrap_i64]; omega
        unfold maxLen at hcm'
        have hmz : m ≤ 1000000 := by omega
        have Hm := hide hm
        have Hstep := hide hstep
        have hOl := heap_lt hFO.out
        have hTl := heap_lt hFO.res
        clear hx hmem hm hstep hFO
        go_upto_region 8 with (fail)
        obtain ⟨wo, rfl⟩ : ∃ wo, wo = wr := ⟨_, rfl⟩
        obtain ⟨go, rfl⟩ : ∃ go, go = gk := ⟨_, rfl⟩
        refine wp_at (fun V => V.heap[wo.heap.size]? = some (.cells #[.slice A' m c'] 50 (0, 0)) ∧ V.heap[wo.heap.size + 1]? = some (.cells #[.slice none 0 0] 50 (0, 0)) ∧ Kept wo V) ⟨by first | exact heap_past (heap_at _ rfl) | exact heap_past (heap_row (heap_at _ rfl)), heap_at _ (by simp), by go_grown⟩ (fun V hV => ?_)
        obtain ⟨hB, hY, hkV⟩ := hV
        obtain ⟨YB, hYd⟩ : ∃ YB, wo.heap.size + 1 = YB := ⟨_, rfl⟩
        have hwY : wo.heap.size ≤ YB := by omega
        rw [hYd] at hY ⊢
        have hFI : FI w wo OB TB YB #[.int .u16 d0, .int .u8 d1, .int .u8 N, .int .u8 d3, .bool d4, .bool d5, .int .u8 d6, v] #[.int .u16 0, .int .u8 0, .int .u8 0, .int .u8 0, .bool false, .bool false, .int .u8 0, .slice none 0 0] (.slice none 0 0) 0 [] V := ⟨heap_kept hkV HFO.out.out, heap_kept hkV HFO.out.res, hY, Own.nil _ _ _ _, hk.trans' hkV, From.kept hkV, ⟨hOl, hTl, hwY, hlow.1, hlow.2.1, by omega⟩⟩
        have HFI := hide hFI
        have lB := heap_lt hB
        have b0 := cell_heap hB (o := 0) rfl
        clear hYd hB hY hFI hkV
        go_wp2_with fail
        go_loopg [29] m (fun g s29 wx => ∃ (j : Nat) (u : Value), j + g = m ∧ s29 = .int .i64 j ∧ FI w wo OB TB YB #[.int .u16 d0, .int .u8 d1, .int .u8 N, .int .u8 d3, .bool d4, .bool d5, .int .u8 d6, v] #[.int .u16 0, .int .u8 0, .int .u8 0, .int .u8 0, .bool false, .bool false, .int .u8 0, .slice none 0 0] u j ((x.mapIdx fun j a => fillAlt i j a).take j) wx)
        case atStart => exact ⟨0, .slice none 0 0, by omega, rfl, HFI.out⟩
        case round =>
          clear HFI lB b0
          obtain ⟨j, u, hj, rfl, hFI⟩ := hrel
          have Hj := hide hj
          have hk2 := hFI.kept
          have hYl := hFI.size
          have HFI := hide hFI
          clear hj hFI
          by_cases hlj : j < m
          · obtain ⟨a, b2, off2, X, cx, E, ce, ha, rfl, hbl2, hcells, hdo, q1, q2, q3, q4, q5, q6⟩ := alt_at hs hk2 hlj
            have hstep2 : (x.mapIdx fun j a => fillAlt i j a).take (j + 1) = (x.mapIdx fun j a => fillAlt i j a).take j ++ [fillAlt i j a] := by
              have hxi : (x.mapIdx fun j a => fillAlt i j a)[j]? = some (fillAlt i j a) := by rw [List.getElem?_mapIdx, ha]; rfl
              obtain ⟨g1, g2⟩ := List.getElem?_eq_some_iff.1 hxi
              rw [List.take_succ_eq_append_getElem g1, g2]
            have hal := alt_le (List.mem_of_getElem? ha)
            have hasz : altSize a = 9 + a.extra.length + 7 * a.eps.length := rfl
            unfold maxLen at q2 q4
            have y0 := hcells 0 _ rfl
            rw [Nat.add_zero] at y0
            have y1 := hcells 1 _ rfl
            have y2 := hcells 2 _ rfl
            have y3 := hcells 3 _ rfl
            have y4 := hcells 4 _ rfl
            have y5 := hcells 5 _ rfl
            have y6 := hcells 6 _ rfl
            have y7 := hcells 7 _ rfl
            have y8 := hcells 8 _ rfl
            have hj0 : (0 : Int) ≤ (j : Int) := by omega
            have hlj' : (j : Int) < (m : Int) := by omega
            have hwj : IntKind.i64.wrap ((j : Int) + 1) = ((j + 1 : Nat) : Int) := by rw [IntKind.wrap_i64]; omega
            obtain ⟨e1, he1⟩ : ∃ e1, a.extra.length = e1 := ⟨_, rfl⟩
            obtain ⟨e2, he2⟩ : ∃ e2, a.eps.length = e2 := ⟨_, rfl⟩
            rw [he1] at q1 q5 y7 hasz
            rw [he2] at q3 q6 y8 hasz
            have hle1 : e1 ≤ 1000000 := by omega
            have hle2 : e2 ≤ 1000000 := by omega
            have hcb := fun w' (hkk : Kept w w') => cloneB_any X e1 cx a.extra w' hle1 (q5.keep (fun b hb => Nat.lt_of_lt_of_le hb hkk.size) (fun b o hb => hkk.cell (p := ⟨b, o, none⟩) hb))
            have hce := fun w' (hkk : Kept w w') => cloneEp_any E e2 ce a.eps w' hle2 (q6.keep (fun b hb => Nat.lt_of_lt_of_le hb hkk.size) (fun b o hb => hkk.cell (p := ⟨b, o, none⟩) hb))
            have Hstep2 := hide hstep2
            have He1 := hide he1
            have He2 := hide he2
            have Hdo := hide hdo
            clear hcells q5 q6 ha hstep2 he1 he2 hdo hal hasz
            go_upto_region 11 with (refine wpList_store_row rfl 56 (.tmp 8) (.tmp 33) rfl wr.heap.size #[.int .u8 a.d.num, .int .u8 a.d.alt, .int .u8 a.d.eps, .int .u8 a.d.cls, .int .u8 a.d.sub, .int .u8 a.d.proto, .int .u8 a.d.text, .slice X e1 cx, .slice E e2 ce] (by rfl) (by rfl) 56 _ (heap_at _ rfl) (by kernel_rfl) (by rfl) (by simp [Value.oneCell']) ?_)
            refine wp_at (fun V => V.heap[wr.heap.size]? = some (.cells #[.int .u8 a.d.num, .int .u8 a.d.alt, .int .u8 a.d.eps, .int .u8 a.d.cls, .int .u8 a.d.sub, .int .u8 a.d.proto, .int .u8 a.d.text, .slice X e1 cx, .slice E e2 ce] 56 (0, 0)) ∧ Kept wr V) ⟨heap_row (heap_at _ rfl), below_row ((Below.refl _ _).alloc (Nat.le_refl _) _) (Nat.le_refl _) _⟩ (fun V1 hV1 => ?_)
            obtain ⟨hA1, hkA1⟩ := hV1
            have la1 := heap_lt hA1
            have za0 := cell_heap hA1 (o := 0) rfl
            have za1 := cell_heap hA1 (o := 1) rfl
            have za2 := cell_heap hA1 (o := 2) rfl
            have za8 := cell_heap hA1 (o := 8) rfl
            have fa0 := frozen_heap hA1 (o := 0)
            have fa1 := frozen_heap hA1 (o := 1)
            have fa2 := frozen_heap hA1 (o := 2)
            have hw1 : IntKind.u8.wrap (i : Int) = (i : Int) % 256 := by rw [IntKind.wrap_u8]
            have hw2 : IntKind.u8.wrap (j : Int) = (j : Int) % 256 := by rw [IntKind.wrap_u8]
            have hw3 : IntKind.u8.wrap (e2 : Int) = (e2 : Int) % 256 := by rw [IntKind.wrap_u8]
            have HA1 := hide hA1
            clear hA1 y0 y1 y2 y3 y4 y5 y6 y7 y8
            go_upto_region 12 with (fail)
            refine wp_at (fun V => V.heap[wr.heap.size]? = some (.cells #[.int .u8 ((i : Int) % 256), .int .u8 ((j : Int) % 256), .int .u8 ((e2 : Int) % 256), .int .u8 a.d.cls, .int .u8 a.d.sub, .int .u8 a.d.proto, .int .u8 a.d.text, .slice X e1 cx, .slice E e2 ce] 56 (0, 0)) ∧ Kept wr V) ⟨heap_store (heap_store (heap_store HA1.out _) _) _, ((hkA1.setCell (Nat.le_refl _) _).setCell (Nat.le_refl _) _).setCell (Nat.le_refl _) _⟩ (fun V2 hV2 => ?_)
            obtain ⟨hA2, hkA2⟩ := hV2
            have la2 := heap_lt hA2
            have hkw2 : Kept w V2 := hk2.trans' hkA2
            have zb7 := cell_heap hA2 (o := 7) rfl
            have zb8 := cell_heap hA2 (o := 8) rfl
            have fb7 := frozen_heap hA2 (o := 7)
            have fb8 := frozen_heap hA2 (o := 8)
            have HA2 := hide hA2
            clear hA2 HA1 la1 za0 za1 za2 za8 fa0 fa1 fa2 hw1 hw2 hw3 hkA1
            go_cut [] (fun wc => ∃ X2 c2 E2 k2, wc.heap[wr.heap.size]? = some (.cells #[.int .u8 ((i : Int) % 256), .int .u8 ((j : Int) % 256), .int .u8 ((e2 : Int) % 256), .int .u8 a.d.cls, .int .u8 a.d.sub, .int .u8 a.d.proto, .int .u8 a.d.text, .slice X2 e1 c2, .slice E2 e2 k2] 56 (0, 0)) ∧ (e1 ≤ c2 ∧ c2 ≤ maxLen ∧ e2 ≤ k2 ∧ k2 ≤ maxLen) ∧ Sl u8T wc (fun g => V2.heap.size ≤ g ∧ g < wc.heap.size) X2 e1 a.extra ∧ Sl epT wc (fun g => V2.heap.size ≤ g ∧ g < wc.heap.size) E2 e2 a.eps ∧ Kept wr wc)
            case first =>
              go_region_law (first
                | (go_simp; go_at_call 60; refine (hcb _ (by first | exact hk2.trans' hkz | exact hkw2.trans' (below_drewN (Below.refl _ _) _) | exact hkw2.trans' ((Below.refl _ _).drew))).mono ?_; rintro e w1 ⟨⟨X2, c2, rfl, xa, xb, xs⟩, hkb⟩; have hB1 := hide (heap_kept hkb (by first | exact hB1.out | exact HA2.out)); have lq1 := heap_lt hB1.out; have cq7 := cell_heap hB1.out (o := 7) rfl; have cq8 := cell_heap hB1.out (o := 8) rfl; have fq7 := frozen_heap hB1.out (o := 7); have fq8 := frozen_heap hB1.out (o := 8); have hkz : Kept wr w1 := (by first | exact hkz.trans' hkb | exact hkA2.trans' (of_drew hkb)); dsimp only)
                | (go_simp; go_at_call 61; refine (hce _ (by first | exact hk2.trans' hkz | exact hkw2.trans' (below_drewN (Below.refl _ _) _) | exact hkw2.trans' ((Below.refl _ _).drew))).mono ?_; rintro e w1 ⟨⟨E2, k2, rfl, ea, eb, es⟩, hke⟩; have hB1 := hide (heap_kept hke (by first | exact hB1.out | exact HA2.out)); have lq1 := heap_lt hB1.out; have cq7 := cell_heap hB1.out (o := 7) rfl; have cq8 := cell_heap hB1.out (o := 8) rfl; have fq7 := frozen_heap hB1.out (o := 7); have fq8 := frozen_heap hB1.out (o := 8); have hkz : Kept wr w1 := (by first | exact hkz.trans' hke | exact hkA2.trans' (of_drew hke)); dsimp only))
              all_goals go_wp2_with fail
              all_goals
                go_meet
                have hs12 := hke.size
                have hs11 := hkb.size
                refine ⟨X2, c2, E2, k2, heap_store (heap_store hB1.out _) _, ⟨xa, xb, ea, eb⟩, ?_, ?_, (hkz.setCell (Nat.le_refl _) _).setCell (Nat.le_refl _) _⟩
                · refine xs.keep (fun g hg => ⟨hg.1, by rw [World.size_setCell, World.size_setCell]; exact Nat.lt_of_lt_of_le hg.2 hs12⟩) (fun g o hg => ?_)
                  have hgA : g ≠ wr.heap.size := by have h1 : V2.heap.size ≤ g := hg.1; omega
                  exact ((World.cell?_setCell_other _ _ _ _ (fun e => hgA (congrArg Addr.block e).symm)).trans (World.cell?_setCell_other _ _ _ _ (fun e => hgA (congrArg Addr.block e).symm))).trans (hke.cell (p := ⟨g, o, none⟩) hg.2)
                · refine es.keep (fun g hg => ⟨Nat.le_trans hs11 hg.1, by rw [World.size_setCell, World.size_setCell]; exact hg.2⟩) (fun g o hg => ?_)
                  have hgA : g ≠ wr.heap.size := by have h1 : V2.heap.size ≤ g := Nat.le_trans hs11 hg.1; omega
                  exact (World.cell?_setCell_other _ _ _ _ (fun e => hgA (congrArg Addr.block e).symm)).trans (World.cell?_setCell_other _ _ _ _ (fun e => hgA (congrArg Addr.block e).symm))
            case rest =>
              obtain ⟨X2, c2, E2, k2, hA3, ⟨xa, xb, ea, eb⟩, xs, es, hkA3⟩ := hcut
              have hVle : wr.heap.size < V2.heap.size := la2
              have la3 := heap_lt hA3
              have zc7 := cell_heap hA3 (o := 7) rfl
              have zc8 := cell_heap hA3 (o := 8) rfl
              have fc7 := frozen_heap hA3 (o := 7)
              have fc8 := frozen_heap hA3 (o := 8)
              have HA3 := hide hA3
              clear hA3 HA2 la2 zb7 zb8 fb7 fb8 hkA2 hkw2
              go_upto_region 13 with (fail)
              go_cut [] (fun wd => wd.heap[wr.heap.size]? = some (.cells #[.int .u8 ((i : Int) % 256), .int .u8 ((j : Int) % 256), .int .u8 ((e2 : Int) % 256), .int .u8 a.d.cls, .int .u8 a.d.sub, .int .u8 a.d.proto, .int .u8 a.d.text, .slice X2 e1 e1, .slice E2 e2 e2] 56 (0, 0)) ∧ Sl u8T wd (fun g => V2.heap.size ≤ g ∧ g < wd.heap.size) X2 e1 a.extra ∧ Sl epT wd (fun g => V2.heap.size ≤ g ∧ g < wd.heap.size) E2 e2 a.eps ∧ Kept wr wd)
              case first =>
                go_region_law (first
                  | (go_simp; go_at_call 62; refine (clipB_any X2 e1 c2 xa xb _).mono ?_; rintro e w1 ⟨rfl, rfl⟩; dsimp only)
                  | (go_simp; go_at_call 63; refine (clipEp_any E2 e2 k2 ea eb _).mono ?_; rintro e w1 ⟨rfl, rfl⟩; dsimp only))
                all_goals go_wp2_with fail
                all_goals
                  go_meet
                  refine ⟨heap_store (heap_store (by exact HA3.out) _) _, ?_, ?_, ?_⟩
                  · refine xs.keep (fun g hg => ⟨hg.1, by simpa [World.size_setCell] using hg.2⟩) (fun g o hg => ?_)
                    have hgA : g ≠ wr.heap.size := by have h1 := hg.1; omega
                    exact (World.cell?_setCell_other _ _ _ _ (fun e => hgA (congrArg Addr.block e).symm)).trans (World.cell?_setCell_other _ _ _ _ (fun e => hgA (congrArg Addr.block e).symm))
                  · refine es.keep (fun g hg => ⟨hg.1, by simpa [World.size_setCell] using hg.2⟩) (fun g o hg => ?_)
                    have hgA : g ≠ wr.heap.size := by have h1 := hg.1; omega
                    exact (World.cell?_setCell_other _ _ _ _ (fun e => hgA (congrArg Addr.block e).symm)).trans (World.cell?_setCell_other _ _ _ _ (fun e => hgA (congrArg Addr.block e).symm))
                  · exact ((of_drewN hkA3 _).setCell (Nat.le_refl _) _).setCell (Nat.le_refl _) _
              case rest =>
                obtain ⟨hA4, xs, es, hkA4⟩ := hcut
                rename World => wd
                clear HA3 la3 zc7 zc8 fc7 fc8 xa xb ea eb hkA3
                have hFId := HFI.out.keep hkA4
                obtain ⟨Au, cu, rfl, hu1, hu2⟩ := hFId.own.isSlice
                have hrel : ∀ o, (altT.on fun b => YB + 1 ≤ b).rel (wd.alloc o) (apart (wd.alloc o) (.slice Au j cu)) (fillAlt i j a) ([.int .u8 ((i : Int) % 256), .int .u8 ((j : Int) % 256), .int .u8 ((e2 : Int) % 256), .int .u8 a.d.cls, .int .u8 a.d.sub, .int .u8 a.d.proto, .int .u8 a.d.text, .slice X2 e1 e1, .slice E2 e2 e2]) := fun o => by
                  obtain ⟨k0, k1, k2', k3, k4, k5, k6⟩ := Hdo.out
                  have hlt : ∀ g, V2.heap.size ≤ g ∧ g < wd.heap.size → (g < (wd.alloc o).heap.size ∧ (Value.slice Au j cu).ownBlock ≠ some g) ∧ YB + 1 ≤ g := fun g hg => ⟨⟨by rw [World.size_alloc]; omega, fun e => by have := (HFI.out.own.lt e).2; omega⟩, by omega⟩
                  refine ⟨X2, e1, E2, e2, ?_, ⟨⟨by show (0 : Int) ≤ (i : Int) % 256; omega, by show (i : Int) % 256 < 256; omega⟩, ⟨by show (0 : Int) ≤ (j : Int) % 256; omega, by show (j : Int) % 256 < 256; omega⟩, ⟨by show (0 : Int) ≤ (a.eps.length : Int) % 256; omega, by show (a.eps.length : Int) % 256 < 256; omega⟩, k3, k4, k5, k6⟩, by show a.extra.length ≤ e1; rw [He1.out]; exact Nat.le_refl _, by unfold maxLen; omega, by show a.eps.length ≤ e2; rw [He2.out]; exact Nat.le_refl _, by unfold maxLen; omega, ?_, ?_⟩
                  · simp only [Alt.cells, fillAlt, IfD.cells, He1.out, He2.out]
                    rfl
                  · show Sl u8T _ _ X2 a.extra.length a.extra
                    rw [He1.out]
                    exact xs.keep hlt (fun g o2 hg => World.cell?_alloc_lt _ _ _ hg.2)
                  · show Sl epT _ _ E2 a.eps.length a.eps
                    rw [He2.out]
                    exact es.keep hlt (fun g o2 hg => World.cell?_alloc_lt _ _ _ hg.2)
                have la4 := heap_lt hA4
                have zd0 := cell_heap hA4 (o := 0) rfl
                have zd1 := cell_heap hA4 (o := 1) rfl
                have zd2 := cell_heap hA4 (o := 2) rfl
                have zd3 := cell_heap hA4 (o := 3) rfl
                have zd4 := cell_heap hA4 (o := 4) rfl
                have zd5 := cell_heap hA4 (o := 5) rfl
                have zd6 := cell_heap hA4 (o := 6) rfl
                have zd7 := cell_heap hA4 (o := 7) rfl
                have zd8 := cell_heap hA4 (o := 8) rfl
                have hy := hFId.y
                have ly := heap_lt hy
                have cy := cell_heap hy (o := 0) rfl
                have hFIk := hide hFId
                have hown := hFId.own
                have Hrel := hide hrel
                have hYle : YB + 1 ≤ wd.heap.size := ly
                have hjm : j + 1 ≤ 1000000 := by omega
                clear hA4 hy hFId xs es hrel
                go_upto_region 15 with (at_builtin; refine wpList_append_el (T := altT.on fun b => YB + 1 ≤ b) rfl (.tmp 65) (.tmp 67) 48 rfl (YB + 1) 56 iA _ 56 Tryd.underlying48 hiA hA0 hA1 hA2 rfl (by exact (by decide : 0 < 9)) _ j ((x.mapIdx fun j a => fillAlt i j a).take j) (by rfl) (hown.alloc _) wd.heap.size _ _ (fillAlt i j a) (by rfl) (heap_at _ rfl) (Hrel.out _) (by simp [Value.oneCell']) (by unfold maxLen; omega) (by omega) (by simp; omega) ?_; intro g cap w9 hown9 hg9 hb9 hat9 hlt9; have hy9 := heap_grown hg9 (heap_past hFIk.out.y) (fun e => hFIk.out.own.not_at (Nat.lt_succ_self YB) e.symm); have cy9 := cell_heap hy9 (o := 0) rfl; have fy9 := frozen_heap hy9 (o := 0); have ly9 := heap_lt hy9)
                have hfin := (hFIk.out.keep ((Below.refl _ _).alloc (Nat.le_refl _) _)).grow hg9 hown9
                rw [← Hstep2.out] at hfin
                have Hfin := hide hfin
                clear hfin hown9 hg9 hb9 hat9 hlt9 hy9 cy9 fy9 ly9 hown
                go_wp2_with fail
                go_roundg (gk - 1)
                case measure => have := Hj.out; omega
                case rel => exact ⟨j + 1, _, by have := Hj.out; omega, by first | rfl | go_num, Hfin.out⟩
          · have hge : (m : Int) ≤ (j : Int) := by omega
            have hjm : j = m := by have := Hj.out; omega
            subst hjm
            have hall : (x.mapIdx fun j a => fillAlt i j a).take j = x.mapIdx fun j a => fillAlt i j a := List.take_of_length_le (by rw [List.length_mapIdx, Hm.out]; exact Nat.le_refl _)
            have hfi := HFI.out
            rw [hall] at hfi
            have hfo : FO w OB TB #[.int .u16 d0, .int .u8 d1, .int .u8 N, .int .u8 d3, .bool d4, .bool d5, .int .u8 d6, v] #[.int .u16 0, .int .u8 0, .int .u8 0, .int .u8 0, .bool false, .bool false, .int .u8 0, .slice none 0 0] v i ((fillIfs L).take i) wr := ⟨hfi.out, hfi.res, HFO.out.own.from_ hfi.fr, hfi.kept, hlow⟩
            obtain ⟨Au, cu, rfl, hu1, hu2⟩ := hfi.own.isSlice
            obtain ⟨Av, cv, rfl, hv1, hv2⟩ := hfo.own.isSlice
            have hnew : Sl altT wr (fun g => YB + 1 ≤ g ∧ g < wr.heap.size) Au j (x.mapIdx fun j a => fillAlt i j a) := hfi.own.allnew
            have hel : ∀ W', Kept wr W' → (ifT.on fun b => OB + 1 ≤ b).rel W' (apart W' (.slice Av i cv)) (x.mapIdx fun j a => fillAlt i j a) [.slice Au j j] := fun W' hk' => by
              refine ⟨Au, j, by rw [List.length_mapIdx, Hm.out], by rw [List.length_mapIdx, Hm.out]; exact Nat.le_refl _, by unfold maxLen; omega, ?_⟩
              rw [List.length_mapIdx, Hm.out]
              exact hnew.keep (fun g hg => ⟨⟨Nat.lt_of_lt_of_le hg.2 hk'.size, fun e => by have := (HFO.out.own.lt e).2; have := hg.1; omega⟩, by have := hg.1; omega⟩) (fun g o hg => hk'.cell (p := ⟨g, o, none⟩) hg.2)
            have hin : i + 1 ≤ 1000000 := by omega
            have lo := heap_lt hfo.out
            have ly := heap_lt hfi.y
            have co7 := cell_heap hfo.out (o := 7) rfl
            have cy0 := cell_heap hfi.y (o := 0) rfl
            have fo7 := frozen_heap hfo.out (o := 7)
            have Hfo := hide hfo
            have Hel := hide hel
            clear hall hfi hfo hnew hel
            go_upto_region 16 with (fail)
            go_region_law (first
              | (go_simp; go_at_call 64; refine (clipAlt_any Au j cu hu1 hu2 _).mono ?_; rintro e w1 ⟨rfl, rfl⟩; dsimp only)
              | (refine step_append_el (T := ifT.on fun b => OB + 1 ≤ b) rfl (.tmp 72) (.tmp 77) 30 rfl (OB + 1) 50 iI _ 24 Tryd.underlying30 hiI hI0 hI1 hI2 rfl (by exact Nat.one_pos) _ i ((fillIfs L).take i) (by rfl) (by exact Hfo.out.own.kept (by go_grown)) wr.heap.size _ _ (x.mapIdx fun j a => fillAlt i j a) (by rfl) (heap_at _ rfl) (Hel.out _ (by go_grown)) (by simp [Value.oneCell']) (by unfold maxLen; omega) (by omega) (by simp; omega) ?_; intro g cap w9 hown9 hg9 hb9 hat9 hlt9; have ho9 := heap_grown hg9 (heap_past (by exact Hfo.out.out)) (fun e => Hfo.out.own.not_at (Nat.lt_succ_self OB) e.symm); have co9 := cell_heap ho9 (o := 7) rfl; have fo9 := frozen_heap ho9 (o := 7); have lo9 := heap_lt ho9))
            all_goals
              have hfin := (Hfo.out.keep (show Kept wr _ from by go_grown)).grow hg9 hown9
              rw [← Hstep.out] at hfin
              have Hfin := hide hfin
              clear hfin hown9 hg9 hb9 hat9 hlt9
              go_wp2_with fail
              go_roundg (go - 1)
              case measure => have := Hi.out; omega
              case rel => exact ⟨i + 1, _, by have := Hi.out; omega, by first | rfl | go_num, Hfin.out⟩
      · have hge : (n : Int) ≤ (i : Int) := by omega
        have hin : i = n := by have := Hi.out; omega
        subst hin
        have hall : (fillIfs L).take i = fillIfs L := List.take_of_length_le (by rw [Hfl.out]; exact Nat.le_refl _)
        have hfo := HFO.out
        rw [hall] at hfo
        obtain ⟨Av, cv, rfl, hv1, hv2⟩ := hfo.own.isSlice
        have lo := heap_lt hfo.out
        have lt := heap_lt hfo.res
        have co7 := cell_heap hfo.out (o := 7) rfl
        have fo7 := frozen_heap hfo.out (o := 7)
        have Hfo := hide hfo
        clear hall hfo
        go_upto_region 19 with (go_at_call 65; refine (clipIf_any Av i cv hv1 hv2 _).mono ?_; rintro e w1 ⟨rfl, rfl⟩)
        refine wp_at (fun V => V.heap[OB]? = some (.cells #[.int .u16 d0, .int .u8 d1, .int .u8 N, .int .u8 d3, .bool d4, .bool d5, .int .u8 d6, .slice Av i i] 32 (0, 0)) ∧ V.heap[TB]? = some (.cells #[.int .u16 0, .int .u8 0, .int .u8 0, .int .u8 0, .bool false, .bool false, .int .u8 0, .slice none 0 0] 32 (0, 0)) ∧ CfgIs V (fun b => w.heap.size ≤ b ∧ b < V.heap.size ∧ b ≠ OB ∧ b ≠ TB) ⟨⟨d0, d1, N, d3, d4, d5, d6⟩, fillIfs L⟩ Av i ∧ Kept w V) ⟨heap_store Hfo.out.out _, heap_other Hfo.out.res (by show TB ≠ OB; omega), ?_, Hfo.out.kept.setCell hlow.1 _⟩ (fun V hV => ?_)
        · obtain ⟨k0, k1, k2, k3, k4⟩ := Hd.out
          have hsl := Hfo.out.own.allnew
          refine ⟨⟨k0, k1, HN8.out, k3, k4⟩, by rw [Hfl.out]; exact Nat.le_refl _, Nat.le_trans hv1 hv2, ?_⟩
          show Sl ifT _ _ Av (fillIfs L).length (fillIfs L)
          rw [Hfl.out]
          refine hsl.keep (fun g hg => ⟨by have := hg.1; omega, by simpa using hg.2, by have := hg.1; omega, by have := hg.1; omega⟩) (fun g o hg => World.cell?_setCell_other _ _ _ _ (fun e => ?_))
          have h1 := congrArg Addr.block e
          have h2 := hg.1
          simp only at h1
          omega
        obtain ⟨hO, hT, hCC, hkV⟩ := hV
        clear lo lt co7 fo7
        have lo := heap_lt hO
        have lt := heap_lt hT
        have oo0 := cell_heap hO (o := 0) rfl
        have oo1 := cell_heap hO (o := 1) rfl
        have oo2 := cell_heap hO (o := 2) rfl
        have oo3 := cell_heap hO (o := 3) rfl
        have oo4 := cell_heap hO (o := 4) rfl
        have oo5 := cell_heap hO (o := 5) rfl
        have oo6 := cell_heap hO (o := 6) rfl
        have oo7 := cell_heap hO (o := 7) rfl
        have fo0 := frozen_heap hO (o := 0)
        have fo1 := frozen_heap hO (o := 1)
        have hsz := fun w' (hk' : Kept V w') => size_any ⟨⟨d0, d1, N, d3, d4, d5, d6⟩, fillIfs L⟩ Av i w' (hCC.keep (fun b hb => Nat.lt_of_lt_of_le hb.2.1 hk'.size) (fun b o hb => hk'.cell (p := ⟨b, o, none⟩) hb.2.1)) (by rw [Hfz.out]; exact hzz)
        simp only [Hfz.out] at hsz
        unfold Cfg.cells CfgD.cells at hsz
        simp only [Hfl.out, List.cons_append, List.nil_append] at hsz
        have hw1 : IntKind.u8.wrap (i : Int) = (i : Int) % 256 := by rw [IntKind.wrap_u8]
        have hw2 : IntKind.u16.wrap (S : Int) = (S : Int) % 65536 := by rw [IntKind.wrap_u16]
        have HO := hide hO
        have HT := hide hT
        have HCC := hide hCC
        have HkV := hide hkV
        clear hO hT hCC hkV
        go_cut [] (fun X => X.heap[OB]? = some (.cells #[.int .u16 ((S : Int) % 65536), .int .u8 ((i : Int) % 256), .int .u8 N, .int .u8 d3, .bool d4, .bool d5, .int .u8 d6, .slice Av i i] 32 (0, 0)) ∧ X.heap[TB]? = some (.cells #[.int .u16 0, .int .u8 0, .int .u8 0, .int .u8 0, .bool false, .bool false, .int .u8 0, .slice none 0 0] 32 (0, 0)) ∧ CfgIs X (fun b => w.heap.size ≤ b ∧ b < X.heap.size ∧ b ≠ OB ∧ b ≠ TB) ⟨⟨(S : Int) % 65536, (i : Int) % 256, N, d3, d4, d5, d6⟩, fillIfs L⟩ Av i ∧ Kept w X)
        case first =>
          go_region_law (go_simp; go_at_call 44; refine (hsz _ (by go_grown)).mono ?_; rintro e w1 ⟨rfl, hkx⟩; have hB1 := hide (heap_kept hkx (by exact HO.out)); have lq1 := heap_lt hB1.out; have cq1 := cell_heap hB1.out (o := 1) rfl; have cq0 := cell_heap hB1.out (o := 0) rfl; have cq7 := cell_heap hB1.out (o := 7) rfl; have fq0 := frozen_heap hB1.out (o := 0); have fq1 := frozen_heap hB1.out (o := 1); have hkz : Kept V w1 := (by first | exact of_drew hkx | exact hkx); dsimp only)
          all_goals go_wp2_with fail
          all_goals
            go_meet
            refine ⟨heap_store (heap_store hB1.out _) _, heap_other (heap_other (heap_kept hkz HT.out) (by show TB ≠ OB; omega)) (by show TB ≠ OB; omega), ?_, (((HkV.out.trans' hkz).setCell hlow.1 _).setCell hlow.1 _)⟩
            obtain ⟨⟨_, _, k2, k3, k4⟩, q1, q2, q3⟩ := HCC.out
            refine ⟨⟨⟨by show (0 : Int) ≤ (S : Int) % 65536; omega, by show (S : Int) % 65536 < 65536; omega⟩, ⟨by show (0 : Int) ≤ (i : Int) % 256; omega, by show (i : Int) % 256 < 256; omega⟩, k2, k3, k4⟩, q1, q2, q3.keep (fun b hb => ⟨hb.1, by rw [World.size_setCell, World.size_setCell]; exact Nat.lt_of_lt_of_le hb.2.1 hkz.size, hb.2.2⟩) (fun b o hb => ?_)⟩
            exact ((World.cell?_setCell_other _ _ _ _ (fun e => hb.2.2.1 (congrArg Addr.block e).symm)).trans (World.cell?_setCell_other _ _ _ _ (fun e => hb.2.2.1 (congrArg Addr.block e).symm))).trans (hkz.cell (p := ⟨b, o, none⟩) hb.2.1)
        case rest =>
          obtain ⟨hOX, hTX, hCX, hkX⟩ := hcut
          rename World => X
          clear oo0 oo1 oo2 oo3 oo4 oo5 oo6 oo7 fo0 fo1 lo lt
          have lo := heap_lt hOX
          have lt := heap_lt hTX
          have ox0 := cell_heap hOX (o := 0) rfl
          have ox1 := cell_heap hOX (o := 1) rfl
          have ox2 := cell_heap hOX (o := 2) rfl
          have ox3 := cell_heap hOX (o := 3) rfl
          have ox4 := cell_heap hOX (o := 4) rfl
          have ox5 := cell_heap hOX (o := 5) rfl
          have ox6 := cell_heap hOX (o := 6) rfl
          have ox7 := cell_heap hOX (o := 7) rfl
          have HTX := hide hTX
          have HkX := hide hkX
          have HCX := hide hCX
          clear hOX hTX hkX hCX
          go_wp2_with (refine wpList_store_row rfl 32 (.tmp 2) (.tmp 96) rfl TB #[.int .u16 ((S : Int) % 65536), .int .u8 ((i : Int) % 256), .int .u8 N, .int .u8 d3, .bool d4, .bool d5, .int .u8 d6, .slice Av i i] (by rfl) (by rfl) 32 _ HTX.out (by kernel_rfl) (by rfl) (by simp [Value.oneCell']) ?_)
          refine bodyPost_ret (results_cell_row rfl _ _ TB 32 #[.int .u16 ((S : Int) % 65536), .int .u8 ((i : Int) % 256), .int .u8 N, .int .u8 d3, .bool d4, .bool d5, .int .u8 d6, .slice Av i i] (0, 0) _ rfl (heap_row HTX.out) Tryd.underlying32 rfl (by kernel_rfl)) rfl ⟨⟨Av, rfl, ?_⟩, below_row HkX.out hlow.2.1 _⟩
          exact HCX.out.keep (fun b hb => ⟨hb.1, by rw [size_setRow]; exact hb.2.1⟩) (fun b o hb => by unfold World.cell?; simp only [show (X.setRow TB #[.int .u16 ((S : Int) % 65536), .int .u8 ((i : Int) % 256), .int .u8 N, .int .u8 d3, .bool d4, .bool d5, .int .u8 d6, .slice Av i i]).heap[b]? = X.heap[b]? by simp [World.setRow, Array.getElem?_modify, Ne.symm hb.2.2.2]])
end Go.Proofs.YtjgncofhobhjdaaDoor
