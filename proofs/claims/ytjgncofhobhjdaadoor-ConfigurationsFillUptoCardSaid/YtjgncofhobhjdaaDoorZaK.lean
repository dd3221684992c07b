/- Parse: the walk. Printed by gen_sz.py. -/
import Derived.Test.YtjgncofhobhjdaaDoorChecked
import Derived.Deep.RegionHeld3
import Derived.Deep.DrawnRows
import Derived.Deep.DeepCutAuto
import Derived.Deep.LoopGhost
import Derived.Outline
import Derived.Handy
import Derived.OwnWalk
import Derived.BigQuiet
import Derived.Deep.RegionLaw
import Derived.Test.YtjgncofhobhjdaaDoorN12
import Derived.Deep.CutBlock
import Derived.Test.YtjgncofhobhjdaaDoorN7
import Derived.Test.YtjgncofhobhjdaaDoorN9
set_option linter.unusedVariables false
set_option linter.unusedSimpArgs false
set_option linter.unusedSectionVars false
namespace Go.Proofs.YtjgncofhobhjdaaDoor
open Go.RowKit
attribute [local go_sem ↓] Go.wp_at_zero Go.wp_at_succ

set_option maxRecDepth 100000 in
set_option maxHeartbeats 16000000 in
theorem parse_any (A : Option Addr) (n c : Nat) (bs : List Int) (w : World) (hnc : n ≤ c) (hc : c ≤ maxLen) (hl : Sl u8T w (low w.heap.size) A n bs) :
    Calls Tryd.prog 16 #[.slice A n c] w (ParsePost w bs) := by
  have hbn : bs.length = n := hl.1
  obtain ⟨i5, hi5, hz0, hz1, hz2⟩ := info_parts info5
  obtain ⟨iE, hiE, hE0, hE1, hE2⟩ := info_parts infoEp
  obtain ⟨iA, hiA, hA0, hA1, hA2⟩ := info_parts infoAlt
  obtain ⟨iI, hiI, hI0, hI1, hI2⟩ := info_parts infoIf
  go_enter Tryd.func16, Tryd.ntmps16
  obtain ⟨Q0, hQ⟩ : ∃ Q0, Q0 = bodyPost Tryd.prog Tryd.f16 (ParsePost w bs) := ⟨_, rfl⟩
  rw [← hQ]
  have HQ := hide hQ
  clear hQ
  let ZQ := bodyPost Tryd.prog Tryd.f16 (ParsePost w bs)
  go_upto_region 1 with (fail)
  refine wp_at (fun V => V.heap[w.heap.size]? = some (.cells #[.int .u16 0, .int .u8 0, .int .u8 0, .int .u8 0, .bool false, .bool false, .int .u8 0, .slice none 0 0] 32 (0, 0)) ∧ Kept w V) ⟨heap_at _ rfl, by go_grown⟩ (fun V hV => ?_)
  obtain ⟨hT, hkV⟩ := hV
  obtain ⟨TB, hTd⟩ : ∃ TB, w.heap.size = TB := ⟨_, rfl⟩
  have hTB : w.heap.size ≤ TB := by omega
  rw [hTd] at hT ⊢
  have lT := heap_lt hT
  have HT := hide hT
  have HkV := hide hkV
  clear hT hkV hTd
  by_cases hbig : 4096 < n
  · have hlim : decide ((4096 : Int) < (n : Int)) = true := decide_eq_true (by omega)
    have Hbn := hide hbn
    clear hbn
    go_wp2_with (refine wpList_store_row rfl 32 (.tmp 2) (.tmp 15) rfl TB #[.int .u16 0, .int .u8 0, .int .u8 0, .int .u8 0, .bool false, .bool false, .int .u8 0, .slice none 0 0] (by rfl) (by rfl) 32 _ HT.out (by kernel_rfl) (by rfl) (by simp [Value.oneCell']) ?_)
    rw [HQ.out]
    refine bodyPost_ret (parseRet (R := TB) rfl rfl (heap_row HT.out)) rfl (ParsePost.long (by rw [Hbn.out]; exact hbig) (below_row HkV.out hTB _))
  · have hlim : decide ((4096 : Int) < (n : Int)) = false := decide_eq_false (by omega)
    have hn4 : bs.length ≤ 4096 := by omega
    cases hdv : divide bs with
    | none =>
      have hno : parseC bs = none := by unfold parseC; rw [hdv]; rfl
      have Hno := hide hno
      have hd := divide_none A n c bs V hnc hc (hl.kept HkV.out) hdv
      clear hno hdv hbn
      go_upto_region 4 with (go_at_call 32; refine hd.mono ?_; rintro e w2 ⟨⟨E, hE, rfl⟩, hk2⟩)
      have hT2 := hide (heap_past (o := .cells #[.slice none 0 0] 85) (heap_kept hk2 HT.out))
      have hkw2 := HkV.out.trans' hk2
      have hEn : (E != 0) = true := by simpa using hE
      clear hE
      go_wp2_with (refine wpList_store_row rfl 32 (.tmp 2) (.tmp 28) rfl TB #[.int .u16 0, .int .u8 0, .int .u8 0, .int .u8 0, .bool false, .bool false, .int .u8 0, .slice none 0 0] (by rfl) (by rfl) 32 _ hT2.out (by kernel_rfl) (by rfl) (by simp [Value.oneCell']) ?_)
      rw [HQ.out]
      refine bodyPost_ret (parseRet (R := TB) rfl rfl (heap_row hT2.out)) rfl (ParsePost.bad Hno.out hn4 (below_row (hkw2.alloc hkw2.size _) hTB _))
    | some l =>
      obtain ⟨hfl, htwo, _⟩ := divide_inv hdv
      have hpc : parseC bs = readS l := by unfold parseC; rw [hdv]; rfl
      have hd := divide_some A n c bs V hnc hc (hl.kept HkV.out) hdv
      clear hdv
      cases l with
      | nil =>
        have hno : parseC bs = none := hpc
        have Hno := hide hno
        clear hno hpc hbn hfl htwo
        go_upto_region 4 with (go_at_call 32; refine hd.mono ?_; rintro e w2 ⟨⟨A', k, rfl, hs2⟩, hk2⟩)
        obtain rfl : k = 0 := hs2.1.symm
        have hT2 := hide (heap_past (o := .cells #[.slice A' 0 0] 85) (heap_kept hk2 HT.out))
        have hkw2 := HkV.out.trans' hk2
        go_wp2_with (refine wpList_store_row rfl 32 (.tmp 2) (.tmp 28) rfl TB #[.int .u16 0, .int .u8 0, .int .u8 0, .int .u8 0, .bool false, .bool false, .int .u8 0, .slice none 0 0] (by rfl) (by rfl) 32 _ hT2.out (by kernel_rfl) (by rfl) (by simp [Value.oneCell']) ?_)
        rw [HQ.out]
        refine bodyPost_ret (parseRet (R := TB) rfl rfl (heap_row hT2.out)) rfl (ParsePost.bad Hno.out hn4 (below_row (hkw2.alloc hkw2.size _) hTB _))
      | cons h r =>
        have hsum : (h :: r).flatten.length ≤ 4096 := by rw [hfl]; exact hn4
        have htw : ∀ p ∈ h :: r, 2 ≤ p.length := fun p hp => (htwo p hp).1
        have Hsum := hide hsum
        have Hpc := hide hpc
        have Htw := hide htw
        clear hpc hbn hfl htwo hsum htw
        go_upto_region 4 with (go_at_call 32; refine hd.mono ?_; rintro e w2 ⟨⟨A', k, rfl, hs2⟩, hk2⟩)
        have hkk : k = r.length + 1 := hs2.1.symm
        have hrl : r.length ≤ r.flatten.length := pieces_len r fun p hp => Htw.out p (List.mem_cons_of_mem _ hp)
        have hkm : k ≤ 5000 := by have h1 := Hsum.out; rw [List.flatten_cons, List.length_append] at h1; omega
        refine wp_at (fun X => RestIs X w2.heap.size (h :: r) A' k k ∧ X.heap[TB]? = some (.cells #[.int .u16 0, .int .u8 0, .int .u8 0, .int .u8 0, .bool false, .bool false, .int .u8 0, .slice none 0 0] 32 (0, 0)) ∧ Kept w X) ⟨⟨heap_at _ rfl, ⟨Nat.le_refl _, by unfold maxLen; omega⟩, hs2.keep (fun b hb => hb.2) (fun b o hb => World.cell?_alloc_lt _ _ _ hb.2), Htw.out⟩, heap_past (heap_kept hk2 HT.out), by have h1 := HkV.out.trans' hk2; exact h1.alloc h1.size _⟩ (fun V2 hV2 => ?_)
        obtain ⟨hR2, hT2, hkw2⟩ := hV2
        obtain ⟨Rb, hRd⟩ : ∃ Rb, w2.heap.size = Rb := ⟨_, rfl⟩
        have hTR : TB < Rb := by have := (heap_lt (heap_kept hk2 HT.out)); omega
        rw [hRd] at hR2 ⊢
        have hk1 : (0 : Int) < (k : Int) := by omega
        have hk0 : ((k : Int) == 0) = false := by simp; omega
        obtain ⟨b, off, A1, m, rfl, hbb, hkr, x0, hm1, hm2, hs1⟩ := hR2.head
        clear hkr
        have lR := heap_lt hR2.box
        have r0 := cell_heap hR2.box (o := 0) rfl
        have lb : b < V2.heap.size := Nat.lt_trans hbb lR
        have HR2 := hide hR2
        have HT2 := hide hT2
        have Hkw2 := hide hkw2
        clear hRd hR2 hT2 hkw2 hd hk2 hs2 HT HkV hrl lT hkk
        go_upto_region 7 with (fail)
        refine wp_at (fun X => X.heap[V2.heap.size]? = some (.cells #[.int .u16 0, .int .u8 0, .int .u8 0, .int .u8 0, .bool false, .bool false, .int .u8 0, .slice none 0 0] 32 (0, 0)) ∧ Kept V2 X) ⟨heap_at _ rfl, by go_grown⟩ (fun V3 hV3 => ?_)
        obtain ⟨hC3, hk3⟩ := hV3
        obtain ⟨CB, hCd⟩ : ∃ CB, V2.heap.size = CB := ⟨_, rfl⟩
        have hRC : Rb < CB := by omega
        rw [hCd] at hC3 ⊢
        have hp1 : Sl u8T V3 (low V3.heap.size) A1 h.length h := hs1.keep (fun g hg => by have h2 : g < Rb := hg; have h3 := hk3.size; show g < V3.heap.size; omega) (fun g o hg => hk3.cell (p := ⟨g, o, none⟩) (Nat.lt_trans hg lR))
        have r0' := (hk3.cell (p := ⟨Rb, 0, none⟩) lR).trans r0
        have x0' := (hk3.cell (p := ⟨b, off, none⟩) lb).trans x0
        have lR3 := Nat.lt_of_lt_of_le lR hk3.size
        have lb3 := Nat.lt_of_lt_of_le lb hk3.size
        have lC3 := heap_lt hC3
        have hkw3 := hide (Hkw2.out.trans' hk3)
        have HR3 := hide (HR2.out.kept hk3)
        have HT3 := hide (heap_kept hk3 HT2.out)
        have HC3 := hide hC3
        have hb8 := hs1.all8
        clear hC3 hCd r0 x0 HR2 HT2 Hkw2 hk3 hs1
        cases hdc : decCfg h with
        | none =>
          have hno : parseC bs = none := by rw [Hpc.out]; unfold readS; simp only [hdc]; rfl
          have Hno := hide hno
          have hcall := decCfg_none_any A1 h.length m h V3 hp1 hdc
          clear hno hdc hb8
          go_upto_region 8 with (go_at_call 33; refine hcall.mono ?_; rintro e w4 ⟨⟨E, rfl, hE⟩, hk4⟩; have hB4 := heap_kept hk4 HC3.out; have l4 := heap_lt hB4; have cc0 := cell_heap hB4 (o := 0) rfl; have cf0 := frozen_heap hB4 (o := 0); have cc1 := cell_heap hB4 (o := 1) rfl; have cf1 := frozen_heap hB4 (o := 1); have cc2 := cell_heap hB4 (o := 2) rfl; have cf2 := frozen_heap hB4 (o := 2); have cc3 := cell_heap hB4 (o := 3) rfl; have cf3 := frozen_heap hB4 (o := 3); have cc4 := cell_heap hB4 (o := 4) rfl; have cf4 := frozen_heap hB4 (o := 4); have cc5 := cell_heap hB4 (o := 5) rfl; have cf5 := frozen_heap hB4 (o := 5); have cc6 := cell_heap hB4 (o := 6) rfl; have cf6 := frozen_heap hB4 (o := 6); have cc7 := cell_heap hB4 (o := 7) rfl; have cf7 := frozen_heap hB4 (o := 7))
          refine wp_at (fun X => X.heap[TB]? = some (.cells #[.int .u16 0, .int .u8 0, .int .u8 0, .int .u8 0, .bool false, .bool false, .int .u8 0, .slice none 0 0] 32 (0, 0)) ∧ Kept w X) ⟨?_, ?_⟩ (fun V5 hV5 => ?_)
          · have hne : TB ≠ CB := by omega
            exact heap_other (heap_other (heap_other (heap_other (heap_other (heap_other (heap_other (heap_kept hk4 HT3.out) hne) hne) hne) hne) hne) hne) hne
          · have hle : w.heap.size ≤ CB := by omega
            exact ((((((((hkw3.out.trans' hk4).setCell (p := ⟨CB, 0, none⟩) hle _).setCell (p := ⟨CB, 1, none⟩) hle _).setCell (p := ⟨CB, 2, none⟩) hle _).setCell (p := ⟨CB, 3, none⟩) hle _).setCell (p := ⟨CB, 4, none⟩) hle _).setCell (p := ⟨CB, 5, none⟩) hle _).setCell (p := ⟨CB, 6, none⟩) hle _)
          obtain ⟨hT5, hk5⟩ := hV5
          have HT5 := hide hT5
          have hEn : (E != 0) = true := by simpa using hE
          clear hE hT5 hk4 hB4 l4 cc0 cf0 cc1 cf1 cc2 cf2 cc3 cf3 cc4 cf4 cc5 cf5 cc6 cf6 cc7 cf7
          go_wp2_with (refine wpList_store_row rfl 32 (.tmp 2) (.tmp 39) rfl TB #[.int .u16 0, .int .u8 0, .int .u8 0, .int .u8 0, .bool false, .bool false, .int .u8 0, .slice none 0 0] (by rfl) (by rfl) 32 _ HT5.out (by kernel_rfl) (by rfl) (by simp [Value.oneCell']) ?_)
          rw [HQ.out]
          refine bodyPost_ret (parseRet (R := TB) rfl rfl (heap_row HT5.out)) rfl (ParsePost.bad Hno.out hn4 (below_row hk5 hTB _))
        | some d =>
          have hZ : parseC bs = endS d (altsS (r.length + 1) r []) := by rw [Hpc.out]; exact readS_cons h r hdc
          have hdo := decCfg_ok hdc hb8
          have hcall := decCfg_some_any A1 h.length m h V3 hp1 d hdc
          obtain ⟨Z, hZ0⟩ : ∃ Z, altsS (r.length + 1) r [] = Z := ⟨_, rfl⟩
          rw [hZ0] at hZ
          have HZ := hide hZ
          have HZ0 := hide hZ0
          have Hdo := hide hdo
          obtain ⟨s3, hs4⟩ : ∃ A2, (∀ W, (Instr.slice 85 (.slice (some ⟨b, off, none⟩) k k) (some (.int .i64 1)) none none).run Tryd.prog W = .ok (.slice A2 (k - 1) (k - 1)) W) ∧ (A2 = some ⟨b, off + 1, none⟩ ∨ k = 1) := by
            obtain ⟨A2, h1, _, h3⟩ := tail_run 85 34 (by kernel_rfl) Tryd.underlying85 Tryd.sizeOf34 b off k k 1 (by omega) (Nat.le_refl _)
            exact ⟨A2, h1, h3⟩
          obtain ⟨hs4, hs5⟩ := hs4
          have Hs5 := hide hs5
          clear hdc hb8 hZ hZ0 hdo hs5
          go_upto_region 8 with (go_at_call 33; refine hcall.mono ?_; rintro e w4 ⟨rfl, hk4⟩; have hB4 := heap_kept hk4 HC3.out; have l4 := heap_lt hB4; have cc0 := cell_heap hB4 (o := 0) rfl; have cf0 := frozen_heap hB4 (o := 0); have cc1 := cell_heap hB4 (o := 1) rfl; have cf1 := frozen_heap hB4 (o := 1); have cc2 := cell_heap hB4 (o := 2) rfl; have cf2 := frozen_heap hB4 (o := 2); have cc3 := cell_heap hB4 (o := 3) rfl; have cf3 := frozen_heap hB4 (o := 3); have cc4 := cell_heap hB4 (o := 4) rfl; have cf4 := frozen_heap hB4 (o := 4); have cc5 := cell_heap hB4 (o := 5) rfl; have cf5 := frozen_heap hB4 (o := 5); have cc6 := cell_heap hB4 (o := 6) rfl; have cf6 := frozen_heap hB4 (o := 6); have cc7 := cell_heap hB4 (o := 7) rfl; have cf7 := frozen_heap hB4 (o := 7))
          refine wp_at (fun X => X.heap[CB]? = some (.cells #[.int .u16 d.total, .int .u8 d.ifs, .int .u8 d.number, .int .u8 d.text, .bool d.self, .bool d.wake, .int .u8 d.power, .slice none 0 0] 32 (0, 0)) ∧ X.heap[TB]? = some (.cells #[.int .u16 0, .int .u8 0, .int .u8 0, .int .u8 0, .bool false, .bool false, .int .u8 0, .slice none 0 0] 32 (0, 0)) ∧ RestIs X Rb (h :: r) (some ⟨b, off, none⟩) k k ∧ Kept w X) ⟨heap_store (heap_store (heap_store (heap_store (heap_store (heap_store (heap_store hB4 _) _) _) _) _) _) _, ?_, ?_, ?_⟩ (fun V5 hV5 => ?_)
          · have hne : TB ≠ CB := by omega
            exact heap_other (heap_other (heap_other (heap_other (heap_other (heap_other (heap_other (heap_kept hk4 HT3.out) hne) hne) hne) hne) hne) hne) hne
          · refine (HR3.out.kept hk4).below ?_
            exact (((((((Below.refl _ _).setCell (p := ⟨CB, 0, none⟩) hRC _).setCell (p := ⟨CB, 1, none⟩) hRC _).setCell (p := ⟨CB, 2, none⟩) hRC _).setCell (p := ⟨CB, 3, none⟩) hRC _).setCell (p := ⟨CB, 4, none⟩) hRC _).setCell (p := ⟨CB, 5, none⟩) hRC _).setCell (p := ⟨CB, 6, none⟩) hRC _
          · have hle : w.heap.size ≤ CB := by omega
            exact ((((((((hkw3.out.trans' hk4).setCell (p := ⟨CB, 0, none⟩) hle _).setCell (p := ⟨CB, 1, none⟩) hle _).setCell (p := ⟨CB, 2, none⟩) hle _).setCell (p := ⟨CB, 3, none⟩) hle _).setCell (p := ⟨CB, 4, none⟩) hle _).setCell (p := ⟨CB, 5, none⟩) hle _).setCell (p := ⟨CB, 6, none⟩) hle _)
          obtain ⟨hC5, hT5, hR5, hk5⟩ := hV5
          have lC5 := heap_lt hC5
          have lR5 := heap_lt hR5.box
          have r0 := cell_heap hR5.box (o := 0) rfl
          have fr0 := frozen_heap hR5.box (o := 0)
          have hC5' := hide hC5
          have hT5' := hide hT5
          have hR5' := hide hR5
          have hk5' := hide hk5
          clear hC5 hT5 hR5 hk5 hk4 hB4 l4 r0' x0' lR3 lb3 lC3 hp1 HR3 HT3 HC3 hkw3 hcall cc0 cf0 cc1 cf1 cc2 cf2 cc3 cf3 cc4 cf4 cc5 cf5 cc6 cf6 cc7 cf7
          go_upto_region 11 with (fail)
          have hst : PI w TB Rb CB d r [] s3 (k - 1) (k - 1) (.slice none 0 0) (CB + 1) [] (V5.setCell ⟨Rb, 0, none⟩ (.slice s3 (k - 1) (k - 1))) := ⟨hR5'.out.pop Hs5.out, AccI.start _ _ (by rw [World.size_setCell]; exact lC5), heap_other hC5'.out (by show CB ≠ Rb; omega), heap_other hT5'.out (by show TB ≠ Rb; omega), hk5'.out.setCell (by show w.heap.size ≤ Rb; omega) _⟩
          refine wp_at (fun X => PI w TB Rb CB d r [] s3 (k - 1) (k - 1) (.slice none 0 0) (CB + 1) [] X) hst (fun V6 hV6 => ?_)
          have HV6 := hide hV6
          clear hst hV6 hs4 Hs5 lC5 lR5 r0 fr0 hC5' hT5' hR5' hk5'
          go_wp2_with fail
          go_loopg [3] (k - 1) (fun g s3 wr => ∃ r L R c V H vals f, PI w TB Rb CB d r L R g c V H vals wr ∧ r.length < f ∧ altsS f r L = Z ∧ sumC L + r.flatten.length ≤ 4096 ∧ L.length * 9 ≤ sumC L)
          case atStart => exact ⟨r, [], s3, k - 1, .slice none 0 0, CB + 1, [], r.length + 1, HV6.out, Nat.lt_succ_self _, HZ0.out, by have h1 := Hsum.out; rw [List.flatten_cons, List.length_append] at h1; show 0 + _ ≤ 4096; omega, by simp [sumC]⟩
          case round =>
            clear HV6 HZ0 hkm hk0 hk1
            obtain ⟨rr, LL, RR, cc, VV, HH, vv, ff, hPI, hrf, hZf, hq1, hq2⟩ := hrel
            obtain ⟨Av, cv, rfl, hv1, hv2⟩ := hPI.acc.row.isSlice
            have hsl := hPI.acc.sl
            have hst := fun w' (hk' : Kept wr w') => stands_any 4 Rb gk cc rr RR w' (hPI.rest.kept hk')
            have HPI := hide hPI
            have HZf := hide hZf
            have hkw := hPI.kept
            have lC := heap_lt hPI.cb
            have lT := heap_lt hPI.tb
            have lR := heap_lt hPI.rest.box
            have hcc := hPI.rest.cap
            unfold maxLen at hcc
            cases hsd : standsS 4 rr with
            | false =>
              rw [hsd] at hst
              have hz : parseC bs = endS d (some (LL, rr)) := by rw [HZ.out, ← HZf.out, alts_stop hsd hrf]
              clear hsd hPI
              cases rr with
              | cons p r2 =>
                have hno : parseC bs = none := by
                  rw [hz]
                  show (if p :: r2 = [] ∧ checkS ⟨d, LL⟩ = 0 then some (fillS ⟨d, LL⟩) else none) = none
                  rw [if_neg (fun h => by cases h.1)]
                have Hno := hide hno
                have hgk : (0 : Int) < (gk : Int) := by have h1 := HPI.out.rest.sl.1; simp at h1; omega
                have r0 := cell_heap HPI.out.rest.box (o := 0) rfl
                clear hno hz
                go_wp2_with (first
                  | (go_at_call 34; refine (hst _ (Below.refl _ _)).mono ?_; rintro e w1 ⟨rfl, rfl⟩)
                  | (refine wpList_store_row rfl 32 (.tmp 2) (.tmp 139) rfl TB #[.int .u16 0, .int .u8 0, .int .u8 0, .int .u8 0, .bool false, .bool false, .int .u8 0, .slice none 0 0] (by rfl) (by rfl) 32 _ HPI.out.tb (by kernel_rfl) (by rfl) (by simp [Value.oneCell']) ?_))
                rw [HQ.out]
                refine bodyPost_ret (parseRet (R := TB) rfl rfl (heap_row HPI.out.tb)) rfl (ParsePost.bad Hno.out hn4 (below_row hkw hTB _))
              | nil =>
                obtain rfl : gk = 0 := HPI.out.rest.sl.1.symm
                have hCI : CfgIs wr (low wr.heap.size) ⟨d, LL⟩ Av cv := ⟨Hdo.out, hv1, hv2, hsl.keep (fun b hb => hb.2) (fun _ _ _ => rfl)⟩
                have hsz : sizeS ⟨d, LL⟩ ≤ 1000000 := by rw [sizeS_eq]; show 9 + sumC LL ≤ _; omega
                have hck := fun w' (hk' : Kept wr w') => check_any ⟨d, LL⟩ Av cv w' (hCI.kept hk') hsz
                have hfi := fun w' (hk' : Kept wr w') => fill_any ⟨d, LL⟩ Av cv w' (hCI.kept hk') hsz (by show LL.length ≤ _; omega)
                obtain ⟨E, hE⟩ : ∃ E, checkS ⟨d, LL⟩ = E := ⟨_, rfl⟩
                have hfl : (fillS ⟨d, LL⟩).ifs.length = LL.length := fill_len ⟨d, LL⟩
                obtain ⟨FF, hFF⟩ : ∃ FF, fillS ⟨d, LL⟩ = FF := ⟨_, rfl⟩
                simp only [hE] at hck
                simp only [hFF] at hfi hfl
                obtain ⟨⟨f0, f1, f2, f3, f4, f5, f6⟩, FL⟩ := FF
                unfold Cfg.cells CfgD.cells at hck hfi
                simp only at hfl
                simp only [hfl, List.cons_append, List.nil_append] at hck hfi
                have r0 := cell_heap HPI.out.rest.box (o := 0) rfl
                have hB := HPI.out.cb
                have cb0 := cell_heap hB (o := 0) rfl
                have cb1 := cell_heap hB (o := 1) rfl
                have cb2 := cell_heap hB (o := 2) rfl
                have cb3 := cell_heap hB (o := 3) rfl
                have cb4 := cell_heap hB (o := 4) rfl
                have cb5 := cell_heap hB (o := 5) rfl
                have cb6 := cell_heap hB (o := 6) rfl
                have cb7 := cell_heap hB (o := 7) rfl
                have HB := hide hB
                have Hfl := hide hfl
                have HFF := hide hFF
                have Hfi := hide hfi
                clear hB hfl hCI hsl hFF hfi
                by_cases h0 : E = 0
                · subst h0
                  have hgo : parseC bs = some (fillS ⟨d, LL⟩) := by
                    rw [hz]
                    show (if ([] : List (List Int)) = [] ∧ checkS ⟨d, LL⟩ = 0 then _ else none) = _
                    rw [if_pos ⟨rfl, hE⟩]
                  have Hgo := hide hgo
                  clear hgo hz hE
                  go_upto_region 35 with (first
                    | (go_at_call 34; refine (hst _ (Below.refl _ _)).mono ?_; rintro e w1 ⟨rfl, rfl⟩)
                    | (go_at_call 19; refine (hck _ (Below.refl _ _)).mono ?_; rintro e w2 ⟨rfl, hk2⟩))
                  have hB2 := heap_kept hk2 HB.out
                  have HT2 := hide (heap_kept hk2 HPI.out.tb)
                  have lB2 := heap_lt hB2
                  have ce0 := cell_heap hB2 (o := 0) rfl
                  have ce1 := cell_heap hB2 (o := 1) rfl
                  have ce2 := cell_heap hB2 (o := 2) rfl
                  have ce3 := cell_heap hB2 (o := 3) rfl
                  have ce4 := cell_heap hB2 (o := 4) rfl
                  have ce5 := cell_heap hB2 (o := 5) rfl
                  have ce6 := cell_heap hB2 (o := 6) rfl
                  have ce7 := cell_heap hB2 (o := 7) rfl
                  have hfc := Hfi.out _ hk2
                  clear hB2
                  go_wp2_with (first
                    | (go_at_call 22; refine hfc.mono ?_; rintro e w9 ⟨⟨A9, rfl, hC9⟩, hk9⟩; have HT9 := hide (heap_kept hk9 HT2.out); have HC9 := hide hC9; clear hC9)
                    | (refine wpList_store_row rfl 32 (.tmp 2) (.tmp 141) rfl TB #[.int .u16 f0, .int .u8 f1, .int .u8 f2, .int .u8 f3, .bool f4, .bool f5, .int .u8 f6, .slice A9 LL.length LL.length] (by rfl) (by rfl) 32 _ HT9.out (by kernel_rfl) (by rfl) (by simp [Value.oneCell']) ?_))
                  have hCz := ParsePost.good (w := w) (w' := w9.setRow TB #[.int .u16 f0, .int .u8 f1, .int .u8 f2, .int .u8 f3, .bool f4, .bool f5, .int .u8 f6, .slice A9 LL.length LL.length]) (A := A9) (n := LL.length) (Hgo.out.trans (congrArg some HFF.out)) Hfl.out (HC9.out.keep (fun b hb => ⟨by have h1 := hk2.size; have h2 := hkw.size; have := hb.1; omega, by rw [size_setRow]; exact hb.2⟩) (fun b o hb => by
                    have hne : b ≠ TB := by have h1 := hk2.size; have := hb.1; omega
                    unfold World.cell?
                    simp only [show (w9.setRow TB #[.int .u16 f0, .int .u8 f1, .int .u8 f2, .int .u8 f3, .bool f4, .bool f5, .int .u8 f6, .slice A9 LL.length LL.length]).heap[b]? = w9.heap[b]? by simp [World.setRow, Array.getElem?_modify, Ne.symm hne]])) (below_row ((hkw.trans' hk2).trans' hk9) hTB _)
                  unfold Cfg.cells CfgD.cells at hCz
                  simp only [Hfl.out, List.cons_append, List.nil_append] at hCz
                  rw [HQ.out]
                  exact bodyPost_ret (parseRet (R := TB) rfl rfl (heap_row HT9.out)) rfl hCz
                · have hno : parseC bs = none := by
                    rw [hz]
                    show (if ([] : List (List Int)) = [] ∧ checkS ⟨d, LL⟩ = 0 then _ else none) = _
                    rw [if_neg (fun h => h0 (hE.symm.trans h.2))]
                  have Hno := hide hno
                  have hne : (E != 0) = true := by simpa using h0
                  clear hno hz hE h0
                  go_wp2_with (first
                    | (go_at_call 34; refine (hst _ (Below.refl _ _)).mono ?_; rintro e w1 ⟨rfl, rfl⟩)
                    | (go_at_call 19; refine (hck _ (Below.refl _ _)).mono ?_; rintro e w2 ⟨rfl, hk2⟩; have HT2 := hide (heap_kept hk2 HPI.out.tb))
                    | (refine wpList_store_row rfl 32 (.tmp 2) (.tmp 139) rfl TB #[.int .u16 0, .int .u8 0, .int .u8 0, .int .u8 0, .bool false, .bool false, .int .u8 0, .slice none 0 0] (by rfl) (by rfl) 32 _ HT2.out (by kernel_rfl) (by rfl) (by simp [Value.oneCell']) ?_))
                  rw [HQ.out]
                  refine bodyPost_ret (parseRet (R := TB) rfl rfl (heap_row HT2.out)) rfl (ParsePost.bad Hno.out hn4 (below_row (hkw.trans' hk2) hTB _))
            | true =>
              rw [hsd] at hst
              cases rr with
              | nil => exact absurd hsd (by decide)
              | cons p r2 =>
                obtain ⟨b, off, A1, m, rfl, hbb, hkr, x0, hm1, hm2, hs1⟩ := HPI.out.rest.head
                obtain ⟨f, rfl⟩ : ∃ f, ff = f + 1 := ⟨ff - 1, by omega⟩
                have hgo := alts_go (n := f) (L := LL) hsd
                rw [HZf.out] at hgo
                have hp8 := hs1.all8
                have r0 := cell_heap HPI.out.rest.box (o := 0) rfl
                have hgk : (0 : Int) < (gk : Int) := by omega
                have lb : b < wr.heap.size := Nat.lt_trans hbb lR
                have hfl : (p :: r2).flatten.length = p.length + r2.flatten.length := by rw [List.flatten_cons, List.length_append]
                rw [hfl] at hq1
                have hrf2 : r2.length < f := by simp only [List.length_cons] at hrf; omega
                have Hgo := hide hgo
                have Hkr := hide hkr
                have Hsl := hide hsl
                clear hgo hkr hPI hsd hfl hrf hsl HZf
                go_upto_region 14 with (go_at_call 34; refine (hst _ (Below.refl _ _)).mono ?_; rintro e w1 ⟨rfl, rfl⟩)
                refine wp_at (fun X => X.heap[wr.heap.size]? = some (.cells #[.int .u8 0, .int .u8 0, .int .u8 0, .int .u8 0, .int .u8 0, .int .u8 0, .int .u8 0, .slice none 0 0, .slice none 0 0] 56 (0, 0)) ∧ Kept wr X) ⟨heap_at _ rfl, by go_grown⟩ (fun V3 hV3 => ?_)
                obtain ⟨hA3, hk3⟩ := hV3
                obtain ⟨AB, hAd⟩ : ∃ AB, wr.heap.size = AB := ⟨_, rfl⟩
                have hCA : CB < AB := by omega
                have hAle : wr.heap.size ≤ AB := by omega
                rw [hAd] at hA3 ⊢
                have hp1 : Sl u8T V3 (low V3.heap.size) A1 p.length p := hs1.keep (fun g hg => by have h2 : g < Rb := hg; have h3 := hk3.size; show g < V3.heap.size; omega) (fun g o hg => hk3.cell (p := ⟨g, o, none⟩) (Nat.lt_trans hg lR))
                have r0' := (hk3.cell (p := ⟨Rb, 0, none⟩) lR).trans r0
                have x0' := (hk3.cell (p := ⟨b, off, none⟩) lb).trans x0
                have lR3 := Nat.lt_of_lt_of_le lR hk3.size
                have lb3 := Nat.lt_of_lt_of_le lb hk3.size
                have lA3 := heap_lt hA3
                have HP3 := hide (HPI.out.keep hk3)
                have HA3 := hide hA3
                have hk3' := hide hk3
                clear hA3 r0 x0 hk3 hs1 hst
                cases hdi : decIf p with
                | none =>
                  have hno : parseC bs = none := by rw [HZ.out, Hgo.out, hdi]; rfl
                  have Hno := hide hno
                  have hcall := decIf_none_any A1 p.length m p V3 hp1 hdi
                  clear hno hdi hp8
                  go_upto_region 15 with (go_at_call 35; refine hcall.mono ?_; rintro e w4 ⟨⟨E, rfl, hE⟩, hk4⟩; have hB4 := heap_kept hk4 HA3.out; have l4 := heap_lt hB4; have cc0 := cell_heap hB4 (o := 0) rfl; have cf0 := frozen_heap hB4 (o := 0); have cc1 := cell_heap hB4 (o := 1) rfl; have cf1 := frozen_heap hB4 (o := 1); have cc2 := cell_heap hB4 (o := 2) rfl; have cf2 := frozen_heap hB4 (o := 2); have cc3 := cell_heap hB4 (o := 3) rfl; have cf3 := frozen_heap hB4 (o := 3); have cc4 := cell_heap hB4 (o := 4) rfl; have cf4 := frozen_heap hB4 (o := 4); have cc5 := cell_heap hB4 (o := 5) rfl; have cf5 := frozen_heap hB4 (o := 5); have cc6 := cell_heap hB4 (o := 6) rfl; have cf6 := frozen_heap hB4 (o := 6); have cc7 := cell_heap hB4 (o := 7) rfl; have cf7 := frozen_heap hB4 (o := 7))
                  refine wp_at (fun X => X.heap[TB]? = some (.cells #[.int .u16 0, .int .u8 0, .int .u8 0, .int .u8 0, .bool false, .bool false, .int .u8 0, .slice none 0 0] 32 (0, 0)) ∧ Kept w X) ⟨?_, ?_⟩ (fun V5 hV5 => ?_)
                  · have hne : TB ≠ AB := by omega
                    exact heap_other (heap_other (heap_other (heap_other (heap_other (heap_other (heap_other (heap_kept hk4 HP3.out.tb) hne) hne) hne) hne) hne) hne) hne
                  · have hle : w.heap.size ≤ AB := by omega
                    exact ((((((((HP3.out.kept.trans' hk4).setCell (p := ⟨AB, 0, none⟩) hle _).setCell (p := ⟨AB, 1, none⟩) hle _).setCell (p := ⟨AB, 2, none⟩) hle _).setCell (p := ⟨AB, 3, none⟩) hle _).setCell (p := ⟨AB, 4, none⟩) hle _).setCell (p := ⟨AB, 5, none⟩) hle _).setCell (p := ⟨AB, 6, none⟩) hle _)
                  obtain ⟨hT5, hk5⟩ := hV5
                  have HT5 := hide hT5
                  have hEn : (E != 0) = true := by simpa using hE
                  clear hE hT5 hk4 hB4 l4 cc0 cf0 cc1 cf1 cc2 cf2 cc3 cf3 cc4 cf4 cc5 cf5 cc6 cf6 cc7 cf7
                  go_wp2_with (refine wpList_store_row rfl 32 (.tmp 2) (.tmp 55) rfl TB #[.int .u16 0, .int .u8 0, .int .u8 0, .int .u8 0, .bool false, .bool false, .int .u8 0, .slice none 0 0] (by rfl) (by rfl) 32 _ HT5.out (by kernel_rfl) (by rfl) (by simp [Value.oneCell']) ?_)
                  rw [HQ.out]
                  refine bodyPost_ret (parseRet (R := TB) rfl rfl (heap_row HT5.out)) rfl (ParsePost.bad Hno.out hn4 (below_row hk5 hTB _))
                | some fd =>
                  rw [hdi] at Hgo
                  obtain ⟨hfo, hp9⟩ := decIf_ok hdi hp8
                  have hcall := decIf_some_any A1 p.length m p V3 hp1 fd hdi
                  obtain ⟨s3, hs4⟩ : ∃ A2, (∀ W, (Instr.slice 85 (.slice (some ⟨b, off, none⟩) gk cc) (some (.int .i64 1)) none none).run Tryd.prog W = .ok (.slice A2 (gk - 1) (cc - 1)) W) ∧ (A2 = some ⟨b, off + 1, none⟩ ∨ gk = 1) := by
                    obtain ⟨A2, h1, _, h3⟩ := tail_run 85 34 (by kernel_rfl) Tryd.underlying85 Tryd.sizeOf34 b off gk cc 1 (by omega) hcc.1
                    exact ⟨A2, h1, h3⟩
                  obtain ⟨hs4, hs5⟩ := hs4
                  have Hs5 := hide hs5
                  have Hfo := hide hfo
                  have Hgo3 := hide Hgo.out
                  rw [hp9] at hq1
                  clear hdi hp8 hfo hs5 hp9
                  go_upto_region 15 with (go_at_call 35; refine hcall.mono ?_; rintro e w4 ⟨rfl, hk4⟩; have hB4 := heap_kept hk4 HA3.out; have l4 := heap_lt hB4; have cc0 := cell_heap hB4 (o := 0) rfl; have cf0 := frozen_heap hB4 (o := 0); have cc1 := cell_heap hB4 (o := 1) rfl; have cf1 := frozen_heap hB4 (o := 1); have cc2 := cell_heap hB4 (o := 2) rfl; have cf2 := frozen_heap hB4 (o := 2); have cc3 := cell_heap hB4 (o := 3) rfl; have cf3 := frozen_heap hB4 (o := 3); have cc4 := cell_heap hB4 (o := 4) rfl; have cf4 := frozen_heap hB4 (o := 4); have cc5 := cell_heap hB4 (o := 5) rfl; have cf5 := frozen_heap hB4 (o := 5); have cc6 := cell_heap hB4 (o := 6) rfl; have cf6 := frozen_heap hB4 (o := 6); have cc7 := cell_heap hB4 (o := 7) rfl; have cf7 := frozen_heap hB4 (o := 7))
                  refine wp_at (fun X => EB w TB Rb CB AB d fd (.slice Av LL.length cv) (p :: r2) (some ⟨b, off, none⟩) gk cc (.slice none 0 0) [] (.slice none 0 0) [] X ∧ Kept wr X) ⟨⟨?_, ?_, ?_, heap_store (heap_store (heap_store (heap_store (heap_store (heap_store (heap_store hB4 _) _) _) _) _) _) _, Own.nil _ _ _ _, Own.nil _ _ _ _, ?_, ⟨hTB, hTR, hRC, hCA⟩⟩, ?_⟩ (fun V5 hV5 => ?_)
                  · refine (HP3.out.rest.kept hk4).below ?_
                    have hle : Rb + 1 ≤ AB := by omega
                    exact (((((((Below.refl _ _).setCell (p := ⟨AB, 0, none⟩) hle _).setCell (p := ⟨AB, 1, none⟩) hle _).setCell (p := ⟨AB, 2, none⟩) hle _).setCell (p := ⟨AB, 3, none⟩) hle _).setCell (p := ⟨AB, 4, none⟩) hle _).setCell (p := ⟨AB, 5, none⟩) hle _).setCell (p := ⟨AB, 6, none⟩) hle _
                  · have hne : CB ≠ AB := by omega
                    exact heap_other (heap_other (heap_other (heap_other (heap_other (heap_other (heap_other (heap_kept hk4 HP3.out.cb) hne) hne) hne) hne) hne) hne) hne
                  · have hne : TB ≠ AB := by omega
                    exact heap_other (heap_other (heap_other (heap_other (heap_other (heap_other (heap_other (heap_kept hk4 HP3.out.tb) hne) hne) hne) hne) hne) hne) hne
                  · have hle : w.heap.size ≤ AB := by omega
                    exact ((((((((HP3.out.kept.trans' hk4).setCell (p := ⟨AB, 0, none⟩) hle _).setCell (p := ⟨AB, 1, none⟩) hle _).setCell (p := ⟨AB, 2, none⟩) hle _).setCell (p := ⟨AB, 3, none⟩) hle _).setCell (p := ⟨AB, 4, none⟩) hle _).setCell (p := ⟨AB, 5, none⟩) hle _).setCell (p := ⟨AB, 6, none⟩) hle _)
                  · have hle : wr.heap.size ≤ AB := by omega
                    exact ((((((((hk3'.out.trans' hk4).setCell (p := ⟨AB, 0, none⟩) hle _).setCell (p := ⟨AB, 1, none⟩) hle _).setCell (p := ⟨AB, 2, none⟩) hle _).setCell (p := ⟨AB, 3, none⟩) hle _).setCell (p := ⟨AB, 4, none⟩) hle _).setCell (p := ⟨AB, 5, none⟩) hle _).setCell (p := ⟨AB, 6, none⟩) hle _)
                  obtain ⟨hE5, hk5⟩ := hV5
                  have lR5 := heap_lt hE5.rest.box
                  have r0 := cell_heap hE5.rest.box (o := 0) rfl
                  have fr0 := frozen_heap hE5.rest.box (o := 0)
                  have HE5 := hide hE5
                  have hk5' := hide hk5
                  clear hE5 hk5 hk4 hB4 l4 r0' x0' lR3 lb3 lA3 hp1 HA3 HP3 hk3' hcall cc0 cf0 cc1 cf1 cc2 cf2 cc3 cf3 cc4 cf4 cc5 cf5 cc6 cf6 cc7 cf7
                  go_upto_block 2 with (fail)
                  have hst : EB w TB Rb CB AB d fd (.slice Av LL.length cv) r2 s3 (gk - 1) (cc - 1) (.slice none 0 0) [] (.slice none 0 0) [] (V5.setCell ⟨Rb, 0, none⟩ (.slice s3 (gk - 1) (cc - 1))) := HE5.out.pop Hs5.out
                  have hfr0 : From (CB + 1) wr (V5.setCell ⟨Rb, 0, none⟩ (.slice s3 (gk - 1) (cc - 1))) := From.set' _ _ (From.kept hk5'.out) (.inl (by show Rb < CB + 1; omega))
                  refine wp_at (fun X => EB w TB Rb CB AB d fd (.slice Av LL.length cv) r2 s3 (gk - 1) (cc - 1) (.slice none 0 0) [] (.slice none 0 0) [] X ∧ From (CB + 1) wr X) ⟨hst, hfr0⟩ (fun V6 hV6 => ?_)
                  obtain ⟨hE6, hf6⟩ := hV6
                  have HE6 := hide hE6
                  have Hf6 := hide hf6
                  clear hst hfr0 hE6 hf6 hs4 Hs5 lR5 r0 fr0 HE5 hk5'
                  obtain ⟨wo, rfl⟩ : ∃ wo, wo = wr := ⟨_, rfl⟩
                  obtain ⟨go, rfl⟩ : ∃ go, go = gk := ⟨_, rfl⟩
                  go_cut [] (fun wc => ∃ r1 R1 k1 c1 u ex dn, EB w TB Rb CB AB d fd (.slice Av LL.length cv) r1 R1 k1 c1 u ex (.slice none 0 0) [] wc ∧ From (CB + 1) wo wc ∧ extraS r2 = (dn, r1) ∧ ex = dn.flatten ∧ ex.length + r1.flatten.length = r2.flatten.length ∧ k1 ≤ go - 1)
                  case first =>
                    go_wp2_with fail
                    go_loopg [61] (go - 1) (fun g s61 wx => ∃ r1 R1 c1 u ex dn, EB w TB Rb CB AB d fd (.slice Av LL.length cv) r1 R1 g c1 u ex (.slice none 0 0) [] wx ∧ From (CB + 1) wo wx ∧ extraS r2 = (dn ++ (extraS r1).1, (extraS r1).2) ∧ ex = dn.flatten ∧ ex.length + r1.flatten.length = r2.flatten.length ∧ g ≤ go - 1)
                    case atStart => exact ⟨r2, s3, cc - 1, .slice none 0 0, [], [], HE6.out, Hf6.out, rfl, rfl, by simp, Nat.le_refl _⟩
                    case round =>
                      obtain ⟨r1, R1, c1, u, ex, dn, hE, hf, hx1, hx2, hx3, hx4⟩ := hrel
                      obtain ⟨Au, cu, rfl, hu1, hu2⟩ := hE.ou.isSlice
                      have HE := hide hE
                      have Hf := hide hf
                      have Hx1 := hide hx1
                      have Hx2 := hide hx2
                      have lR := heap_lt hE.rest.box
                      have lA := heap_lt hE.ab
                      have a7 := cell_heap hE.ab (o := 7) rfl
                      have a8 := cell_heap hE.ab (o := 8) rfl
                      have fa7 := frozen_heap hE.ab (o := 7)
                      have r0 := cell_heap hE.rest.box (o := 0) rfl
                      have fr0 := frozen_heap hE.rest.box (o := 0)
                      have hcc1 := hE.rest.cap
                      unfold maxLen at hcc1
                      obtain ⟨sb, hsb⟩ : ∃ sb : Bool, stopX r1 = sb := ⟨_, rfl⟩
                      cases sb with
                      | false =>
                        cases r1 with
                        | nil => cases hsb
                        | cons p1 r3 =>
                          have hsb' : stdS (kindB p1) = false := hsb
                          obtain ⟨b1, off1, A2, m1, rfl, hbb1, hkr1, x1, hm3, hm4, hs2⟩ := hE.rest.head
                          have lb1 : b1 < wr.heap.size := Nat.lt_trans hbb1 lR
                          have htwo := hE.rest.two p1 (List.mem_cons_self ..)
                          have hs2' : Sl u8T wr (low wr.heap.size) A2 p1.length p1 := hs2.keep (fun g hg => Nat.lt_trans hg lR) (fun _ _ _ => rfl)
                          obtain ⟨b2, off2, rfl, hb2, hcell⟩ := sl_bytes hs2' (by omega)
                          have y1 := hcell 1 (by omega)
                          have hk8 := sl_byte8 hs2 1
                          have hkb : kindB p1 = byteAt p1 1 := rfl
                          rw [hkb] at hsb'
                          obtain ⟨z, hz⟩ : ∃ z, byteAt p1 1 = z := ⟨_, rfl⟩
                          rw [hz] at y1 hk8 hsb'
                          have hstd := fun w' => std_any z w' hk8
                          rw [hsb'] at hstd
                          have hgk1 : (0 : Int) < (gk : Int) := by omega
                          have hp1n : (1 : Int) < (p1.length : Int) := by omega
                          have hle1 := pieces_len (p1 :: r3) hE.rest.two
                          have hfl1 : (p1 :: r3).flatten.length = p1.length + r3.flatten.length := by rw [List.flatten_cons, List.length_append]
                          rw [hfl1] at hx3
                          have hb2R : b2 < Rb := by
                            obtain ⟨_, b3, off3, _, _, e3, h3, _⟩ := hs2.at (k := 0) (by omega)
                            injection e3 with e3
                            injection e3 with e3 _ _
                            subst e3
                            exact h3
                          obtain ⟨A4, hA4, hA5⟩ : ∃ A2, (∀ W, (Instr.slice 85 (.slice (some ⟨b1, off1, none⟩) gk c1) (some (.int .i64 1)) none none).run Tryd.prog W = .ok (.slice A2 (gk - 1) (c1 - 1)) W) ∧ (A2 = some ⟨b1, off1 + 1, none⟩ ∨ gk = 1) := by
                            obtain ⟨A2, h1, _, h3⟩ := tail_run 85 34 (by kernel_rfl) Tryd.underlying85 Tryd.sizeOf34 b1 off1 gk c1 1 (by omega) hcc1.1
                            exact ⟨A2, h1, h3⟩
                          have HA5 := hide hA5
                          have Hs2 := hide hs2
                          have Hkr1 := hide hkr1
                          have Hsb := hide hsb
                          have exl : ex.length ≤ 5000 := by omega
                          have p1l : p1.length ≤ 5000 := by omega
                          clear hcell hkb hsb hsb' hz hfl1 hle1 hA5 hs2 hs2' hkr1 hx1 hx2
                          go_upto_region 19 with (go_at_call 36; refine (hstd _).mono ?_; rintro e w1 ⟨rfl, hk1⟩)
                          have hEk := HE.out.keep hk1
                          have hfk := From.kept' _ Hf.out hk1
                          have hs2k := (Hs2.out.keep (F' := fun g => g < Rb) (fun _ hg => hg) (fun g o hg => hk1.cell (p := ⟨g, o, none⟩) (Nat.lt_trans hg lR)) : Sl u8T w1 (fun g => g < Rb) _ _ _)
                          have lR1 := heap_lt hEk.rest.box
                          have lA1 := heap_lt hEk.ab
                          have e7 := cell_heap hEk.ab (o := 7) rfl
                          have fe7 := frozen_heap hEk.ab (o := 7)
                          have e0 := cell_heap hEk.rest.box (o := 0) rfl
                          have fe0 := frozen_heap hEk.rest.box (o := 0)
                          have x2 := (hk1.cell (p := ⟨b1, off1, none⟩) lb1).trans x1
                          have lb2 := Nat.lt_of_lt_of_le lb1 hk1.size
                          have HEk := hide hEk
                          have Hfk := hide hfk
                          have Hs2k := hide hs2k
                          clear hE hf hEk hfk hs2k HE Hf a7 a8 fa7 r0 fr0 x1 lb1 y1 lR lA hstd hk1
                          rw [HQ.out]
                          go_region_law (refine step_append_sl (T := u8T) rfl (.tmp 71) (.tmp 74) 34 rfl (AB + 1) 5 i5 _ 1 Tryd.underlying34 hi5 hz0 hz1 hz2 rfl (by decide) _ ex.length ex (by rfl) (by exact HEk.out.ou.kept (by go_grown)) (some ⟨b2, off2, none⟩) p1.length m1 p1 (by rfl) (by exact Hs2k.out.keep (fun g hg => ⟨by have h1 : g < Rb := hg; have h2 := lR1; show g < w1.heap.size; omega, fun e => by have h1 : g < Rb := hg; have h2 := (HEk.out.ou.lt e).1; have h3 := HEk.out.low; omega⟩) (fun _ _ _ => rfl)) (by_one8 _ _) (by unfold maxLen; omega) (by omega) (by simp; omega) ?_; intro v7 w7 hown7 hg7 hb7 hat7; obtain ⟨A7, c7, rfl, h71, h72⟩ := hown7.isSlice; have hab7 := heap_below hb7 (by exact HEk.out.ab) (Nat.lt_succ_self AB); have hr7 := heap_below hb7 (by exact HEk.out.rest.box) (by have := HEk.out.low; omega); have la7 := heap_lt hab7; have lr7 := heap_lt hr7; have ca7 := cell_heap hab7 (o := 7) rfl; have f7 := frozen_heap hab7 (o := 7); have cr7 := cell_heap hr7 (o := 0) rfl; have frr7 := frozen_heap hr7 (o := 0))
                          all_goals
                            rw [← HQ.out]
                            have hE9 := (HEk.out.keep (show Kept w1 _ from by go_grown)).addX (ex' := ex ++ p1) hg7 (by rw [List.length_append]; exact hown7)
                            have hf9 := From.set' (p := ⟨AB, 7, none⟩) (.slice A7 (ex.length + p1.length) c7) _ (From.grown hg7 _ (From.kept' _ Hfk.out (show Kept w1 _ from by go_grown)) (fun b e => by have := (HEk.out.ou.lt e).1; omega)) (.inr hAle)
                            have HE9 := hide hE9
                            have Hf9 := hide hf9
                            clear hE9 hf9 hown7 hg7 hb7 hat7
                            go_wp2_with fail
                            go_roundg (gk - 1)
                            case measure => omega
                            case rel =>
                              refine ⟨r3, A4, c1 - 1, _, ex ++ p1, dn ++ [p1], HE9.out.pop HA5.out, From.set' _ _ Hf9.out (.inl (by show Rb < CB + 1; omega)), ?_, ?_, ?_, by omega⟩
                              · rw [Hx1.out, extra_go (show stdS (kindB p1) = false from Hsb.out), List.append_assoc]; rfl
                              · rw [Hx2.out, List.flatten_append]; simp
                              · rw [List.length_append]; omega
                      | true =>
                        have hxs : extraS r1 = ([], r1) := extra_stop (fun p q e => by subst e; exact hsb)
                        rw [hxs] at hx1
                        simp only [List.append_nil] at hx1
                        have Hx3 := hide hx1
                        cases r1 with
                        | nil =>
                          obtain rfl : gk = 0 := hE.rest.sl.1.symm
                          clear hE hf hx1 hx2 hxs hsb
                          go_wp2_with fail
                          go_meet
                          exact ⟨[], R1, 0, c1, _, ex, dn, HE.out, Hf.out, Hx3.out, Hx2.out, hx3, hx4⟩
                        | cons p1 r3 =>
                          have hsb' : stdS (kindB p1) = true := hsb
                          obtain ⟨b1, off1, A2, m1, rfl, hbb1, hkr1, x1, hm3, hm4, hs2⟩ := hE.rest.head
                          have lb1 : b1 < wr.heap.size := Nat.lt_trans hbb1 lR
                          have htwo := hE.rest.two p1 (List.mem_cons_self ..)
                          have hs2' : Sl u8T wr (low wr.heap.size) A2 p1.length p1 := hs2.keep (fun g hg => Nat.lt_trans hg lR) (fun _ _ _ => rfl)
                          obtain ⟨b2, off2, rfl, hb2, hcell⟩ := sl_bytes hs2' (by omega)
                          have y1 := hcell 1 (by omega)
                          have hk8 := sl_byte8 hs2 1
                          have hkb : kindB p1 = byteAt p1 1 := rfl
                          rw [hkb] at hsb'
                          obtain ⟨z, hz⟩ : ∃ z, byteAt p1 1 = z := ⟨_, rfl⟩
                          rw [hz] at y1 hk8 hsb'
                          have hstd := fun w' => std_any z w' hk8
                          rw [hsb'] at hstd
                          have hgk1 : (0 : Int) < (gk : Int) := by omega
                          have hp1n : (1 : Int) < (p1.length : Int) := by omega
                          clear hcell hkb hsb hsb' hz hs2 hs2' hkr1 hx1 hx2 hxs hE hf
                          go_wp2_with (go_at_call 36; refine (hstd _).mono ?_; rintro e w1 ⟨rfl, hk1⟩)
                          go_meet
                          exact ⟨p1 :: r3, some ⟨b1, off1, none⟩, gk, c1, _, ex, dn, HE.out.keep hk1, From.kept' _ Hf.out hk1, Hx3.out, Hx2.out, hx3, hx4⟩
                  case rest =>
                    obtain ⟨r1, R1, k1, c1, u, ex, dn, hE, hf, hx1, hx2, hx3, hx4⟩ := hcut
                    rename World => W1
                    obtain ⟨Au, cu, rfl, hu1, hu2⟩ := hE.ou.isSlice
                    have HE := hide hE
                    have Hf := hide hf
                    have Hx1 := hide hx1
                    have Hx2 := hide hx2
                    have lA0 := heap_lt hE.ab
                    have lC0 := heap_lt hE.cb
                    clear hE hf hx1 hx2 HE6 Hf6
                    go_upto_block 4 with (fail)
                    go_cut [] (fun wc => ∃ r4 R4 k4 c4 v es, EB w TB Rb CB AB d fd (.slice Av LL.length cv) r4 R4 k4 c4 (.slice Au ex.length cu) ex v es wc ∧ From (CB + 1) wo wc ∧ epsS r1 = some (es, r4) ∧ 7 * es.length + r4.flatten.length = r1.flatten.length ∧ k4 ≤ k1)
                    case first =>
                      go_wp2_with fail
                      go_loopg [80] k1 (fun g s80 wx => ∃ r4 R4 c4 v es, EB w TB Rb CB AB d fd (.slice Av LL.length cv) r4 R4 g c4 (.slice Au ex.length cu) ex v es wx ∧ From (CB + 1) wo wx ∧ epsS r1 = (epsS r4).map (fun q => (es ++ q.1, q.2)) ∧ 7 * es.length + r4.flatten.length = r1.flatten.length ∧ g ≤ k1)
                      case atStart => exact ⟨r1, R1, c1, .slice none 0 0, [], HE.out, Hf.out, by cases epsS r1 <;> rfl, by simp, Nat.le_refl _⟩
                      case round =>
                        clear HE Hf
                        obtain ⟨r4, R4, c4, v, es, hE, hf, hy1, hy2, hy3⟩ := hrel
                        obtain ⟨Ae, ce, rfl, he1, he2⟩ := hE.oe.isSlice
                        have hst := fun w' (hk' : Kept wr w') => stands_any 5 Rb gk c4 r4 R4 w' (hE.rest.kept hk')
                        have HE := hide hE
                        have Hf := hide hf
                        have Hy1 := hide hy1
                        have lR := heap_lt hE.rest.box
                        have lA := heap_lt hE.ab
                        have hcc1 := hE.rest.cap
                        unfold maxLen at hcc1
                        cases hsd : standsS 5 r4 with
                        | false =>
                          rw [hsd] at hst
                          have hz : epsS r1 = some (es, r4) := by rw [hy1, eps_stop hsd]; simp
                          have Hz := hide hz
                          clear hz hsd hy1 hE hf
                          go_wp2_with (go_at_call 34; refine (hst _ (Below.refl _ _)).mono ?_; rintro e w1 ⟨rfl, rfl⟩)
                          go_meet
                          exact ⟨r4, R4, gk, c4, _, es, HE.out, Hf.out, Hz.out, hy2, hy3⟩
                        | true =>
                          rw [hsd] at hst
                          cases r4 with
                          | nil => exact absurd hsd (by decide)
                          | cons p1 r5 =>
                            obtain ⟨b1, off1, A2, m1, rfl, hbb1, hkr1, x1, hm3, hm4, hs2⟩ := hE.rest.head
                            have lb1 : b1 < wr.heap.size := Nat.lt_trans hbb1 lR
                            have r0 := cell_heap hE.rest.box (o := 0) rfl
                            have hp8 := hs2.all8
                            have hgk1 : (0 : Int) < (gk : Int) := by omega
                            have hgo := eps_go hsd
                            have hfl1 : (p1 :: r5).flatten.length = p1.length + r5.flatten.length := by rw [List.flatten_cons, List.length_append]
                            rw [hfl1] at hy2
                            have hp1 : Sl u8T wr (low wr.heap.size) A2 p1.length p1 := hs2.keep (fun g hg => Nat.lt_trans hg lR) (fun _ _ _ => rfl)
                            have Hgo := hide hgo
                            have Hkr1 := hide hkr1
                            clear hgo hfl1 hkr1 hsd hy1 hE hf hs2
                            cases hdi : decEp p1 with
                            | none =>
                              have hno : parseC bs = none := by
                                rw [HZ.out, Hgo3.out]
                                show endS d ((epsS (extraS r2).2).bind _) = none
                                rw [Hx1.out, Hy1.out, Hgo.out, hdi]
                                rfl
                              have Hno := hide hno
                              have hcall := decEp_none_any A2 p1.length m1 p1 wr hp1 hdi
                              clear hno hdi hp8
                              go_upto_region 23 with (first
                                | (go_at_call 34; refine (hst _ (Below.refl _ _)).mono ?_; rintro e w1 ⟨rfl, rfl⟩)
                                | (go_at_call 37; refine hcall.mono ?_; rintro e w4 ⟨⟨E, rfl, hE4⟩, hk4⟩))
                              refine wp_at (fun X => X.heap[TB]? = some (.cells #[.int .u16 0, .int .u8 0, .int .u8 0, .int .u8 0, .bool false, .bool false, .int .u8 0, .slice none 0 0] 32 (0, 0)) ∧ Kept w X) ⟨heap_past (heap_kept hk4 HE.out.tb), by have h1 := HE.out.kept.trans' hk4; exact h1.alloc h1.size _⟩ (fun V5 hV5 => ?_)
                              obtain ⟨hT5, hk5⟩ := hV5
                              have HT5 := hide hT5
                              have hEn : (E != 0) = true := by simpa using hE4
                              clear hE4 hT5 hk4
                              go_wp2_with (refine wpList_store_row rfl 32 (.tmp 2) (.tmp 90) rfl TB #[.int .u16 0, .int .u8 0, .int .u8 0, .int .u8 0, .bool false, .bool false, .int .u8 0, .slice none 0 0] (by rfl) (by rfl) 32 _ HT5.out (by kernel_rfl) (by rfl) (by simp [Value.oneCell']) ?_)
                              rw [HQ.out]
                              refine bodyPost_ret (parseRet (R := TB) rfl rfl (heap_row HT5.out)) rfl (ParsePost.bad Hno.out hn4 (below_row hk5 hTB _))
                            | some x =>
                              rw [hdi] at Hgo
                              obtain ⟨hxo, hp7⟩ := decEp_ok hdi hp8
                              have hcall := decEp_some_any A2 p1.length m1 p1 wr hp1 x hdi
                              obtain ⟨A4, hA4, hA5⟩ : ∃ A2, (∀ W, (Instr.slice 85 (.slice (some ⟨b1, off1, none⟩) gk c4) (some (.int .i64 1)) none none).run Tryd.prog W = .ok (.slice A2 (gk - 1) (c4 - 1)) W) ∧ (A2 = some ⟨b1, off1 + 1, none⟩ ∨ gk = 1) := by
                                obtain ⟨A2, h1, _, h3⟩ := tail_run 85 34 (by kernel_rfl) Tryd.underlying85 Tryd.sizeOf34 b1 off1 gk c4 1 (by omega) hcc1.1
                                exact ⟨A2, h1, h3⟩
                              have HA5 := hide hA5
                              have Hxo := hide hxo
                              have Hgo2 := hide Hgo.out
                              rw [hp7] at hy2
                              have hesl : es.length ≤ 5000 := by omega
                              clear hdi hp8 hA5 hxo hp7 Hgo
                              go_upto_region 23 with (first
                                | (go_at_call 34; refine (hst _ (Below.refl _ _)).mono ?_; rintro e w1 ⟨rfl, rfl⟩)
                                | (go_at_call 37; refine hcall.mono ?_; rintro e w4 ⟨rfl, hk4⟩))
                              refine wp_at (fun X => ∃ EPB, X.heap[EPB]? = some (.cells #[.int .u8 x.num, .bool x.inn, .int .u8 x.kind, .int .u16 x.max, .int .u8 x.ivl] 59 (0, 0)) ∧ EPB = w4.heap.size ∧ Kept wr X) ⟨_, heap_at _ rfl, rfl, by exact hk4.alloc hk4.size _⟩ (fun V5 hV5 => ?_)
                              obtain ⟨EPB, hB5, hEPd, hk5⟩ := hV5
                              rw [← hEPd]
                              have hEk := HE.out.keep hk5
                              have hfk := From.kept' _ Hf.out hk5
                              have lB5 := heap_lt hB5
                              have z0 := cell_heap hB5 (o := 0) rfl
                              have z1 := cell_heap hB5 (o := 1) rfl
                              have z2 := cell_heap hB5 (o := 2) rfl
                              have z3 := cell_heap hB5 (o := 3) rfl
                              have z4 := cell_heap hB5 (o := 4) rfl
                              have lA5 := heap_lt hEk.ab
                              have lR5 := heap_lt hEk.rest.box
                              have a8 := cell_heap hEk.ab (o := 8) rfl
                              have lA1 : AB + 1 ≤ V5.heap.size := lA5
                              have HEk := hide hEk
                              have Hfk := hide hfk
                              clear hB5 hEPd hEk hfk hk5 hk4 r0 x1 lb1 hp1 lR lA HE Hf hst hcall
                              go_upto_region 26 with (at_builtin; refine wpList_append_el (T := epT) rfl (.tmp 92) (.tmp 94) 54 rfl (AB + 1) 59 iE _ 8 Tryd.underlying54 hiE hE0 hE1 hE2 rfl (by exact (by decide : 0 < 5)) _ es.length es (by rfl) (HEk.out.oe.alloc _) V5.heap.size _ _ x (by rfl) (heap_at _ rfl) (by exact ⟨rfl, Hxo.out⟩) (by simp [Value.oneCell']) (by unfold maxLen; omega) (by omega) (by simp; omega) ?_; intro g9 cap9 w9 hown9 hg9 hb9 hat9 hlt9; have hab9 := heap_below hb9 (heap_past HEk.out.ab) (Nat.lt_succ_self AB); have hr9 := heap_below hb9 (heap_past HEk.out.rest.box) (by have := HEk.out.low; omega); have la9 := heap_lt hab9; have lr9 := heap_lt hr9; have ca9 := cell_heap hab9 (o := 8) rfl; have f9 := frozen_heap hab9 (o := 8); have cr9 := cell_heap hr9 (o := 0) rfl; have frr9 := frozen_heap hr9 (o := 0))
                              have hE9 := (HEk.out.keep ((Below.refl _ _).alloc (Nat.le_refl _) _)).addE (es' := es ++ [x]) hg9 (by rw [List.length_append]; exact hown9)
                              have hf9 := From.set' (p := ⟨AB, 8, none⟩) (.slice (some ⟨g9, 0, none⟩) (es.length + 1) cap9) _ (From.grown hg9 _ (From.kept' _ Hfk.out ((Below.refl _ _).alloc (Nat.le_refl _) _)) (fun b e => by have := (HEk.out.oe.lt e).1; omega)) (.inr hAle)
                              have HE9 := hide hE9
                              have Hf9 := hide hf9
                              clear hE9 hf9 hown9 hg9 hb9 hat9 hlt9
                              go_wp2_with fail
                              go_roundg (gk - 1)
                              case measure => omega
                              case rel =>
                                refine ⟨r5, A4, c4 - 1, _, es ++ [x], HE9.out.pop HA5.out, From.set' _ _ Hf9.out (.inl (by show Rb < CB + 1; omega)), ?_, ?_, by omega⟩
                                · rw [Hy1.out, Hgo2.out]
                                  cases epsS r5 with
                                  | none => rfl
                                  | some q => simp
                                · rw [List.length_append, List.length_singleton]; omega
                    case rest =>
                      obtain ⟨r4, R4, k4, c4, v, es, hE, hf, hy1, hy2, hy3⟩ := hcut
                      rename World => W2
                      obtain ⟨Ae, ce, rfl, he1, he2⟩ := hE.oe.isSlice
                      have hzz : Z = if (if fd.alt = 0 then LL ++ [[]] else LL) = [] then none else altsS f r4 (addLast (if fd.alt = 0 then LL ++ [[]] else LL) ⟨fd, ex, es⟩) := by
                        rw [Hgo3.out, Hx2.out]
                        show ((epsS (extraS r2).2).bind _) = _
                        rw [Hx1.out]
                        show ((epsS r1).bind _) = _
                        rw [hy1]
                        rfl
                      have hacc := HPI.out.acc.from_ hf
                      have hHH : HH ≤ wo.heap.size := HPI.out.acc.low.2
                      have Hzz := hide hzz
                      have HE2 := hide hE
                      have Hacc := hide hacc
                      have Hf2 := hide hf
                      have lA := heap_lt hE.ab
                      have a1 := cell_heap hE.ab (o := 1) rfl
                      have lC2 := heap_lt hE.cb
                      have c7 := cell_heap hE.cb (o := 7) rfl
                      have fc7 := frozen_heap hE.cb (o := 7)
                      have lC2' : CB + 1 ≤ W2.heap.size := lC2
                      have hLb : LL.length ≤ 5000 := by omega
                      clear hzz hE hacc hf hy1 Hf HE Hgo3 Hx1 lA0 lC0
                      go_upto_if 102 with (fail)
                      go_cut [] (fun wc => ∃ V' H' L' vals', (L' = if fd.alt = 0 then LL ++ [[]] else LL) ∧ EB w TB Rb CB AB d fd V' r4 R4 k4 c4 (.slice Au ex.length cu) ex (.slice Ae es.length ce) es wc ∧ AccI wc CB H' V' L' vals' ∧ H' ≤ AB)
                      case first =>
                        by_cases h0 : fd.alt = 0
                        · have hq : (fd.alt == 0) = true := by simpa using h0
                          have H0 := hide h0
                          clear h0
                          go_wp2_with (at_builtin; refine wpList_append_el (T := valT) rfl (.tmp 104) (.tmp 106) 30 rfl (CB + 1) 50 iI _ 24 Tryd.underlying30 hiI hI0 hI1 hI2 rfl (by exact Nat.one_pos) _ LL.length vv (by rfl) (Hacc.out.row.alloc _) W2.heap.size _ _ (.slice none 0 0) (by rfl) (heap_at _ rfl) (by exact ⟨rfl, rfl⟩) (by simp [Value.oneCell']) (by unfold maxLen; omega) (by omega) (by simp; omega) ?_; intro g9 cap9 w9 hown9 hg9 hb9 hat9 hlt9; have hcb9 := heap_below hb9 (heap_past HE2.out.cb) (Nat.lt_succ_self CB); have lc9 := heap_lt hcb9; have cc9 := cell_heap hcb9 (o := 7) rfl; have fc9 := frozen_heap hcb9 (o := 7))
                          go_meet
                          have hk := (show Kept W2 (W2.alloc (.cells #[.slice none 0 0] 50)) from (Below.refl _ _).alloc (Nat.le_refl _) _)
                          refine ⟨_, _, _, _, by rw [if_pos H0.out], (HE2.out.keep hk).setV (Hacc.out.row.alloc _) hg9, ((HPI.out.acc.push (From.kept' _ Hf2.out hk) hg9 hown9 (hat9.elim (fun e => .inl e.symm) (fun e => .inr (by rw [e]; rfl)))).from_ (From.set _ (Nat.lt_succ_self CB))), hAle⟩
                        · have hq : (fd.alt == 0) = false := by simpa using h0
                          have H0 := hide h0
                          clear h0
                          go_wp2_with fail
                          go_meet
                          exact ⟨_, _, _, _, by rw [if_neg H0.out], HE2.out, Hacc.out, Nat.le_trans hHH hAle⟩
                      case rest =>
                        obtain ⟨V', H', L', vals', hL', hE, hacc, hH'⟩ := hcut
                        rename World => W3
                        rw [← hL'] at Hzz
                        obtain ⟨Aw, cw, rfl, hw1, hw2⟩ := hacc.row.isSlice
                        have hL2 : sumC L' = sumC LL ∧ L'.length ≤ LL.length + 1 := by
                          rw [hL']
                          split
                          · rw [sumC_snoc, List.length_append]; exact ⟨rfl, Nat.le_refl _⟩
                          · exact ⟨rfl, Nat.le_succ _⟩
                        have HE3 := hide hE
                        have Hacc3 := hide hacc
                        have HL' := hide hL'
                        have lA := heap_lt hE.ab
                        have lC3 := heap_lt hE.cb
                        have c7 := cell_heap hE.cb (o := 7) rfl
                        have lT3 := heap_lt hE.tb
                        clear hE hacc hL' Hacc Hf2 HE2 a1 lC2 fc7
                        obtain ⟨n', hn'⟩ : ∃ n', L'.length = n' := ⟨_, rfl⟩
                        rw [hn'] at hw1 c7
                        by_cases hnil : L' = []
                        · have hno : parseC bs = none := by rw [HZ.out, Hzz.out, if_pos hnil]; rfl
                          have Hno := hide hno
                          obtain rfl : n' = 0 := by rw [← hn', hnil]; rfl
                          have HT5 := hide HE3.out.tb
                          have hkk5 := HE3.out.kept
                          clear hno hn' hnil HE3 Hacc3 HL' HPI Hzz Hsl
                          go_upto_region 30 with (fail)
                          go_wp2_with (refine wpList_store_row rfl 32 (.tmp 2) (.tmp 113) rfl TB #[.int .u16 0, .int .u8 0, .int .u8 0, .int .u8 0, .bool false, .bool false, .int .u8 0, .slice none 0 0] (by rfl) (by rfl) 32 _ HT5.out (by kernel_rfl) (by rfl) (by simp [Value.oneCell']) ?_)
                          rw [HQ.out]
                          refine bodyPost_ret (parseRet (R := TB) rfl rfl (heap_row HT5.out)) rfl (ParsePost.bad Hno.out hn4 (below_row hkk5 hTB _))
                        · obtain ⟨L0, x0, hLx⟩ := last_of L' hnil
                          subst hLx
                          have hzz := Hzz.out
                          rw [if_neg hnil, addLast_snoc] at hzz
                          have hacc := Hacc3.out
                          rw [hn'] at hacc
                          have hn2 : n' = L0.length + 1 := by rw [← hn', List.length_append]; rfl
                          obtain ⟨g, rfl⟩ : ∃ g, Aw = some ⟨g, 0, none⟩ := by
                            have hro := hacc.row
                            rcases hro.form with ⟨e, h0⟩ | ⟨g, cap, e, _⟩
                            · omega
                            · injection e with e1 _ _; exact ⟨g, e1⟩
                          obtain ⟨nl, hnl⟩ : ∃ nl, L0.length = nl := ⟨_, rfl⟩
                          rw [hnl] at hn2
                          obtain ⟨vl, hvl, hol⟩ := hacc.last x0 (by rw [hn', hn2, Nat.add_sub_cancel, List.getElem?_append_right (by omega), hnl, Nat.sub_self]; rfl)
                          rw [hn', hn2, Nat.add_sub_cancel] at hvl
                          obtain ⟨cg, fg, lg, lCg⟩ := hacc.cell hn' hvl
                          obtain ⟨Al, cl, rfl, hl1, hl2⟩ := hol.isSlice
                          have hapl := rows_apart hol hacc.row (by decide : 56 ≠ 50)
                          have hw : IntKind.i64.wrap ((n' : Int) - 1) = (nl : Int) := by rw [IntKind.wrap_i64]; omega
                          have hnl0 : (0 : Int) ≤ (nl : Int) := by omega
                          have hnln : (nl : Int) < (n' : Int) := by omega
                          have hn0 : ((n' : Int) == 0) = false := by simp; omega
                          have hx0 : x0.length ≤ 5000 := by
                            have h1 := hL2.1
                            rw [sumC_snoc] at h1
                            have h2 := len_le_sumIf x0
                            omega
                          have Hvl := hide hvl
                          have Hol := hide hol
                          have Haccn := hide hacc
                          have Hzn := hide hzz
                          have HnL := hide hn'
                          have Hnl := hide hnl
                          have hH1 : H' ≤ W3.heap.size := hacc.low.2
                          have hH0 : CB + 1 ≤ H' := hacc.low.1
                          have hAB3 := HE3.out.ab
                          have ab0 := cell_heap hAB3 (o := 0) rfl
                          have ab1 := cell_heap hAB3 (o := 1) rfl
                          have ab2 := cell_heap hAB3 (o := 2) rfl
                          have ab3 := cell_heap hAB3 (o := 3) rfl
                          have ab4 := cell_heap hAB3 (o := 4) rfl
                          have ab5 := cell_heap hAB3 (o := 5) rfl
                          have ab6 := cell_heap hAB3 (o := 6) rfl
                          have ab7 := cell_heap hAB3 (o := 7) rfl
                          have ab8 := cell_heap hAB3 (o := 8) rfl
                          have hnv : (Value.slice Al x0.length cl).ownBlock ≠ some g := fun e => by
                            rcases hapl with h | h
                            · rw [h] at e; cases e
                            · exact h e
                          have hrel : ∀ W', Kept W3 W' → (altT.on fun b => H' ≤ b ∧ (Value.slice (some ⟨g, 0, none⟩) n' cw).ownBlock ≠ some b).rel W' (apart W' (.slice Al x0.length cl)) ⟨fd, ex, es⟩ [.int .u8 fd.num, .int .u8 fd.alt, .int .u8 fd.eps, .int .u8 fd.cls, .int .u8 fd.sub, .int .u8 fd.proto, .int .u8 fd.text, .slice Au ex.length cu, .slice Ae es.length ce] := fun W' hk' => by
                            have h1 := rows_apart HE3.out.ou hol (by decide : 5 ≠ 56)
                            have h2 := rows_apart HE3.out.ou hacc.row (by decide : 5 ≠ 50)
                            have h3 := rows_apart HE3.out.oe hol (by decide : 59 ≠ 56)
                            have h4 := rows_apart HE3.out.oe hacc.row (by decide : 59 ≠ 50)
                            refine ⟨Au, cu, Ae, ce, rfl, Hfo.out, hu1, hu2, he1, he2, ?_, ?_⟩
                            · refine (HE3.out.ou.slAt flat_u8).keep (fun b hb => ⟨⟨Nat.lt_of_lt_of_le hb.2.2 hk'.size, fun e => ?_⟩, by have := hb.2.1; omega, fun e => ?_⟩) (fun b o hb => hk'.cell (p := ⟨b, o, none⟩) hb.2.2)
                              · rcases h1 with h | h
                                · rw [h] at hb; cases hb.1
                                · exact h (hb.1.trans e.symm)
                              · rcases h2 with h | h
                                · rw [h] at hb; cases hb.1
                                · exact h (hb.1.trans e.symm)
                            · refine (HE3.out.oe.slAt flat_ep).keep (fun b hb => ⟨⟨Nat.lt_of_lt_of_le hb.2.2 hk'.size, fun e => ?_⟩, by have := hb.2.1; omega, fun e => ?_⟩) (fun b o hb => hk'.cell (p := ⟨b, o, none⟩) hb.2.2)
                              · rcases h3 with h | h
                                · rw [h] at hb; cases hb.1
                                · exact h (hb.1.trans e.symm)
                              · rcases h4 with h | h
                                · rw [h] at hb; cases hb.1
                                · exact h (hb.1.trans e.symm)
                          have hbb2 : ∀ W w', Kept W3 W → Below H' W w' → Below H' W3 w' := fun W w' h1 h2 => (h1.mono hH1 : Below H' W3 W).trans h2
                          have hall : ∀ W w' v', Kept W3 W → W.grownBy w' (Value.slice Al x0.length cl).ownBlock → Own (altT.on fun b => H' ≤ b ∧ (Value.slice (some ⟨g, 0, none⟩) n' cw).ownBlock ≠ some b) 56 H' w' v' (x0.length + 1) (x0 ++ [⟨fd, ex, es⟩]) → n' = L0.length + 1 → nl = L0.length → AccI (w'.setCell ⟨g, nl, none⟩ v') CB H' (.slice (some ⟨g, 0, none⟩) n' cw) (L0 ++ [x0 ++ [⟨fd, ex, es⟩]]) (vals'.set nl v') := fun W w' v' h1 h2 h3 e1 e2 => by
                            subst e1 e2
                            exact (hacc.from_ (From.kept h1)).add (a := ⟨fd, ex, es⟩) hvl (hol.kept h1) h2 h3
                          have Hbb := hide hbb2
                          have Hall := hide hall
                          have Hrel := hide hrel
                          have Hnv := hide hnv
                          clear hvl hol hacc hzz hn' hnl hn2 hapl hnil hrel hnv hAB3 Hacc3 Hzz HL' hbb2 hall
                          go_upto_region 32 with (fail)
                          rw [HQ.out]
                          go_region_law (refine step_append_el (T := altT.on fun b => H' ≤ b ∧ (Value.slice (some ⟨g, 0, none⟩) n' cw).ownBlock ≠ some b) rfl (.tmp 125) (.tmp 127) 48 rfl H' 56 iA _ 56 Tryd.underlying48 hiA hA0 hA1 hA2 rfl (by exact (by decide : 0 < 9)) _ x0.length x0 (by rfl) (by exact Hol.out.kept (by go_grown)) W3.heap.size _ _ ⟨fd, ex, es⟩ (by rfl) (heap_at _ rfl) (Hrel.out _ (by go_grown)) (by simp [Value.oneCell']) (by unfold maxLen; omega) (by omega) (by simp; omega) ?_; intro g9 cap9 w9 hown9 hg9 hb9 hat9 hlt9; have hbk : w9.heap[g]? = W3.heap[g]? := (hg9.block g (by simp; omega) (fun e => Hnv.out e.symm)).trans ((show Kept W3 _ from by go_grown).block g lg); have cg9 := (World.cell?_of_block (a := ⟨g, nl, none⟩) hbk).trans cg; have fg9 := (World.frozen?_of_block (a := ⟨g, nl, none⟩) hbk).trans fg; have lg9 : g < w9.heap.size := Nat.lt_of_lt_of_le lg (Nat.le_trans (show W3.heap.size ≤ _ from (show Kept W3 _ from by go_grown).size) hg9.size))
                          all_goals
                            rw [← HQ.out]
                            have hbW := Hbb.out _ _ (by go_grown) hb9
                            have Hadd := hide (Hall.out _ _ _ (by go_grown) hg9 hown9)
                            have HbW := hide hbW
                            clear hbW hown9 hg9 hb9 hat9 hbk
                            go_wp2_with fail
                            go_roundg k4
                            case measure => omega
                            case rel =>
                              have e2 : nl = L0.length := Hnl.out.symm
                              have e1 : n' = L0.length + 1 := by rw [← HnL.out, List.length_append]; rfl
                              have hadd := Hadd.out e1 e2
                              have hE3 := HE3.out
                              rw [HnL.out] at hE3
                              have hlow := HE3.out.low
                              have hbW := HbW.out
                              have hs1 := hL2.1
                              have hs2 := hL2.2
                              rw [sumC_snoc] at hs1
                              rw [List.length_append, List.length_singleton] at hs2
                              have hr4 : r4.length = k4 := HE3.out.rest.sl.1
                              have hkr := Hkr.out
                              have has : altSize ⟨fd, ex, es⟩ = 9 + ex.length + 7 * es.length := rfl
                              refine ⟨r4, L0 ++ [x0 ++ [⟨fd, ex, es⟩]], R4, c4, .slice (some ⟨g, 0, none⟩) n' cw, H', vals'.set nl (.slice (some ⟨g9, 0, none⟩) (x0.length + 1) cap9), f, ⟨(HE3.out.rest.below (hbW.mono (by omega))).below (Below.setCell (Below.refl _ _) (by show Rb + 1 ≤ g; omega) _), ?_, heap_other (heap_below hbW hE3.cb (by omega)) (by show CB ≠ g; omega), heap_other (heap_below hbW HE3.out.tb (by omega)) (by show TB ≠ g; omega), (HE3.out.kept.trans (hbW.mono (by omega))).setCell (by show w.heap.size ≤ g; omega) _⟩, by omega, Hzn.out.symm, ?_, ?_⟩
                              · exact hadd
                              · rw [sumC_snoc, sumIf_snoc, has]; omega
                              · rw [sumC_snoc, sumIf_snoc, has, List.length_append, List.length_singleton]; omega
end Go.Proofs.YtjgncofhobhjdaaDoor
