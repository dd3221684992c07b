


/- The walk of DriversOne. The plain data reads as rows of bytes, the changes as a list. -/
import Derived.Test.YtgkhenplbljbbaaChecked
import Derived.Deep.RegionHeld3
import Derived.Deep.DrawnRows
import Derived.Deep.DeepCutAuto
import Derived.Deep.LoopGhost
import Derived.Outline
import Derived.Handy
import Derived.Deep.RegionLaw
import Derived.OwnWalk
import Derived.BigQuiet
import Derived.Test.YtgkhenplbljbbaaHx
set_option linter.unusedVariables false
set_option linter.unusedSimpArgs false
set_option linter.unusedSectionVars false
namespace Go.Proofs.Ytgkhenplbljbbaa
open Go.RowKit Go.Maps
attribute [local go_sem ↓] Go.wp_at_zero Go.wp_at_succ

theorem Reg.more {w : World} {X : Nat → Prop} {G m nl : Nat} {l : List Drv} {K : Nat} {S : St} (h : Reg w X G m nl l K S) : Reg w X G m nl l (K + 1) S := by
  obtain ⟨bd, f, h1, h2, h3, h4⟩ := h
  exact ⟨bd, f, h1, h2, h3.mono (Nat.le_succ _), h4⟩
theorem frozen_of_block {w w' : World} {a : Addr} (h : w'.heap[a.block]? = w.heap[a.block]?) : w'.frozen? a = w.frozen? a := by
  unfold World.frozen?
  rw [h]
theorem grown_after {a b c : World} {row : Option Nat} (h : Kept a b) (k : b.grownBy c row) : a.grownBy c row :=
  ⟨k.os.trans h.os, k.tape.trans h.tape, k.output.trans h.output, Nat.le_trans h.size k.size, fun i hi hne => (k.block i (Nat.lt_of_lt_of_le hi h.size) hne).trans (h.block i hi)⟩
theorem cfs_four (x : List Cp) : (cfsOf x).length ≤ 4 := by unfold cfsOf; simp; omega
set_option maxRecDepth 1000000 in
set_option maxHeartbeats 8000000 in
theorem done_walk (A : Option Addr) (n c : Nat) (x : List (List Rp)) (A2 : Option Addr) (an ac : Nat) (acts : List Ac) (w : World) (hn : n ≤ maxLen) (hx : Sl rpT.slice w (low w.heap.size) A n x) (hok : rowsOk x)
    (han : an ≤ maxLen) (hacts : Sl acT w (low w.heap.size) A2 an acts) :
    Calls Try.prog 7 #[.slice A n c, .slice A2 an ac] w fun e w' => e = .returned (.bool true) ∧ Kept w w' := by
  by_cases h30 : 30 < an
  · have h30' : (30 : Int) < (an : Int) := by omega
    go_enter Try.func7, Try.ntmps7
    go_wp2_with (first | (go_at_call 17; refine (lives_any _).mono ?_; rintro e w9 ⟨rfl, hk9⟩))
    go_ret
    exact ⟨rfl, hk9⟩
  have h30' : (an : Int) ≤ 30 := by omega
  have hrl := dOf_rules hok
  have hlen := dOf_len x
  have hck := check_dOf hok
  have hno := dOf_none x
  generalize hl : dOf x = l at *
  have Hl := hide hl
  clear hl
  have Hrl := hide hrl
  have Hno := hide hno
  clear hrl hno
  obtain ⟨i2, hi2, hz20, hz21, hz22⟩ := info_parts info82
  go_enter Try.func7, Try.ntmps7
  go_upto_region 4 with (go_at_call 9; refine (dof_any _ _ _ _ _ hn (by exact hx)).mono ?_; rw [Hl.out]; rintro e w1 ⟨v, rfl, hown, hk1⟩; obtain ⟨Av, cv, rfl, hv1, hv2⟩ := hown.isSlice)
  have hsl := hown.sl
  have Hln := hide hsl.1
  clear hown
  generalize hnl : l.length = nl at *
  have Hnl := hide hnl
  clear hnl
  have hlm : nl ≤ maxLen := by unfold maxLen; omega
  go_upto_region 5 with (go_at_call 22; refine (new_apart _ _ _ l _ hlm (by exact hsl) hck).mono ?_; rintro e w4 ⟨p, bb, m, rfl, hg1, hg2, hg3, hg4, hg5, hg6, hk4⟩)
  go_upto_region 9 with (fail)
  refine wp_at (fun W3 => W3.heap[w4.heap.size]? = some (.cells (Array.replicate 8 (.bool false)) 72 (0, 0)) ∧ W3.heap[w4.heap.size + 1]? = some (.cells (Array.replicate 8 (.slice none 0 0)) 74 (0, 0)) ∧ Kept w4 W3) ⟨heap_past (heap_at _ rfl), heap_at _ (by simp), by go_grown⟩ (fun W hW => ?_)
  obtain ⟨hT, hB, hk3⟩ := hW
  obtain ⟨hLS, hap⟩ := LS.start hg1 hg2 hg4 hg5 hg6 hT hB hk3
  have hk1W : Kept w1 W := hk4.trans' hk3
  have hkW : Kept w W := hk1.trans' hk1W
  have hw1W : w1.heap.size ≤ W.heap.size := hk1W.size
  have hm1 := hg3
  have hk14 := hk4
  clear hT hB hg1 hg2 hg3 hg4 hg5 hg6 hk3 hk4
  have hT1 : w1.heap.size ≤ w4.heap.size := hk14.size
  clear hk14
  generalize w4.heap.size = T at *
  go_wp2_with fail
  go_loopg [10] an (fun g s10 wr => ∃ k : Nat, k + g = an ∧ s10 = .int .i64 k ∧ Kept w1 wr ∧ W.heap.size ≤ wr.heap.size ∧ ∃ vs S, LS wr W.heap.size p m T (T + 1) nl l k vs S (fun n : Nat => bindS l (n : Int) (S n)) (fun n => (S n).isSome))
  case atStart => exact ⟨0, by omega, rfl, hk1W, Nat.le_refl _, _, _, hLS⟩
  case round =>
    obtain ⟨k, hk, rfl, hkr, hWr, vs, S, hst⟩ := hrel
    have Hk := hide hk
    clear hk
    by_cases hlt : k < an
    · have hlt' : (k : Int) < (an : Int) := by omega
      have hk0 : (0 : Int) ≤ (k : Int) := by omega
      obtain ⟨d, b, off, A3, c3, hd, rfl, hb, hbr, hc1, hc2, hda, hdi, hdc, a0, a1, a2, a3, a4, hcp⟩ := ac_at hacts (hk1.trans' hkr) hlt
      clear hd
      obtain ⟨q, hq⟩ : ∃ q : Nat, d.a % 8 = (q : Int) := ⟨(d.a % 8).toNat, by have := hda.1; omega⟩
      have hq8 : q < 8 := by have := hda.1; omega
      have hqt : d.a.tmod 8 = (q : Int) := by rw [Int.tmod_eq_emod_of_nonneg hda.1]; exact hq
      have hqq8 : (q : Int) < 8 := by omega
      have hqq0 : (0 : Int) ≤ (q : Int) := by omega
      go_upto_region 13 with (fail)
      refine wp_at (fun W3 => W3.heap[wr.heap.size]? = some (.cells #[.int .u8 d.a, .bool d.gone, .int .u8 d.ids, .slice A3 d.cfg.length c3, .int .u16 d.cur] 76 (0, 0)) ∧ Kept wr W3) ⟨heap_at _ rfl, by go_grown⟩ (fun W3 hW3 => ?_)
      obtain ⟨HX, hk3⟩ := hW3
      have hst3 := hst.kept hk3
      have hkr3 := hkr.trans' hk3
      have hW3 := Nat.le_trans hWr hk3.size
      clear a0 a1 a2 a3 a4 hst hbr
      have hXX := hWr
      generalize wr.heap.size = XX at *
      have x0 := cell_heap HX (o := 0) rfl
      have x1 := cell_heap HX (o := 1) rfl
      have hxl := heap_lt HX
      cases hgone : d.gone with
      | true =>
        rw [hgone] at x1
        obtain ⟨f0, g0, hTl⟩ := hst3.mem.flag hq8
        obtain ⟨l0, p0, hBl⟩ := hst3.mem.list hq8
        obtain ⟨A4, c4, hv4, _, _⟩ := (hst3.mem.own q hq8).isSlice
        have hso := hst3.mem.own q hq8
        rw [hv4] at l0 hso
        have hso2 := hso.sl
        have hbl5 := bindS_len (n := (q : Int)) (hst3.good q)
        clear hso
        cases hs : S q with
        | none =>
          have hdet := detach_no hst3.reg q (by omega) hs
          have Hcl := hide (fun (w' : World) (hk : Kept W3 w') => LS.cleared hap (hst3.kept hk).mem (hst3.kept hk).reg hst3.good hst3.high hq8 hs (fun _ _ => rfl) (fun _ _ => rfl))
          have hbn : bindS l (q : Int) (S q) = [] := by rw [hs]; rfl
          rw [hbn] at hso2 l0
          rw [hs] at f0
          have f0' : W3.cell? ⟨T, q, none⟩ = some (.bool false) := f0
          clear hst3 hs hbn hbl5 f0 hv4
          go_upto_region 16 with (go_at_call 23; refine hdet.mono ?_; rintro e w5 ⟨rfl, hk5⟩)
          have f1 := (hk5.cell (p := ⟨T, q, none⟩) hTl).trans f0'
          have l1 := (hk5.cell (p := ⟨T + 1, q, none⟩) hBl).trans l0
          have g1 := (hk5.frozen (p := ⟨T, q, none⟩) hTl).trans g0
          have p1 := (hk5.frozen (p := ⟨T + 1, q, none⟩) hBl).trans p0
          have hso5 := hso2.kept hk5
          have hTl5 := Nat.lt_of_lt_of_le hTl hk5.size
          have hBl5 := Nat.lt_of_lt_of_le hBl hk5.size
          clear f0' l0 g0 p0 hso2 hdet hTl hBl x0 x1 hxl HX
          go_upto_region 18 with (go_at_call 24; refine (equal_any none A4 0 c4 [] _ (by decide) (by exact Sl.nil _ _ _ _) (by exact hso5)).mono ?_; rintro e w6 ⟨rfl, hk6⟩)
          have f2 := (hk6.cell (p := ⟨T, q, none⟩) hTl5).trans f1
          have l2 := (hk6.cell (p := ⟨T + 1, q, none⟩) hBl5).trans l1
          have g2 := (hk6.frozen (p := ⟨T, q, none⟩) hTl5).trans g1
          have p2 := (hk6.frozen (p := ⟨T + 1, q, none⟩) hBl5).trans p1
          have hTl6 := Nat.lt_of_lt_of_le hTl5 hk6.size
          have hBl6 := Nat.lt_of_lt_of_le hBl5 hk6.size
          have hTB : T ≠ T + 1 := by omega
          have hTB2 : ¬ T + 1 = T := by omega
          clear f1 l1 g1 p1 hTl5 hBl5
          go_wp2_with fail
          obtain ⟨vs', hl'⟩ := Hcl.out w6 (hk5.trans' hk6)
          have hk16 : Kept w1 w6 := hkr3.trans' (hk5.trans' hk6)
          go_roundg (gk - 1)
          case measure => have := Hk.out; omega
          case rel => exact ⟨k + 1, by have := Hk.out; omega, by go_num, (hk16.setCell hT1 (p := ⟨T, q, none⟩) _).setCell (by have := hT1; show w1.heap.size ≤ T + 1; omega) (p := ⟨T + 1, q, none⟩) _, by have := ((hk5.trans' hk6)).size; simp only [World.size_setCell]; omega, vs', S, ⟨hl'.reg.more, hl'.mem, hl'.good, hl'.high⟩⟩
        | some cc =>
          obtain ⟨cq, cL⟩ := cc
          have hdet := detach_yes hst3.reg hlm (XF_m vs) (XF_g hap hst3.mem) q (by omega) hs (hst3.good q)
          have Hcl := hide (fun (w5 w' : World) (hg5 : W3.grownBy w5 (some m)) (hr5 : Reg w5 (XF m T (T + 1) vs) p m nl l k (upd S q none)) (hk : Kept w5 w') => LS.cleared hap ((hst3.mem.grown hg5 hap.m.1 hap.m.2.1 hap.m.2.2).kept hk) (hr5.kept hk) (good_upd hst3.good (s := none) (fun c e => by cases e)) (fun n hn => by simp [upd]; intro _; exact hst3.high n hn) hq8 (by simp [upd]) (fun n hn => by simp [upd, hn]) (fun n hn => by simp [upd, hn]))
          have hMg := hide (fun (w5 : World) (hg5 : W3.grownBy w5 (some m)) => (hst3.mem.grown hg5 hap.m.1 hap.m.2.1 hap.m.2.2).own q hq8)
          rw [hv4] at hMg
          rw [hs] at f0
          have f0' : W3.cell? ⟨T, q, none⟩ = some (.bool true) := f0
          clear hst3 hs f0 hso2 hv4
          generalize bindS l (q : Int) (S q) = bs at *
          go_upto_region 16 with (go_at_call 23; refine hdet.mono ?_; rintro e w5 ⟨A5, rfl, hs5, hg5, hr5⟩)
          have hb5 := fun b hb hne => hg5.block b hb hne
          have hTm : some T ≠ some m := fun e => hap.m.2.1 (by injection e with e; exact e.symm)
          have hBm : some (T + 1) ≠ some m := fun e => hap.m.2.2 (by injection e with e; exact e.symm)
          have f1 := (World.cell?_of_block (a := ⟨T, q, none⟩) (hb5 T hTl hTm)).trans f0'
          have l1 := (World.cell?_of_block (a := ⟨T + 1, q, none⟩) (hb5 (T + 1) hBl hBm)).trans l0
          have g1 := (frozen_of_block (a := ⟨T, q, none⟩) (hb5 T hTl hTm)).trans g0
          have p1 := (frozen_of_block (a := ⟨T + 1, q, none⟩) (hb5 (T + 1) hBl hBm)).trans p0
          have hso5 := (hMg.out w5 hg5).sl
          have hTl5 := Nat.lt_of_lt_of_le hTl hg5.size
          have hBl5 := Nat.lt_of_lt_of_le hBl hg5.size
          have hk15 := kept_but hkr3 hg5 hm1
          have hW5 := Nat.le_trans hW3 hg5.size
          clear f0' l0 g0 p0 hdet hTl hBl x0 x1 hxl HX hMg hb5 hTm hBm hkr3 hW3
          have hkr3 := hk15
          have hW3 := hW5
          go_upto_region 18 with (go_at_call 24; refine (equal_any A5 A4 _ c4 bs _ (by unfold maxLen; omega) (by exact hs5.keep (fun b hb => hb.2) (fun _ _ _ => rfl)) (by exact hso5)).mono ?_; rintro e w6 ⟨rfl, hk6⟩)
          have f2 := (hk6.cell (p := ⟨T, q, none⟩) hTl5).trans f1
          have l2 := (hk6.cell (p := ⟨T + 1, q, none⟩) hBl5).trans l1
          have g2 := (hk6.frozen (p := ⟨T, q, none⟩) hTl5).trans g1
          have p2 := (hk6.frozen (p := ⟨T + 1, q, none⟩) hBl5).trans p1
          have hTl6 := Nat.lt_of_lt_of_le hTl5 hk6.size
          have hBl6 := Nat.lt_of_lt_of_le hBl5 hk6.size
          have hTB : T ≠ T + 1 := by omega
          have hTB2 : ¬ T + 1 = T := by omega
          clear f1 l1 g1 p1 hTl5 hBl5
          go_wp2_with fail
          obtain ⟨vs', hl'⟩ := Hcl.out w5 w6 hg5 hr5 hk6
          have hk16 : Kept w1 w6 := hkr3.trans' hk6
          go_roundg (gk - 1)
          case measure => have := Hk.out; omega
          case rel => exact ⟨k + 1, by have := Hk.out; omega, by go_num, (hk16.setCell hT1 (p := ⟨T, q, none⟩) _).setCell (by have := hT1; show w1.heap.size ≤ T + 1; omega) (p := ⟨T + 1, q, none⟩) _, by have := hk6.size; simp only [World.size_setCell]; omega, vs', _, ⟨hl'.reg.more, hl'.mem, hl'.good, hl'.high⟩⟩
      | false =>
        rw [hgone] at x1
        rw [hgone] at HX
        have x2 := cell_heap HX (o := 2) rfl
        have x3 := cell_heap HX (o := 3) rfl
        have hct : d.cur.tmod 600 = d.cur % 600 := Int.tmod_eq_emod_of_nonneg hdc.1
        have hcm0 : 0 ≤ d.cur % 600 := Int.emod_nonneg _ (by decide)
        have hcm1 : d.cur % 600 < 600 := Int.emod_lt_of_pos _ (by decide)
        have hcl := cfs_four d.cfg
        have hci := cfsOf_ifs d.cfg
        generalize hcfs : cfsOf d.cfg = cfs at *
        have Hc := hide hcfs
        clear hcfs
        have hr5 := choiceB_len (mtS l (venOf d.ids) (proOf d.ids)) (d.cur % 600) hci
        have hrx := choice_lt l (venOf d.ids) (proOf d.ids) (d.cur % 600) cfs
        clear hci
        obtain ⟨rq, rL, re, hch⟩ : ∃ rq rL re, choiceB (mtS l (venOf d.ids) (proOf d.ids)) (d.cur % 600) cfs = (rq, rL, re) := ⟨_, _, _, rfl⟩
        rw [hch] at hr5 hrx
        dsimp only at hr5 hrx
        have Hch := hide hch
        have Hrx := hide hrx
        clear hch hrx
        have hcpr := hcp.below (hk1.trans' hkr3)
        have hcp3 : Sl cpT W3 (low W3.heap.size) A3 d.cfg.length d.cfg := (hcp.below (hk1.trans' hkr3)).more (Nat.le_trans hk1.size hkr3.size)
        clear hcpr
        go_upto_region 21 with (first
          | (refine wpList_store_row rfl 34 (.tmp 15) (.tmp 89) rfl _ _ (by rfl) (by rfl) 34 _ (by repeat' first | exact heap_at _ (by first | rfl | (simp; done) | (simp; omega)) | exact heap_row (by assumption) | assumption | refine heap_past ?_ | refine heap_drew ?_) (by kernel_rfl) (by rfl) (by simp [Value.oneCell']) ?_)
          | (go_at_call 10; refine (fof_new d.ids (q : Int) A3 _ c3 d.cfg _ hdi.1 hdi.2 (by omega) (by exact hcp3)).mono ?_; rw [Hc.out]; rintro e w5 ⟨Ac, cc, rfl, hq1, hq2, hslc, hk5⟩))
        refine wp_at (fun W6 => W6.heap[w5.heap.size]? = some (.cells #[.int .u8 ((q : Int)), .slice none 0 0, .int .u8 0, .int .u8 0, .int .u8 0, .int .u16 0, .int .u8 0, .int .u8 0, .int .u8 0, .int .u8 0, .int .u16 (venOf d.ids), .int .u16 (proOf d.ids), .int .u16 0, .int .u8 0, .int .u8 0, .int .u8 0, .int .u8 0, .slice Ac cfs.length cc] 34 (0, 0)) ∧ Kept w5 W6) ⟨heap_row (heap_at _ rfl), below_row ((Below.refl _ _).alloc (Nat.le_refl _) _) (Nat.le_refl _) _⟩ (fun W6 hW6 => ?_)
        obtain ⟨HF, hk6⟩ := hW6
        have hk36 := hk5.trans' hk6
        have hst6 := hst3.kept hk36
        have hkr6 := hkr3.trans' hk36
        have hW6 := Nat.le_trans hW3 hk36.size
        have hsc6 : Sl cfT W6 (low W6.heap.size) Ac cfs.length cfs := (hslc.keep (F' := low w5.heap.size) (fun b hb => hb.2) (fun _ _ _ => rfl)).kept hk6
        have hsn6 : Sl cfT W6 (fun b => W.heap.size ≤ b ∧ b < W6.heap.size) Ac cfs.length cfs := hslc.keep (fun b hb => ⟨Nat.le_trans hW3 hb.1, Nat.lt_of_lt_of_le hb.2 hk6.size⟩) (fun b o hb => hk6.cell (p := ⟨b, o, none⟩) hb.2)
        have hFFb : W.heap.size ≤ w5.heap.size := Nat.le_trans hW3 hk5.size
        have hXXb : W.heap.size ≤ XX := hXX
        have HX6 := heap_kept hk36 HX
        clear hst3 hkr3 hW3 hslc hk5 hk6 hk36 HX x0 x1 x2 x3 hxl hcp3 hq1 hq2
        generalize w5.heap.size = FF at *
        generalize hcn : cfs.length = cn at *
        have x4 := cell_heap HX6 (o := 4) rfl
        have hxl := heap_lt HX6
        have hlW := hsl.kept hkr6
        by_cases hq0 : q = 0
        · subst hq0
          go_upto_region 22 with (first
            | (refine wpList_load_row rfl 34 (.tmp 15) rfl FF (by rfl) 34 _ (0, 0) _ (HF) Try.underlying34 rfl (by kernel_rfl) ?_)
            | (go_at_call 25; refine ((attach_zero hst6.reg (venOf d.ids) (proOf d.ids) Ac cn cc (d.cur % 600))).mono ?_; rintro e w7 ⟨rfl, hk7⟩))
          refine wp_at (fun W8 => W8.heap[w7.heap.size]? = some (.cells #[.int .u8 0, .slice none 0 0] 63 (0, 0)) ∧ Kept w7 W8) ⟨heap_at _ rfl, by go_grown⟩ (fun W8 hW8 => ?_)
          obtain ⟨HG, hk8⟩ := hW8
          have hk68 := hk7.trans' hk8
          have HF8 := heap_kept hk68 HF
          have HX8 := heap_kept hk68 HX6
          have hl8 := hlW.kept hk68
          have hsc8 := hsc6.kept hk68
          have x48 := cell_heap HX8 (o := 4) rfl
          have hxl8 := heap_lt HX8
          clear x4 hxl hk7
          generalize w7.heap.size = GG at *
          go_upto_region 23 with (first
            | (refine wpList_load_row rfl 34 (.tmp 15) rfl FF (by rfl) 34 _ (0, 0) _ (HF8) Try.underlying34 rfl (by kernel_rfl) ?_)
            | (go_at_call 20; refine (lchoose_any _ _ _ l _ _ _ _ _ _ cfs _ _ hlm (by exact hl8) Hrl.out hcl (by exact hsc8)).mono ?_; rw [Hch.out]; dsimp only; rintro e w9 ⟨A9, c9, rfl, hs9, hk9⟩))
          refine wp_at (fun W10 => W10.heap[w9.heap.size]? = some (.cells #[.int .u8 rq, .slice A9 rL.length c9] 63 (0, 0)) ∧ Kept w9 W10) ⟨heap_at _ rfl, by go_grown⟩ (fun W10 hW10 => ?_)
          obtain ⟨HI, hk10⟩ := hW10
          have hk610 := (hk68.trans' hk9).trans' hk10
          have hs10 := hs9.kept hk10
          have HG10 := heap_kept hk10 (heap_kept hk9 HG)
          have hst10 := hst6.kept hk610
          have hkr10 := hkr6.trans' hk610
          have hW10 := Nat.le_trans hW6 hk610.size
          clear x48 hxl8 HX8 HF8 hl8 hsc8 hk9 hk10 hk68 hs9 HG
          generalize w9.heap.size = II at *
          have y0 := cell_heap HG10 (o := 0) rfl
          have y1 := cell_heap HG10 (o := 1) rfl
          have hyl := heap_lt HG10
          obtain ⟨f0, g0, hTl⟩ := hst10.mem.flag hq8
          clear f0
          go_wp2_with fail
          go_roundg (gk - 1)
          case measure => have := Hk.out; omega
          case rel => exact ⟨k + 1, by have := Hk.out; omega, by go_num, hkr10, hW10, vs, S, ⟨hst10.reg.more, hst10.mem, hst10.good, hst10.high⟩⟩
        · have hqp : ((q : Int) == 0) = false := by simp; omega
          cases hs : S q with
          | some cc0 =>
            obtain ⟨cq, cL⟩ := cc0
            go_upto_region 22 with (first
              | (refine wpList_load_row rfl 34 (.tmp 15) rfl FF (by rfl) 34 _ (0, 0) _ (HF) Try.underlying34 rfl (by kernel_rfl) ?_)
              | (go_at_call 25; refine ((attach_there hst6.reg q (by omega) (by omega) hs (venOf d.ids) (proOf d.ids) Ac cn cc (d.cur % 600))).mono ?_; rintro e w7 ⟨rfl, hk7⟩))
            refine wp_at (fun W8 => W8.heap[w7.heap.size]? = some (.cells #[.int .u8 0, .slice none 0 0] 63 (0, 0)) ∧ Kept w7 W8) ⟨heap_at _ rfl, by go_grown⟩ (fun W8 hW8 => ?_)
            obtain ⟨HG, hk8⟩ := hW8
            have hk68 := hk7.trans' hk8
            have HF8 := heap_kept hk68 HF
            have HX8 := heap_kept hk68 HX6
            have hl8 := hlW.kept hk68
            have hsc8 := hsc6.kept hk68
            have x48 := cell_heap HX8 (o := 4) rfl
            have hxl8 := heap_lt HX8
            clear x4 hxl hk7
            generalize w7.heap.size = GG at *
            go_upto_region 23 with (first
              | (refine wpList_load_row rfl 34 (.tmp 15) rfl FF (by rfl) 34 _ (0, 0) _ (HF8) Try.underlying34 rfl (by kernel_rfl) ?_)
              | (go_at_call 20; refine (lchoose_any _ _ _ l _ _ _ _ _ _ cfs _ _ hlm (by exact hl8) Hrl.out hcl (by exact hsc8)).mono ?_; rw [Hch.out]; dsimp only; rintro e w9 ⟨A9, c9, rfl, hs9, hk9⟩))
            refine wp_at (fun W10 => W10.heap[w9.heap.size]? = some (.cells #[.int .u8 rq, .slice A9 rL.length c9] 63 (0, 0)) ∧ Kept w9 W10) ⟨heap_at _ rfl, by go_grown⟩ (fun W10 hW10 => ?_)
            obtain ⟨HI, hk10⟩ := hW10
            have hk610 := (hk68.trans' hk9).trans' hk10
            have hs10 := hs9.kept hk10
            have HG10 := heap_kept hk10 (heap_kept hk9 HG)
            have hst10 := hst6.kept hk610
            have hkr10 := hkr6.trans' hk610
            have hW10 := Nat.le_trans hW6 hk610.size
            clear x48 hxl8 HX8 HF8 hl8 hsc8 hk9 hk10 hk68 hs9 HG
            generalize w9.heap.size = II at *
            have y0 := cell_heap HG10 (o := 0) rfl
            have y1 := cell_heap HG10 (o := 1) rfl
            have hyl := heap_lt HG10
            obtain ⟨f0, g0, hTl⟩ := hst10.mem.flag hq8
            rw [hs] at f0
            have f0' : W10.cell? ⟨T, q, none⟩ = some (.bool true) := f0
            clear f0 hs
            go_wp2_with fail
            go_roundg (gk - 1)
            case measure => have := Hk.out; omega
            case rel => exact ⟨k + 1, by have := Hk.out; omega, by go_num, hkr10, hW10, vs, S, ⟨hst10.reg.more, hst10.mem, hst10.good, hst10.high⟩⟩
          | none =>
            have hat := attach_new hst6.reg hlm (by unfold maxLen; omega) Hrl.out hck (XF_m vs) (XF_g hap hst6.mem) (XF_new hst6 hW6 hap) q (by omega) (by omega) hs (venOf d.ids) (proOf d.ids) Ac cn cc cfs (d.cur % 600) hcl (by exact hsc6) rq rL re Hch.out hr5
            by_cases he : re = 0
            · subst he
              have hcon : Calls Try.prog 25 #[.pointer (some ⟨p, 0, none⟩), .agg #[.int .u8 ((q : Int)), .slice none 0 0, .int .u8 0, .int .u8 0, .int .u8 0, .int .u16 0, .int .u8 0, .int .u8 0, .int .u8 0, .int .u8 0, .int .u16 (venOf d.ids), .int .u16 (proOf d.ids), .int .u16 0, .int .u8 0, .int .u8 0, .int .u8 0, .int .u8 0, .slice Ac cn cc], .int .i64 (d.cur % 600)] W6 fun en w' => ∃ A7, en = .returned (.tuple #[.agg #[.int .u8 (rq), .slice A7 rL.length rL.length], .int .i64 (0)]) ∧ Sl i64T w' (fun g => W6.heap.size ≤ g ∧ g < w'.heap.size) A7 rL.length rL ∧ W6.grownBy w' (some m) ∧ Reg w' (XF m T (T + 1) vs) p m nl l (k + 1) (upd S q (some (rq, rL))) :=
                hat.mono (fun en w' h => by
                  rcases h with ⟨h, _⟩ | ⟨_, h⟩
                  · exact absurd rfl h
                  · exact h)
              clear hat
              have hFm : FF ≠ m := by have := hap.m.1; omega
              have hXm : XX ≠ m := by have := hap.m.1; omega
              go_upto_region 22 with (first
                | (refine wpList_load_row rfl 34 (.tmp 15) rfl FF (by rfl) 34 _ (0, 0) _ (HF) Try.underlying34 rfl (by kernel_rfl) ?_)
                | (go_at_call 25; refine hcon.mono ?_; rintro e w7 ⟨A7, rfl, hs7, hg7, hr7⟩))
              refine wp_at (fun W8 => W8.heap[w7.heap.size]? = some (.cells #[.int .u8 rq, .slice A7 rL.length rL.length] 63 (0, 0)) ∧ Kept w7 W8) ⟨heap_at _ rfl, by go_grown⟩ (fun W8 hW8 => ?_)
              obtain ⟨HG, hk8⟩ := hW8
              have HF8 := heap_kept hk8 (heap_but hg7 HF hFm)
              have HX8 := heap_kept hk8 (heap_but hg7 HX6 hXm)
              have hkr7 := kept_but hkr6 hg7 hm1
              have hkr8 := hkr7.trans' hk8
              have hl8 := hsl.kept hkr8
              have hsc8 := (Sl.keep (F' := low w7.heap.size) hsn6 (fun b hb => Nat.lt_of_lt_of_le hb.2 hg7.size) (fun b o hb => World.cell?_of_block (a := ⟨b, o, none⟩) (hg7.block b hb.2 (fun e => by injection e with e; have := hb.1; have := hap.m.1; omega)))).kept hk8
              have hM8 := (hst6.mem.grown hg7 hap.m.1 hap.m.2.1 hap.m.2.2).kept hk8
              have hr8 := hr7.kept hk8
              have hob := hide (show ∀ g : Nat, (vs q).ownBlock = some g → g < W8.heap.size from fun g hg => ((hM8.own q hq8).lt hg).2)
              have hs8 := (hs7.keep (F' := low w7.heap.size) (fun b hb => hb.2) (fun _ _ _ => rfl)).kept hk8
              have hW8 := Nat.le_trans (Nat.le_trans hW6 hg7.size) hk8.size
              have hgd := hst6.good
              have hhi := hst6.high
              have x48 := cell_heap HX8 (o := 4) rfl
              have hxl8 := heap_lt HX8
              clear x4 hxl hst6 hkr6 hg7 hr7 hs7 hkr7 hk8 HF HX6 hlW hsc6 hsn6 hW6
              generalize w7.heap.size = GG at *
              go_upto_region 23 with (first
                | (refine wpList_load_row rfl 34 (.tmp 15) rfl FF (by rfl) 34 _ (0, 0) _ (HF8) Try.underlying34 rfl (by kernel_rfl) ?_)
                | (go_at_call 20; refine (lchoose_new _ _ _ l _ _ _ _ _ _ cfs _ _ hlm (by exact hl8) Hrl.out hcl (by exact hsc8)).mono ?_; rw [Hch.out]; dsimp only; rintro e w9 ⟨A9, c9, rfl, hs9, hk9⟩))
              refine wp_at (fun W10 => W10.heap[w9.heap.size]? = some (.cells #[.int .u8 rq, .slice A9 rL.length c9] 63 (0, 0)) ∧ Kept w9 W10) ⟨heap_at _ rfl, by go_grown⟩ (fun W10 hW10 => ?_)
              obtain ⟨HI, hk10⟩ := hW10
              have hk810 := hk9.trans' hk10
              have hs10 : Sl i64T W10 (fun b => W8.heap.size ≤ b ∧ b < W10.heap.size) A9 rL.length rL := hs9.keep (fun b hb => ⟨hb.1, Nat.lt_of_lt_of_le hb.2 hk10.size⟩) (fun b o hb => hk10.cell (p := ⟨b, o, none⟩) hb.2)
              have hs810 := hs8.kept hk810
              have HG10 := heap_kept hk810 HG
              have hM10 := hM8.kept hk810
              have hr10 := hr8.kept hk810
              have hkr10 := hkr8.trans' hk810
              have hW10 := Nat.le_trans hW8 hk810.size
              have hIIb : W8.heap.size ≤ w9.heap.size := hk9.size
              have hM8T := (hM8.flag hq8).2.2
              have hM8B := (hM8.list hq8).2.2
              clear x48 hxl8 HX8 HF8 hl8 hsc8 hk9 hk10 hs9 HG hs8 hM8 hr8 hkr8 hk810
              generalize w9.heap.size = II at *
              have y0 := cell_heap HG10 (o := 0) rfl
              have y1 := cell_heap HG10 (o := 1) rfl
              have hyl := heap_lt HG10
              have z0 := cell_heap HI (o := 0) rfl
              have z1 := cell_heap HI (o := 1) rfl
              have hzl := heap_lt HI
              obtain ⟨f0, g0, hTl⟩ := hM10.flag hq8
              rw [hs] at f0
              have f0' : W10.cell? ⟨T, q, none⟩ = some (.bool false) := f0
              clear f0
              have hso10 : Sl i64T W10 (low W10.heap.size) A9 rL.length rL := hs10.keep (fun b hb => hb.2) (fun _ _ _ => rfl)
              go_upto_region 30 with (go_at_call 21; refine (same_any _ _ _ _ _ rL _ (by unfold maxLen; omega) (by exact hs810) (by exact hso10)).mono ?_; rintro e w11 ⟨rfl, hk11⟩)
              have f1 := (hk11.cell (p := ⟨T, q, none⟩) hTl).trans f0'
              have g1 := (hk11.frozen (p := ⟨T, q, none⟩) hTl).trans g0
              have hTl1 := Nat.lt_of_lt_of_le hTl hk11.size
              have HLA := hide (LA.start hap hq8 (hM10.kept hk11) hs (hr10.kept hk11))
              have HI11 := heap_kept hk11 HI
              have hs11 : Sl i64T w11 (fun b => W8.heap.size ≤ b ∧ b < w11.heap.size) A9 rL.length rL := hs10.keep (fun b hb => ⟨hb.1, Nat.lt_of_lt_of_le hb.2 hk11.size⟩) (fun b o hb => hk11.cell (p := ⟨b, o, none⟩) hb.2)
              have hkr11 := hkr10.trans' hk11
              have hW11 := Nat.le_trans hW10 hk11.size
              clear f0' g0 hTl y0 y1 hyl z0 z1 hzl hso10 hs810 HG10 hM10 hr10 hkr10 hs10 HI hW10
              go_wp2_with fail
              obtain ⟨go, rfl⟩ : ∃ g : Nat, g = gk := ⟨_, rfl⟩
              have hkrw := hkr11.setCell hT1 (p := ⟨T, q, none⟩) (Value.bool true)
              have hTI : II ≠ T := by have := hap.g.1; have := hM8T; omega
              have hII : II < w11.heap.size := heap_lt HI11
              have HIw := heap_other (a := ⟨T, q, none⟩) (v := Value.bool true) HI11 hTI
              have hsw : Sl i64T (w11.setCell ⟨T, q, none⟩ (Value.bool true)) (fun b => W8.heap.size ≤ b ∧ b < w11.heap.size) A9 rL.length rL := hs11.keep (fun b hb => hb) (fun b o hb => World.cell?_setCell_other _ _ _ _ (fun e => by have := congrArg Addr.block e; simp only at this; have := hb.1; omega))
              clear f1 g1 hTl1 HI11 hs11 hkr11 hs
              generalize hrn : rL.length = rn at *
              have Hrn := hide hrn
              clear hrn
              have hsz : w11.heap.size ≤ (w11.setCell ⟨T, q, none⟩ (Value.bool true)).heap.size := by rw [World.size_setCell]; exact Nat.le_refl _
              generalize (w11.setCell ⟨T, q, none⟩ (Value.bool true)) = w12 at *
              go_loopg [20] rn (fun g s20 wr => ∃ (j : Nat) (vs' : Nat → Value), j + g = rn ∧ s20 = .int .i64 j ∧ Kept w1 wr ∧ w11.heap.size ≤ wr.heap.size ∧ wr.heap[II]? = some (.cells #[.int .u8 rq, .slice A9 rn c9] 63 (0, 0)) ∧ Sl i64T wr (fun b => W8.heap.size ≤ b ∧ b < w11.heap.size) A9 rn rL ∧ Hid (LA wr W.heap.size p m T (T + 1) nl l (k + 1) vs' (upd S q (some (rq, rL))) q (bindTo l (q : Int) rL j)) ∧ Hid (∀ g : Nat, (vs' q).ownBlock = some g → g < W8.heap.size ∨ w11.heap.size ≤ g))
              case atStart => exact ⟨0, vs, by omega, rfl, hkrw, hsz, HIw, hsw, HLA, hide (fun g hg => .inl (hob.out g hg))⟩
              case round =>
                clear hkrw HIw hsw HLA hsz hob
                obtain ⟨j, vs', hj, rfl, hkj, hsj, HIj, hslj, HLA, Hob⟩ := hrel
                have Hj := hide hj
                clear hj
                have z0 := cell_heap HIj (o := 0) rfl
                have z1 := cell_heap HIj (o := 1) rfl
                have hzl := heap_lt HIj
                by_cases hjn : j < rn
                · obtain ⟨xv, b9, off9, cs, hxv, rfl, hb9, ⟨rfl, _⟩, hcc⟩ := hslj.at hjn
                  have hrj : j < rn := hjn
                  have z9 : wr.cell? ⟨b9, off9 + j, none⟩ = some (.int .i64 xv) := by
                    have h0 := hcc 0 _ rfl
                    simpa only [i64T, Ty.flat, Nat.mul_one, Nat.add_zero] using h0
                  have hb9r := World.block_lt_of_cell? wr _ z9
                  have hjn' : (j : Int) < (rn : Int) := by omega
                  have hj0 : (0 : Int) ≤ (j : Int) := by omega
                  clear hcc
                  by_cases hx0 : 0 ≤ xv
                  · have Hbt := hide (bindTo_yes (l := l) (n := (q : Int)) hxv hx0)
                    have hxl := Hrx.out xv (List.mem_of_getElem? hxv)
                    have hlb := bindTo_len l (q : Int) rL j
                    obtain ⟨xn, rfl⟩ := Int.eq_ofNat_of_zero_le hx0
                    rw [Hnl.out] at hxl
                    have hxn : xn < nl := by omega
                    obtain ⟨d2, b2, off2, A', c', hd2, rfl, hb2, hb2r, _, _, hns, e0, e1, _⟩ := drv_at hsl hkj hxn
                    have Hnm := hide (nameAt_get hd2)
                    have hxl' : (xn : Int) < (nl : Int) := by omega
                    have hxl0 : (0 : Int) ≤ (xn : Int) := by omega
                    clear hd2 e1 hxv
                    obtain ⟨l0, p0, hBl⟩ := HLA.out.mem.list hq8
                    have hown := HLA.out.mem.own q hq8
                    rw [setF_same] at hown
                    have hgw : Hid (∀ (w' : World) (v : Value) (L' : List Bind), wr.grownBy w' (vs' q).ownBlock → (v.ownBlock = (vs' q).ownBlock ∨ ∃ g, v.ownBlock = some g ∧ wr.heap.size ≤ g) → Own bdT 82 W.heap.size w' v L'.length L' → LA (w'.setCell ⟨T + 1, q, none⟩ v) W.heap.size p m T (T + 1) nl l (k + 1) (setF vs' q v) (upd S q (some (rq, rL))) q L') := hide (fun w' v L' h1 h2 h3 => LA.more hq8 hap HLA.out h3 h1 h2)
                    have Hov : Hid (∀ v : Value, (setF vs' q v) q = v) := hide (fun v => setF_same _ _ _)
                    have hTB : T + 1 < W.heap.size := HLA.out.mem.tb.2.1
                    have hW8b : W.heap.size ≤ W8.heap.size := hW8
                    generalize vs' q = v at *
                    generalize hpre : bindTo l (q : Int) rL j = pre at *
                    have Hpre := hide hpre
                    clear hpre
                    have Hown := hide hown
                    clear hown
                    go_upto_region 35 with (fail)
                    go_region_law (first
                      | (refine step_append_el (T := bdT) rfl (.tmp 158) (.tmp 171) 73 rfl W.heap.size 82 i2 _ 32 Try.underlying73 hi2 hz20 hz21 hz22 rfl (by decide) v pre.length pre (by rfl) ((Hown.out.drew).alloc _) _ _ _ ⟨(q : Int), (j : Int), d2.name⟩ (by rfl) (heap_alloc_new _ _) ⟨rfl, hns⟩ (by simp [Value.oneCell']) (by unfold maxLen; omega) (by omega) (by simp; omega) ?_; intro g cap w2 hown3 hg3 hbel3 hat3 hlt3; obtain ⟨hcz, hfz⟩ := bcell hbel3))
                    all_goals
                      go_wp2_with fail
                      have hU : Kept wr ((wr.alloc (.cells #[.int .u8 (q : Int), .int .i64 (j : Int), .string d2.name] 82)).drew) := ((Below.refl _ wr).alloc (Nat.le_refl _) _).drew
                      have hUs : ((wr.alloc (.cells #[.int .u8 (q : Int), .int .i64 (j : Int), .string d2.name] 82)).drew).heap.size = wr.heap.size + 1 := by simp
                      generalize (wr.alloc (.cells #[.int .u8 (q : Int), .int .i64 (j : Int), .string d2.name] 82)).drew = U at *
                      have hg4 := grown_after hU hg3
                      have hw2 := hg4.size
                      have hk12 : Kept w1 w2 := Below.trans (hkj.trans' hU) (hbel3.mono hw1W)
                      have hnb : ∀ b, W8.heap.size ≤ b → b < w11.heap.size → some b ≠ v.ownBlock := fun b h1 h2 e => by rcases Hob.out b e.symm with h | h <;> omega
                      go_roundg (gk - 1)
                      case measure => have := Hj.out; omega
                      case rel =>
                        refine ⟨j + 1, setF vs' q (.slice (some ⟨g, 0, none⟩) (pre.length + 1) cap), by have := Hj.out; omega, by go_num, hk12.setCell (by have := hT1; show w1.heap.size ≤ T + 1; omega) (p := ⟨T + 1, q, none⟩) _, by rw [World.size_setCell]; omega, ?_, ?_, hide ?_, hide ?_⟩
                        · exact heap_other ((hg4.block II (by omega) (hnb II hIIb hII)).trans HIj) (by show II ≠ T + 1; omega)
                        · refine hslj.keep (fun b hb => hb) (fun b o hb => ?_)
                          rw [World.cell?_setCell_other _ _ _ _ (fun e => by have := congrArg Addr.block e; simp only at this; have := hb.1; omega)]
                          exact World.cell?_of_block (a := ⟨b, o, none⟩) (hg4.block b (by have := hb.2; omega) (hnb b hb.1 hb.2))
                        · refine hgw.out w2 _ _ hg4 ?_ ?_
                          · rcases hat3 with h | h
                            · exact .inl h.symm
                            · exact .inr ⟨g, rfl, by omega⟩
                          · rw [Hbt.out, Hnm.out, List.length_append]
                            exact hown3
                        · intro g' hg'
                          rw [Hov.out] at hg'
                          have e : g' = g := by simpa [Value.ownBlock] using hg'.symm
                          rcases hat3 with h | h
                          · rw [e]; exact Hob.out g h
                          · right; omega
                  · have Hbt := hide (bindTo_no (l := l) (n := (q : Int)) hxv hx0)
                    clear hxv
                    have hx0' : xv < 0 := by omega
                    go_wp2_with fail
                    go_roundg (gk - 1)
                    case measure => have := Hj.out; omega
                    case rel => exact ⟨j + 1, vs', by have := Hj.out; omega, by go_num, hkj, hsj, HIj, hslj, by rw [Hbt.out]; exact HLA, Hob⟩
                · have hjr : j = rn := by have := Hj.out; omega
                  have hjn' : (rn : Int) ≤ (j : Int) := by omega
                  have hfin := LA.end (q := q) (by have h := HLA.out; rw [hjr] at h; have e : bindS l (q : Int) (upd S q (some (rq, rL)) q) = bindTo l (q : Int) rL rn := by simp [upd, bindS, Hrn.out]
                                                   rw [e]; exact h) (good_upd hgd (fun c e => by injection e with e; subst e; exact ⟨by have := Hrn.out; show rL.length ≤ 5; omega, Hrx.out⟩)) (fun n hn => by simp [upd]; rw [if_neg (by omega)]; exact hhi n hn)
                  have Hfin := hide hfin
                  clear hfin HLA
                  go_wp2_with fail
                  go_roundg (go - 1)
                  case measure => have := Hk.out; omega
                  case rel => exact ⟨k + 1, by have := Hk.out; omega, by go_num, hkj, by have := hW11; omega, vs', _, Hfin.out⟩
            · have hcon : Calls Try.prog 25 #[.pointer (some ⟨p, 0, none⟩), .agg #[.int .u8 ((q : Int)), .slice none 0 0, .int .u8 0, .int .u8 0, .int .u8 0, .int .u16 0, .int .u8 0, .int .u8 0, .int .u8 0, .int .u8 0, .int .u16 (venOf d.ids), .int .u16 (proOf d.ids), .int .u16 0, .int .u8 0, .int .u8 0, .int .u8 0, .int .u8 0, .slice Ac cn cc], .int .i64 (d.cur % 600)] W6 fun en w' => en = .returned (.tuple #[.agg #[.int .u8 (0), .slice none 0 0], .int .i64 (re)]) ∧ Kept W6 w' :=
                hat.mono (fun en w' h => by
                  rcases h with ⟨_, h⟩ | ⟨h, _⟩
                  · exact h
                  · exact absurd h he)
              clear hat
              have he1 : (re == 0) = false := by simpa using he
              have he2 : (re != 0) = true := by simpa using he
              go_upto_region 22 with (first
                | (refine wpList_load_row rfl 34 (.tmp 15) rfl FF (by rfl) 34 _ (0, 0) _ (HF) Try.underlying34 rfl (by kernel_rfl) ?_)
                | (go_at_call 25; refine (hcon).mono ?_; rintro e w7 ⟨rfl, hk7⟩))
              refine wp_at (fun W8 => W8.heap[w7.heap.size]? = some (.cells #[.int .u8 0, .slice none 0 0] 63 (0, 0)) ∧ Kept w7 W8) ⟨heap_at _ rfl, by go_grown⟩ (fun W8 hW8 => ?_)
              obtain ⟨HG, hk8⟩ := hW8
              have hk68 := hk7.trans' hk8
              have HF8 := heap_kept hk68 HF
              have HX8 := heap_kept hk68 HX6
              have hl8 := hlW.kept hk68
              have hsc8 := hsc6.kept hk68
              have x48 := cell_heap HX8 (o := 4) rfl
              have hxl8 := heap_lt HX8
              clear x4 hxl hk7
              generalize w7.heap.size = GG at *
              go_upto_region 23 with (first
                | (refine wpList_load_row rfl 34 (.tmp 15) rfl FF (by rfl) 34 _ (0, 0) _ (HF8) Try.underlying34 rfl (by kernel_rfl) ?_)
                | (go_at_call 20; refine (lchoose_any _ _ _ l _ _ _ _ _ _ cfs _ _ hlm (by exact hl8) Hrl.out hcl (by exact hsc8)).mono ?_; rw [Hch.out]; dsimp only; rintro e w9 ⟨A9, c9, rfl, hs9, hk9⟩))
              refine wp_at (fun W10 => W10.heap[w9.heap.size]? = some (.cells #[.int .u8 rq, .slice A9 rL.length c9] 63 (0, 0)) ∧ Kept w9 W10) ⟨heap_at _ rfl, by go_grown⟩ (fun W10 hW10 => ?_)
              obtain ⟨HI, hk10⟩ := hW10
              have hk610 := (hk68.trans' hk9).trans' hk10
              have hs10 := hs9.kept hk10
              have HG10 := heap_kept hk10 (heap_kept hk9 HG)
              have hst10 := hst6.kept hk610
              have hkr10 := hkr6.trans' hk610
              have hW10 := Nat.le_trans hW6 hk610.size
              clear x48 hxl8 HX8 HF8 hl8 hsc8 hk9 hk10 hk68 hs9 HG
              generalize w9.heap.size = II at *
              have y0 := cell_heap HG10 (o := 0) rfl
              have y1 := cell_heap HG10 (o := 1) rfl
              have hyl := heap_lt HG10
              obtain ⟨f0, g0, hTl⟩ := hst10.mem.flag hq8
              rw [hs] at f0
              have f0' : W10.cell? ⟨T, q, none⟩ = some (.bool false) := f0
              clear f0 hs
              go_wp2_with fail
              go_roundg (gk - 1)
              case measure => have := Hk.out; omega
              case rel => exact ⟨k + 1, by have := Hk.out; omega, by go_num, hkr10, hW10, vs, S, ⟨hst10.reg.more, hst10.mem, hst10.good, hst10.high⟩⟩
    · have hkn : k = an := by have := Hk.out; omega
      have hlt' : (an : Int) ≤ (k : Int) := by omega
      go_upto_region 36 with (fail)
      refine one36 w wr (hk1.trans' hkr) hst.reg hlm (by omega) hst.good hst.high Hno.out hst.mem hkr hsl _ _ ?_ ?_ <;> assumption
end Go.Proofs.Ytgkhenplbljbbaa
