/- Text: the walk. The library's table of powers is as the program lays it. Printed by gen_zp.py. -/
import Derived.Test.YtjgncofhobhjdaaDoorChecked
import Derived.Deep.RegionHeld3
import Derived.Deep.DrawnRows
import Derived.Deep.DeepCutAuto
import Derived.Deep.LoopGhost
import Derived.Outline
import Derived.Handy
import Derived.OwnWalk
import Derived.BigQuiet
import Derived.Test.YtjgncofhobhjdaaDoorZpK
import Derived.Laws.EntriesVeiled
set_option linter.unusedVariables false
set_option linter.unusedSimpArgs false
set_option linter.unusedSectionVars false
namespace Go.Proofs.YtjgncofhobhjdaaDoor
open Go.RowKit Go.Shelf Go.Lib
attribute [local go_sem ↓] Go.wp_at_zero Go.wp_at_succ

set_option maxRecDepth 100000 in
set_option maxHeartbeats 16000000 in
theorem text_any (c : Cfg) (A : Option Addr) (cap : Nat) (w : World) (hC : CfgIs w (low w.heap.size) c A cap) (hz : sizeS c ≤ 1000000) (hT : Tabs w) :
    Calls Tryd.prog 21 #[.agg (c.cells A cap).toArray] w fun e w' => e = .returned (.string (B8 (textS c))) ∧ Kept w w' := by
  have hck := fun w' (hk' : Kept w w') => check_any c A cap w' (hC.kept hk') hz
  obtain ⟨E, hE⟩ : ∃ E, checkS c = E := ⟨_, rfl⟩
  rw [hE] at hck
  by_cases h0 : E = 0
  case neg =>
    have hts : textS c = [] := by unfold textS; rw [if_neg (by rw [hE]; exact h0)]
    have Hts := hide hts
    have hEn : (E != 0) = true := by simpa using h0
    clear hts hE h0
    obtain ⟨D, L⟩ := c
    obtain ⟨n, hn⟩ : ∃ n, L.length = n := ⟨_, rfl⟩
    unfold Cfg.cells at hck ⊢
    unfold CfgD.cells at hck ⊢
    simp only [hn, List.cons_append, List.nil_append] at hck ⊢
    have Hn := hide hn
    have HC := hide hC
    clear hn hC
    go_enter Tryd.func21, Tryd.ntmps21
    go_wp2_with (go_at_call 19; refine (hck _ ((Below.refl _ _).alloc (Nat.le_refl _) _)).mono ?_; rintro e w1 ⟨rfl, hk1⟩)
    go_ret
    exact ⟨by rw [Hts.out]; rfl, ((Below.refl _ _).alloc (Nat.le_refl _) _).trans (hk1.mono (by simp))⟩
  case pos =>
  subst h0
  have hcc := check_of hE
  have hts : textS c = textL c := by unfold textS; rw [if_pos hE]
  have HTw := hide hT
  clear hT hE
  have hd := hC.d
  have hsz := hcc.size
  rw [sizeS_eq] at hsz
  have hval := hcc.valid.alts
  obtain ⟨D, L⟩ := c
  have hcm := hC.cap
  have hnc := hC.len
  simp only at hd hnc hsz hval
  obtain ⟨n, hn⟩ : ∃ n, L.length = n := ⟨_, rfl⟩
  unfold maxLen at hcm
  unfold Cfg.cells at hck ⊢
  unfold CfgD.cells at hck ⊢
  simp only [hn, List.cons_append, List.nil_append] at hck hnc ⊢
  have HC := hide hC
  have Hn := hide hn
  have Hts := hide hts
  have Hd := hide hd
  have Hval := hide hval
  have Hcc := hide hcc
  obtain ⟨⟨t0, t1⟩, i8, n8, x8, p8⟩ := hd
  have hx8 : u8k D.text := x8
  obtain ⟨i0, i1⟩ := i8
  obtain ⟨n0, n1⟩ := n8
  obtain ⟨p0, p1⟩ := p8
  have hcl := cfgLine_len Hd.out
  clear hC hn hts hcc hval x8
  go_enter Tryd.func21, Tryd.ntmps21
  go_upto_region 8 with (go_at_call 19; refine (hck _ ((Below.refl _ _).alloc (Nat.le_refl _) _)).mono ?_; rintro e w1 ⟨rfl, hk1⟩)
  have hk01 : Kept w w1 := ((Below.refl _ _).alloc (Nat.le_refl _) (.cells #[.int .u16 D.total, .int .u8 D.ifs, .int .u8 D.number, .int .u8 D.text, .bool D.self, .bool D.wake, .int .u8 D.power, .slice A n cap] 32)).trans (hk1.mono (by simp))
  have hC1 := heap_kept hk1 (heap_at (w := w) (.cells #[.int .u16 D.total, .int .u8 D.ifs, .int .u8 D.number, .int .u8 D.text, .bool D.self, .bool D.wake, .int .u8 D.power, .slice A n cap] 32) rfl)
  obtain ⟨b, hb⟩ : ∃ b, w1.heap.size = b := ⟨_, rfl⟩
  have hC0 : w.heap.size < b := by rw [← hb]; exact heap_lt hC1
  obtain ⟨c0, hc0⟩ : ∃ c0, w.heap.size = c0 := ⟨_, rfl⟩
  rw [hc0] at hC1 hC0 ⊢
  refine wp_at (fun W => W.heap[c0]? = some (.cells #[.int .u16 D.total, .int .u8 D.ifs, .int .u8 D.number, .int .u8 D.text, .bool D.self, .bool D.wake, .int .u8 D.power, .slice A n cap] 32 (0, 0)) ∧ W.heap[b + 1]? = some (.cells #[.func (.func 55) #[] #[]] 63 (0, 0)) ∧ W.heap[b + 1 + 1]? = some (.cells #[.func (.func 56) #[] #[]] 118 (0, 0)) ∧ IsB b [] W ∧ Kept w W ∧ bufOf b W = none) ?_ (fun W hW => ?_)
  · refine ⟨heap_past (heap_past (heap_past hC1)), heap_past (heap_at _ (by simp [hb])), heap_at _ (by simp [hb]), (hb ▸ IsB.new w1 : IsB b [] _).kept (by go_grown), hk01.trans' (by go_grown), ?_⟩
    rw [bufOf_at (p := .pointer none) (v := .slice none 0 0) (t := 109) (fr := (0, 0)) (heap_past (heap_past (heap_at _ hb.symm)))]
    rfl
  obtain ⟨hW0, hWq, hWp, hB0, hkW, hbuf⟩ := hW
  simp only [hb]
  obtain ⟨q, hq⟩ : ∃ q, b + 1 = q := ⟨_, rfl⟩
  obtain ⟨p, hp⟩ : ∃ p, q + 1 = p := ⟨_, rfl⟩
  rw [hq, hp] at hWp
  rw [hq] at hWq
  simp only [hq, hp]
  have hqb : b < q := by omega
  have hpb : b < p := by omega
  have h3 : Three b W c0 q p := ⟨⟨heap_lt hW0, by omega, by rw [hbuf]; simp⟩, ⟨heap_lt hWq, by omega, by rw [hbuf]; simp⟩, ⟨heap_lt hWp, by omega, by rw [hbuf]; simp⟩⟩
  have hcq := cell_heap hWq (o := 0) rfl
  have hcp := cell_heap hWp (o := 0) rfl
  have e0 := cell_heap hW0 (o := 0) rfl
  have e1 := cell_heap hW0 (o := 1) rfl
  have e2 := cell_heap hW0 (o := 2) rfl
  have e3 := cell_heap hW0 (o := 3) rfl
  have e4 := cell_heap hW0 (o := 4) rfl
  have e5 := cell_heap hW0 (o := 5) rfl
  have e6 := cell_heap hW0 (o := 6) rfl
  have e7 := cell_heap hW0 (o := 7) rfl
  have l0 := heap_lt hW0
  have lq := heap_lt hWq
  have lp := heap_lt hWp
  have HTW := hide (HTw.out.kept hkW)
  have HkW := hide hkW
  have HB0 := hide hB0
  have H3 := hide h3
  have HW0 := hide hW0
  have HWq := hide hWq
  have HWp := hide hWp
  have Hbuf := hide hbuf
  have HC0 := hide hC0
  have HC1 : Hid (w.heap.size < b) := hide (by omega)
  clear hk01 hk1 hC1 hb hC0 hc0 hq hp hW0 hWq hWp hkW hbuf hck hB0
  have hws : ∀ w', Calls Tryd.prog 56 #[.bool D.self, .string ⟨#[115, 101, 108, 102]⟩] w' fun e w2 => e = .returned (.string (B8 (wordW D.self sSelf))) ∧ Kept w' w2 := fun w' => wordK_any D.self sSelf w'
  have hww : ∀ w', Calls Tryd.prog 56 #[.bool D.wake, .string ⟨#[119, 97, 107, 101, 117, 112]⟩] w' fun e w2 => e = .returned (.string (B8 (wordW D.wake sWakeup))) ∧ Kept w' w2 := fun w' => wordK_any D.wake sWakeup w'
  go_upto_region 8 with (fail)
  have hAA : Kept W W := Below.refl _ _
  go_region_held3 (fun w' => (∀ k o, (k = c0 ∨ k = q ∨ k = p) → w'.cell? ⟨k, o, none⟩ = W.cell? ⟨k, o, none⟩) ∧ W.heap.size ≤ w'.heap.size) (first | assumption | exact tri_start | exact hS7 | exact tri_keep h3 (by assumption) hk | exact tri_alloc h3 (by assumption)) (first
    | (go_at_call 55; (first | refine (itoaw_any _ _ (by first | omega | exact (addrS_small _).1) (by first | omega | exact itoa_le (addrS_small _).2) (by first | exact HTW.out.kept hAA | exact (HTW.out.kept hAA).of rfl)).mono ?_ | refine (itoaD_any _ _ (by assumption) (by assumption) (by first | exact HTW.out.kept hAA | exact (HTW.out.kept hAA).of rfl)).mono ?_); rintro e w5 ⟨rfl, hk⟩; have hAA : Kept W w5 := (by first | exact hAA.trans' hk | exact hAA.trans' (kept_undrew hk)))
    | (go_at_call 56; (first | refine (hws _).mono ?_ | refine (hww _).mono ?_); rintro e w5 ⟨rfl, hk⟩; have hAA : Kept W w5 := (by first | exact hAA.trans' hk | exact hAA.trans' (kept_undrew hk)))
    | (go_at_call 57; refine (textw_S (W := W) (a := c0) (q := q) (p := p) (b := b) (by first | assumption | exact tri_start) h3 hcq hcp (by assumption) (by first | exact HTW.out.kept hAA | exact (HTW.out.kept hAA).of rfl)).mono ?_; rintro e w5 ⟨rfl, hk⟩; have hAA : Kept W w5 := (by first | exact hAA.trans' hk | exact hAA.trans' (kept_undrew hk)))
    | (go_at_call 50; refine (line_S 11 (cfgW D) HB0.out hAA (by rfl) rfl (by decide) (by simp; omega)).mono ?_; rintro e w7 ⟨rfl, hB7, ha7⟩; have hS7 := tri_adv h3 ha7))
  clear hws hww
  show Exit.then _ _ Exit.normal _ _
  dsimp only [Exit.then]
  refine (show ∀ (a : Act) (w : World), Code.wp Tryd.prog _ _ a w → _ from by assumption) _ _ ?_
  exact textB (w := w) (W := W) (c0 := c0) (b := b) (q := q) (p := p) (D := D) (L := L) (A := A) (n := n) (cap := cap) HC.out Hn.out hsz Hcc.out Hd.out HTW.out HTw.out HkW.out H3.out HW0.out HWq.out HWp.out HC1.out Hbuf.out hB7 ha7 hcl Hts.out
end Go.Proofs.YtjgncofhobhjdaaDoor
