/- Parse, whose items can be read. The slice reads as bytes. -/
import Derived.Test.YtegdigfcgeoboaaChecked
import Derived.Deep.RegionHeld3
import Derived.Deep.DrawnRows
import Derived.Deep.DeepCutAuto
import Derived.Deep.LoopGhost
import Derived.Outline
import Derived.Handy
import Derived.OwnWalk
import Derived.Test.YtegdigfcgeoboaaN10
set_option linter.unusedVariables false
set_option linter.unusedSimpArgs false
set_option linter.unusedSectionVars false
namespace Go.Proofs.Ytegdigfcgeoboaa
open Go.RowKit Go.Maps
attribute [local go_sem ↓] Go.wp_at_zero Go.wp_at_succ

theorem Sl.off {α : Type} {t : Ty α} {w : World} {F X : Nat → Prop} {A : Option Addr} {n : Nat} {xs : List α} (h : Sl (t.on X) w F A n xs) : Sl t w F A n xs :=
  ⟨h.1, fun i x hx => by
    obtain ⟨b, off, cs, e, hb, hr, hc⟩ := h.2 i x hx
    exact ⟨b, off, cs, e, hb, t.keep hr (fun b hb => hb.1) (fun _ _ _ => rfl), hc⟩⟩
set_option maxRecDepth 100000 in
set_option maxHeartbeats 8000000 in
theorem parse_yes (A : Option Addr) (n c : Nat) (bs : List Int) (w : World) (hnc : n ≤ c) (hc : c ≤ maxLen) (hl : Sl u8T w (low w.heap.size) A n bs) (hE : itemsE bs = 0) :
    Calls Try.prog 14 #[.slice A n c] w (ParsePost w (parseE bs) (parseM bs)) := by
  have hb8 := hl.u8
  have hP : parseE bs = (parseS (items bs)).1 := by unfold parseE; rw [if_neg (by simp [hE])]
  have hM : parseM bs = (parseS (items bs)).2 := rfl
  have hwide : ∀ x ∈ items bs, x.wide = true ∧ x.ok := by
    have hg : goodB bs = true := by
      unfold itemsE at hE
      split at hE
      · cases hE
      · split at hE
        · assumption
        · cases hE
    intro x hx
    exact ⟨(join_items bs.length bs (Nat.le_refl _) hb8 hg).2 x hx, items_ok bs.length bs (Nat.le_refl _) hb8 x hx⟩
  have hlen : (items bs).length ≤ 4096 := by
    have h1 := items_len bs.length bs (Nat.le_refl _)
    have h2 : bs.length ≤ 4096 := by
      unfold itemsE at hE
      by_cases h : 4096 < bs.length
      · rw [if_pos h] at hE; cases hE
      · omega
    omega
  have hit := fun w' (h : Sl u8T w' (low w'.heap.size) A n bs) => items_yes A n c bs w' hnc hc h hE
  have Hl := hide hl
  have HP := hide hP
  have HM := hide hM
  generalize hEE : parseE bs = EE at *
  generalize hMM : parseM bs = MM at *
  generalize items bs = l at *
  obtain ⟨k, hk⟩ : ∃ k, l.length = k := ⟨_, rfl⟩
  rw [hk] at hit hlen
  have Hk := hide hk
  have Hwide := hide hwide
  clear hl hP hM hEE hMM hE hb8 hwide hk
  have hmm := @run_makeMap Try.prog
  go_enter Try.func14, Try.ntmps14
  go_upto_region 6 with (first
    | (go_at_call 12; refine (hit _ (Hl.out.kept ((Below.refl _ _).alloc (Nat.le_refl _) _))).mono ?_; rintro e w1 ⟨A', rfl, hsl, hk1⟩)
    | (go_at_call 28; refine (effects_any _).mono ?_; rintro e w2 ⟨v, rfl, ⟨eb, NE, fE, rfl, heb, hME, hfE⟩, hk2⟩))
  refine wp_at (fun W => Kept w W ∧ W.heap[w.heap.size]? = some (.cells #[.slice none 0 0, .slice none 0 0, .bool false] 40 (0, 0)) ∧ w.heap.size < w1.heap.size ∧ Sl itT W (low w1.heap.size) A' k l ∧
      (∃ NE fE, MapIs Try.prog 90 W eb NE fE ∧ ∀ t g : Int, (0 ≤ t ∧ t < 16) → u8k g → fE (kL t g) = (fnOf t g).map (fun f => .func (.func f) #[] #[])) ∧ w1.heap.size + 1 < eb ∧
      Rd W W.heap.size (w1.heap.size + 1) w1.heap.size (.slice none 0 0) (.slice none 0 0) (.slice none 0 0) (.slice none 0 0) rs0) ?_ (fun W0 hW0 => ?_)
  · have k1 : Below w.heap.size w w1 := Below.trans ((Below.refl _ _).alloc (Nat.le_refl _) _) (hk1.mono (by simp))
    have s1 := hk1.size
    have s2 := hk2.size
    simp only [World.size_alloc] at s1 s2 heb
    have kA : Kept w1 ((w1.alloc (.map #[] 0)).alloc (.cells (rdC rs0 w1.heap.size (.slice none 0 0) (.slice none 0 0) (.slice none 0 0) (.slice none 0 0)) 86)) := by go_grown
    have k2 : Kept w1 w2 := kA.trans' hk2
    have hb2 : w2.heap[w1.heap.size + 1]? = some (.cells (rdC rs0 w1.heap.size (.slice none 0 0) (.slice none 0 0) (.slice none 0 0) (.slice none 0 0)) 86 (0, 0)) := heap_kept hk2 (heap_at _ (by simp))
    have hm2 : MapIs Try.prog 90 w2 w1.heap.size 0 (fun _ => none) := ((MapIs.made w1 Try.prog 90).keep (by go_grown)).keep hk2
    refine ⟨k1.trans (k2.mono (by omega)), heap_kept k2 (heap_kept hk1 (heap_at _ rfl)), by omega, hsl.keep (fun g hg => hg.2) (fun b o hb => k2.cell (p := ⟨b, o, none⟩) hb.2), ⟨NE, fE, hME, hfE⟩, by omega, hb2, Own.nil _ _ _ _, Own.nil _ _ _ _, Own.nil _ _ _ _, Own.nil _ _ _ _, ⟨_, hm2, fun _ _ _ _ => rfl⟩, by omega, by omega, by omega⟩
  obtain ⟨hkW, hD, hDl, hsl0, ⟨NE, fE, hME, hfE⟩, heb, hr0⟩ := hW0
  generalize hw1 : w1.heap.size = m at *
  clear hsl hk1 hk2 hit hw1
  have hebl := hME.lt
  have HME := hide hME
  have HfE := hide hfE
  have HkW := hide hkW
  have HD := hide hD
  have Hsl := hide hsl0
  have Hr0 := hide hr0
  have hlow := hr0.low
  obtain ⟨hl1, hl2, hl3⟩ := hlow
  have hD0 := heap_lt hD
  clear hME hfE hkW hD hsl0 hr0
  go_wp2_with fail
  go_loopg [3, 27] k (fun g s3 s27 wr => ∃ i : Nat, i + g = k ∧ s3 = .int .i64 0 ∧ s27 = .int .i64 i ∧ Hid ((runS (l.take i) rs0).1 = 0) ∧ Fr W0.heap.size (m + 1) m W0 wr ∧ ∃ vs vu vf vc, Rd wr W0.heap.size (m + 1) m vs vu vf vc (runS (l.take i) rs0).2)
  case atStart => exact ⟨0, by omega, rfl, rfl, rfl, Fr.refl, _, _, _, _, Hr0.out⟩
  case round =>
    obtain ⟨i, hi, rfl, rfl, h0, hfr, vs, vu, vf, vc, hr⟩ := hrel
    have Hi := hide hi
    clear hi
    have hkr : Kept w wr := HkW.out.trans (hfr.low (B := w.heap.size) (by omega) (by omega) (by omega))
    have hDr : wr.heap[w.heap.size]? = some (.cells #[.slice none 0 0, .slice none 0 0, .bool false] 40 (0, 0)) := (hfr.block _ hD0 (by omega) (by omega)).trans HD.out
    have hDlr := heap_lt hDr
    have d0 : wr.cell? ⟨w.heap.size, 0, none⟩ = some (.slice none 0 0) := cell_heap hDr (o := 0) rfl
    have d1 : wr.cell? ⟨w.heap.size, 1, none⟩ = some (.slice none 0 0) := cell_heap hDr (o := 1) rfl
    have d2 : wr.cell? ⟨w.heap.size, 2, none⟩ = some (.bool false) := cell_heap hDr (o := 2) rfl
    have q0 := frozen_heap hDr (o := 0)
    have q1 := frozen_heap hDr (o := 1)
    have q2 := frozen_heap hDr (o := 2)
    have hwz := hfr.size
    obtain ⟨S, hS⟩ : ∃ S, (runS (l.take i) rs0).2 = S := ⟨_, rfl⟩
    rw [hS] at hr
    have HS := hide hS
    have hSf : S.Fine := by
      rw [← hS]
      exact run_fine _ _ fine0 (fun x hx => Hwide.out x (List.mem_of_mem_take hx)) h0.out
    have HSf := hide hSf
    have Hkr := hide hkr
    have HDr := hide hDr
    have Hfr := hide hfr
    have Hr := hide hr
    have hRl := heap_lt hr.box
    have hRm : ¬ wr.heap.size = m + 1 := by omega
    clear hS hSf hkr hfr
    by_cases hlt : i < k
    · have hil : i < l.length := by rw [Hk.out]; exact hlt
      obtain ⟨x, hx⟩ : ∃ x, l[i]? = some x := ⟨_, List.getElem?_eq_getElem hil⟩
      obtain ⟨hxw, hxok⟩ := Hwide.out x (List.mem_of_getElem? hx)
      obtain ⟨x', b, off, cs, hx', rfl, hbb, ⟨rfl, _⟩, hcs⟩ := (Hsl.out.below (Hfr.out.low (B := m) (by omega) (by omega) (Nat.le_refl _))).at hlt
      obtain rfl : x' = x := Option.some.inj (hx'.symm.trans hx)
      have z0 : wr.cell? ⟨b, off + i * 4, none⟩ = some (.int .u8 x'.ty) := hcs 0 _ rfl
      have z1 : wr.cell? ⟨b, off + i * 4 + 1, none⟩ = some (.int .u8 x'.tg) := hcs 1 _ rfl
      have z2 : wr.cell? ⟨b, off + i * 4 + 2, none⟩ = some (.int .i64 x'.size) := hcs 2 _ rfl
      have z3 : wr.cell? ⟨b, off + i * 4 + 3, none⟩ = some (.int .u32 x'.data) := hcs 3 _ rfl
      have hbl : b < wr.heap.size := Nat.lt_of_lt_of_le (show b < m from hbb) (by omega)
      have hi0 : (0 : Int) ≤ (i : Int) := by omega
      have hlt' : (i : Int) < (k : Int) := by omega
      have hrng := wide_iff hxw hxok
      have hmr : MapIs Try.prog 90 wr eb NE fE := HME.out.of_heap (Hfr.out.block eb hebl (by omega) (by omega))
      have hkey := key_pair (a := x'.ty) (b := x'.tg) (by have := hrng.1; have := hrng.2.1; omega) hxok.2.1
      have hfx := HfE.out x'.ty x'.tg (by have := hrng.1; have := hrng.2.1; omega) hxok.2.1
      have Hhx := hide hx
      have Hxw := hide hxw
      have Hxok := hide hxok
      have Hmr := hide hmr
      have Hkey := hide hkey
      clear hx' hcs hbb hrng hx hxw hxok hil hmr hkey
      cases hfn : fnOf x'.ty x'.tg with
      | none =>
        rw [hfn] at hfx
        have hbad : parseS l = effS (runS (l.take i) rs0).2 x' := run_bad Hhx.out h0.out (by rw [eff_none hfn]; show (4 : Int) ≠ 0; decide)
        rw [eff_none hfn] at hbad
        have e1 : EE = 4 := by rw [HP.out, hbad]
        subst e1
        have Hfx := hide (show fE (kL x'.ty x'.tg) = none from hfx)
        have hq := eqlNilF
        clear hfx hbad hfn
        go_wp2_with (at_lookup; refine wpList_look_any _ rfl _ _ 87 false rfl 90 89 keyed90 Try.underlying87 (zero89 _) eb NE fE (by rfl) (by exact Hmr.out.keep (by go_grown)) _ _ rfl Hkey.out ?_; rw [Hfx.out]; simp only [Bool.false_eq_true, if_false, Option.getD_none])
        refine bodyPost_ret (v := .tuple #[.agg #[.slice none 0 0, .slice none 0 0, .bool false], .int .i64 (4)]) (by simp [results, Try.results14, go_sem, *]) rfl ⟨?_, .inl ⟨?_, ?_⟩⟩
        · exact (((Hkr.out.setCell (p := ⟨w.heap.size, 0, none⟩) (Nat.le_refl _) _).setCell (p := ⟨w.heap.size, 1, none⟩) (Nat.le_refl _) _).setCell (p := ⟨w.heap.size, 2, none⟩) (Nat.le_refl _) _).alloc (by simp only [World.size_setCell]; exact Hkr.out.size) _
        · decide
        · rfl
      | some f =>
        rw [hfn] at hfx
        have hen := fn_enters hfn
        have hq := eqlFn f
        have Hfx := hide (show fE (kL x'.ty x'.tg) = some (.func (.func f) #[] #[]) from hfx)
        have heff : ∀ W2 : World, Kept wr W2 → Calls Try.prog f #[.pointer (some ⟨m + 1, 0, none⟩), itV x'] W2 (Did W0.heap.size (m + 1) m W2 (effS S x')) := fun W2 hk2 => eff_any (Hr.out.kept hk2) (Nat.le_trans hwz hk2.size) HSf.out x' Hxw.out Hxok.out hfn
        unfold itV at heff
        have hst := run_step Hhx.out h0.out
        rw [HS.out] at hst
        by_cases he : (effS S x').1 = 0
        · rw [if_neg (by simpa using he)] at hst
          have Hst := hide hst
          have heff' : ∀ W2 : World, Kept wr W2 → Calls Try.prog f #[.pointer (some ⟨m + 1, 0, none⟩), .agg #[.int .u8 x'.ty, .int .u8 x'.tg, .int .i64 x'.size, .int .u32 x'.data]] W2 fun e w3 => e = .returned (.int .i64 0) ∧ Fr W0.heap.size (m + 1) m W2 w3 ∧ ∃ vs vu vf vc, Rd w3 W0.heap.size (m + 1) m vs vu vf vc (effS S x').2 :=
            fun W2 hk2 => (heff W2 hk2).mono fun e w3 ⟨h1, h2, h3⟩ => ⟨by rw [h1, he], h2, h3 he⟩
          generalize hr2 : (effS S x').2 = r2 at *
          by_cases ht : x'.ty = 0
          · have hcl : clearS r2 x' = { r2 with usages := [], keeps := false } := by unfold clearS; rw [if_pos ht]
            have Hcl := hide hcl
            have ht1 : (x'.ty == 0) = true := by simpa using ht
            clear hfx hfn he heff hr2 hst hcl ht
            go_wp2_with (first
              | (at_lookup; refine wpList_look_any _ rfl _ _ 87 false rfl 90 89 keyed90 Try.underlying87 (zero89 _) eb NE fE (by rfl) (by exact Hmr.out.keep (by go_grown)) _ _ rfl Hkey.out ?_; rw [Hfx.out]; simp only [Bool.false_eq_true, if_false, Option.getD_some])
              | (refine (heff' _ (by go_grown)).mono ?_; rintro e w3 ⟨rfl, hf3, vs3, vu3, vf3, vc3, hr3⟩; have hbx3 := hf3.box wr.heap.size _ hRm (by omega) (heap_at _ rfl); have y0 : w3.cell? ⟨wr.heap.size, 0, none⟩ = some (.int .u8 x'.ty) := cell_heap hbx3 (o := 0) rfl; have hbl3 := heap_lt hbx3; have hR3 := heap_lt hr3.box; have u7 := cell_heap hr3.box (o := 7) rfl; have v7 := frozen_heap hr3.box (o := 7); have u9 := cell_heap hr3.box (o := 9) rfl; have v9 := frozen_heap hr3.box (o := 9)))
            have hk7 := hr3.usagesTo (w' := w3) (v' := .slice none 0 0) (l := []) ⟨rfl, rfl, rfl, Nat.le_refl _, fun _ _ _ => rfl⟩ (Own.nil _ _ _ _) (.inl rfl)
            have hk9 := hk7.set 9 (.bool false) (s' := { r2 with usages := [], keeps := false }) rfl rfl rfl rfl rfl
            go_roundg (gk - 1)
            case measure => have := Hi.out; omega
            case rel =>
              refine ⟨i + 1, by have := Hi.out; omega, rfl, by go_num, ?_, (((Hfr.out.trans (Fr.kept ((Below.refl _ _).alloc (Nat.le_refl _) _) hwz)).trans hf3).trans (Fr.set 7 _)).trans (Fr.set 9 _), ?_⟩
              · exact hide (by rw [Hst.out])
              · rw [Hst.out]
                show ∃ vs vu vf vc, Rd _ W0.heap.size (m + 1) m vs vu vf vc (clearS r2 x')
                rw [Hcl.out]
                exact ⟨_, _, _, _, hk9⟩
          · have hcl : clearS r2 x' = r2 := by unfold clearS; rw [if_neg ht]
            have Hcl := hide hcl
            have ht1 : (x'.ty == 0) = false := by simpa using ht
            clear hfx hfn he heff hr2 hst hcl
            go_wp2_with (first
              | (at_lookup; refine wpList_look_any _ rfl _ _ 87 false rfl 90 89 keyed90 Try.underlying87 (zero89 _) eb NE fE (by rfl) (by exact Hmr.out.keep (by go_grown)) _ _ rfl Hkey.out ?_; rw [Hfx.out]; simp only [Bool.false_eq_true, if_false, Option.getD_some])
              | (refine (heff' _ (by go_grown)).mono ?_; rintro e w3 ⟨rfl, hf3, vs3, vu3, vf3, vc3, hr3⟩; have hbx3 := hf3.box wr.heap.size _ hRm (by omega) (heap_at _ rfl); have y0 : w3.cell? ⟨wr.heap.size, 0, none⟩ = some (.int .u8 x'.ty) := cell_heap hbx3 (o := 0) rfl; have hbl3 := heap_lt hbx3))
            go_roundg (gk - 1)
            case measure => have := Hi.out; omega
            case rel =>
              refine ⟨i + 1, by have := Hi.out; omega, rfl, by go_num, ?_, (Hfr.out.trans (Fr.kept ((Below.refl _ _).alloc (Nat.le_refl _) _) hwz)).trans hf3, ?_⟩
              · exact hide (by rw [Hst.out])
              · rw [Hst.out]
                show ∃ vs vu vf vc, Rd _ W0.heap.size (m + 1) m vs vu vf vc (clearS r2 x')
                rw [Hcl.out]
                exact ⟨_, _, _, _, hr3⟩
        · have hbad := run_bad Hhx.out h0.out (by rw [HS.out]; exact he)
          rw [HS.out] at hbad
          obtain rfl : EE = (effS S x').1 := by rw [HP.out, hbad]
          generalize effS S x' = r at *
          have he1 : (r.1 != 0) = true := by simpa using he
          have he2 : (r.1 == 0) = false := by simpa using he
          clear hst hbad hfx hfn
          go_wp2_with (first
            | (at_lookup; refine wpList_look_any _ rfl _ _ 87 false rfl 90 89 keyed90 Try.underlying87 (zero89 _) eb NE fE (by rfl) (by exact Hmr.out.keep (by go_grown)) _ _ rfl Hkey.out ?_; rw [Hfx.out]; simp only [Bool.false_eq_true, if_false, Option.getD_some])
            | (refine (heff _ (by go_grown)).mono ?_; rintro e w3 ⟨rfl, hf3, hd3⟩; have hD3 := (hf3.block _ hD0 (by omega) (by omega)).trans (heap_past HDr.out); have hDl3 := heap_lt hD3; have d30 : w3.cell? ⟨w.heap.size, 0, none⟩ = some (.slice none 0 0) := cell_heap hD3 (o := 0) rfl; have d31 : w3.cell? ⟨w.heap.size, 1, none⟩ = some (.slice none 0 0) := cell_heap hD3 (o := 1) rfl; have d32 : w3.cell? ⟨w.heap.size, 2, none⟩ = some (.bool false) := cell_heap hD3 (o := 2) rfl; have q30 := frozen_heap hD3 (o := 0); have q31 := frozen_heap hD3 (o := 1); have q32 := frozen_heap hD3 (o := 2)))
          refine bodyPost_ret (v := .tuple #[.agg #[.slice none 0 0, .slice none 0 0, .bool false], .int .i64 (r.1)]) (by simp [results, Try.results14, go_sem, *]) rfl ⟨?_, .inl ⟨?_, ?_⟩⟩
          · exact ((((Hkr.out.alloc Hkr.out.size _).trans (hf3.low (B := w.heap.size) (by omega) (by omega) (by omega))).setCell (p := ⟨w.heap.size, 0, none⟩) (Nat.le_refl _) _).setCell (p := ⟨w.heap.size, 1, none⟩) (Nat.le_refl _) _).setCell (p := ⟨w.heap.size, 2, none⟩) (Nat.le_refl _) _
          · exact he
          · rfl
    · have hik : i = k := by have := Hi.out; omega
      subst hik
      have htk : l.take i = l := by rw [← Hk.out]; exact List.take_length
      have hrun : runS l rs0 = (0, S) := by
        have h1 := h0.out
        have h2 := HS.out
        rw [htk] at h1 h2
        rw [← h1, ← h2]
      have hps : parseS l = (endS S, S) := by unfold parseS; rw [hrun, if_neg (by simp)]
      obtain rfl : MM = S := by rw [HM.out, hps]
      have hEE : EE = endS MM := by rw [HP.out, hps]
      have HEE := hide hEE
      have hge : (i : Int) ≤ (i : Int) := Int.le_refl _
      have u10 : wr.cell? ⟨m + 1, 10, none⟩ = some (.int .i64 MM.opn) := cell_heap hr.box (o := 10) rfl
      have u6 : wr.cell? ⟨m + 1, 6, none⟩ = some vs := cell_heap hr.box (o := 6) rfl
      have u14 : wr.cell? ⟨m + 1, 14, none⟩ = some (.bool MM.numbered) := cell_heap hr.box (o := 14) rfl
      have u12 : wr.cell? ⟨m + 1, 12, none⟩ = some vf := cell_heap hr.box (o := 12) rfl
      obtain ⟨As, cs, rfl, hs1, hs2⟩ := hr.st.isSlice
      obtain ⟨Af, cf, rfl, hf1, hf2⟩ := hr.fs.isSlice
      have hfl := HSf.out.fields.1
      have hca : ∀ w' : World, Kept wr w' → Calls Try.prog 29 #[.slice Af MM.fields.length cf, .func (.func 30) #[] #[]] w' fun e w'' => e = .returned (.bool (MM.fields.any (fun f => f.report == 0))) ∧ Kept w' w'' :=
        fun w' hk => contains29 Af _ cf MM.fields w' hfl ((hr.fs.kept hk).sl).off
      have hdp := HSf.out.depth
      obtain ⟨ns, hns⟩ : ∃ ns, MM.stack.length = ns := ⟨_, rfl⟩
      rw [hns] at u6 hdp
      have Hns := hide hns
      have HRR := hide hr
      obtain ⟨anyB, hany⟩ : ∃ b, MM.fields.any (fun f => f.report == 0) = b := ⟨_, rfl⟩
      rw [hany] at hca
      have Hany := hide hany
      obtain ⟨nb, hnb⟩ : ∃ b, MM.numbered = b := ⟨_, rfl⟩
      rw [hnb] at u14
      have Hnb := hide hnb
      clear hr htk hrun hps hEE hns hany hnb hs2 hf2 hD0
      by_cases ho : 0 ≤ MM.opn
      · have e1 : EE = 4 := by rw [HEE.out]; unfold endS; rw [if_pos (.inl ho)]
        subst e1
        have ho1 : decide (0 ≤ MM.opn) = true := decide_eq_true ho
        go_wp2_with fail
        refine bodyPost_ret (v := .tuple #[.agg #[.slice none 0 0, .slice none 0 0, .bool false], .int .i64 (4)]) (by simp [results, Try.results14, go_sem, *]) rfl ⟨?_, .inl ⟨?_, ?_⟩⟩
        · exact ((Hkr.out.setCell (p := ⟨w.heap.size, 0, none⟩) (Nat.le_refl _) _).setCell (p := ⟨w.heap.size, 1, none⟩) (Nat.le_refl _) _).setCell (p := ⟨w.heap.size, 2, none⟩) (Nat.le_refl _) _
        · decide
        · rfl
      · have ho1 : decide (0 ≤ MM.opn) = false := decide_eq_false ho
        have ho2 : MM.opn < 0 := by omega
        by_cases hst : ns = 0
        · subst hst
          have hnil : MM.stack = [] := List.eq_nil_of_length_eq_zero Hns.out
          have Hnil := hide hnil
          clear hnil
          cases nb with
          | false =>
            have e1 : EE = 0 := by
              rw [HEE.out]; unfold endS
              rw [if_neg]
              rintro (h | h | h)
              · exact ho h
              · exact h Hnil.out
              · rw [Hnb.out] at h; cases h.1
            subst e1
            go_upto_region 20 with (fail)
            refine parse_end HRR.out Hkr.out HSf.out HDr.out (Nat.le_refl _) (by omega) _ ?_
            assumption
          | true =>
            cases anyB with
            | true =>
              have e1 : EE = 4 := by rw [HEE.out]; unfold endS; rw [if_pos (.inr (.inr ⟨Hnb.out, Hany.out⟩))]
              subst e1
              go_wp2_with (go_at_call 29; refine (hca _ (Below.refl _ _)).mono ?_; rintro e w3 ⟨rfl, hk3⟩; have hD3 := heap_kept hk3 HDr.out; have hDl3 := heap_lt hD3; have d30 : w3.cell? ⟨w.heap.size, 0, none⟩ = some (.slice none 0 0) := cell_heap hD3 (o := 0) rfl; have d31 : w3.cell? ⟨w.heap.size, 1, none⟩ = some (.slice none 0 0) := cell_heap hD3 (o := 1) rfl; have d32 : w3.cell? ⟨w.heap.size, 2, none⟩ = some (.bool false) := cell_heap hD3 (o := 2) rfl; have q30 := frozen_heap hD3 (o := 0); have q31 := frozen_heap hD3 (o := 1); have q32 := frozen_heap hD3 (o := 2))
              refine bodyPost_ret (v := .tuple #[.agg #[.slice none 0 0, .slice none 0 0, .bool false], .int .i64 (4)]) (by simp [results, Try.results14, go_sem, *]) rfl ⟨?_, .inl ⟨?_, ?_⟩⟩
              · exact (((Hkr.out.trans (hk3.mono Hkr.out.size)).setCell (p := ⟨w.heap.size, 0, none⟩) (Nat.le_refl _) _).setCell (p := ⟨w.heap.size, 1, none⟩) (Nat.le_refl _) _).setCell (p := ⟨w.heap.size, 2, none⟩) (Nat.le_refl _) _
              · decide
              · rfl
            | false =>
              have e1 : EE = 0 := by
                rw [HEE.out]; unfold endS
                rw [if_neg]
                rintro (h | h | h)
                · exact ho h
                · exact h Hnil.out
                · rw [Hany.out] at h; cases h.2
              subst e1
              go_upto_region 20 with (go_at_call 29; refine (hca _ (Below.refl _ _)).mono ?_; rintro e w3 ⟨rfl, hk3⟩)
              refine parse_end (HRR.out.kept hk3) (Hkr.out.trans (hk3.mono Hkr.out.size)) HSf.out (heap_kept hk3 HDr.out) (Nat.le_refl _) (by omega) _ ?_
              assumption
        · have e1 : EE = 4 := by
            rw [HEE.out]; unfold endS
            rw [if_pos (.inr (.inl (fun h => hst (by rw [← Hns.out, h]; rfl))))]
          subst e1
          have hs3 : (0 : Int) < (ns : Int) := by omega
          have hs4 : decide ((0 : Int) < (ns : Int)) = true := decide_eq_true hs3
          go_wp2_with fail
          refine bodyPost_ret (v := .tuple #[.agg #[.slice none 0 0, .slice none 0 0, .bool false], .int .i64 (4)]) (by simp [results, Try.results14, go_sem, *]) rfl ⟨?_, .inl ⟨?_, ?_⟩⟩
          · exact ((Hkr.out.setCell (p := ⟨w.heap.size, 0, none⟩) (Nat.le_refl _) _).setCell (p := ⟨w.heap.size, 1, none⟩) (Nat.le_refl _) _).setCell (p := ⟨w.heap.size, 2, none⟩) (Nat.le_refl _) _
          · decide
          · rfl
theorem parse_any (A : Option Addr) (n c : Nat) (bs : List Int) (w : World) (hnc : n ≤ c) (hc : c ≤ maxLen) (hl : Sl u8T w (low w.heap.size) A n bs) :
    Calls Try.prog 14 #[.slice A n c] w (ParsePost w (parseE bs) (parseM bs)) := by
  by_cases hE : itemsE bs = 0
  · exact parse_yes A n c bs w hnc hc hl hE
  · exact parse_no A n c bs w hnc hc hl hE
end Go.Proofs.Ytegdigfcgeoboaa
