
/- The walk of TextsAnswer. The list reads as bytes; the two tables of unicode/utf8 are as the program lays them. -/
import Derived.Test.YtokijdgakphfiaaDoorChecked
import Derived.Deep.RegionHeld3
import Derived.Deep.DrawnRows
import Derived.Deep.DeepCutAuto
import Derived.Deep.LoopGhost
import Derived.Outline
import Derived.Handy
import Derived.OwnWalk
import Derived.Test.YtokijdgakphfiaaDoorLd
import Derived.Test.YtokijdgakphfiaaDoorTe
namespace Go.Proofs.YtokijdgakphfiaaDoor
open Go.RowKit
attribute [local go_sem ↓] Go.wp_at_zero Go.wp_at_succ

theorem info9 : (Tryd.prog.info? 9).map (fun i => (i.zero, i.size, i.bytes)) = some (some (.string ⟨#[]⟩), 1, 16) := by kernel_rfl
theorem makeB (c : Nat) (h : c ≤ 4096) : ∀ W : World, (Instr.makeSlice 30 (.int .i64 (c : Int)) (.int .i64 (c : Int))).run Tryd.prog W = .ok (.slice (some ⟨W.heap.size, 0, none⟩) c c) (W.alloc (.cells (Array.replicate c (.int .u8 0)) 5)) := by
  intro W
  obtain ⟨i, hi, hz0, hz1, hz2⟩ := info_parts info5
  have hr := run_make (P := Tryd.prog) W 30 5 i _ Tryd.underlying30 hi hz0 .i64 .i64 c c (by omega) (by omega) (by rw [hz2]; omega) (by omega)
  rw [hr, hz1, made_one _ rfl]; simp
/-- block g holds j of n cells, the others are as they were made -/
def Upto (w : World) (g n j : Nat) (v z : Value) : Prop := w.heap[g]? = some (.cells (List.replicate j v ++ List.replicate (n - j) z).toArray 5 (0, 0))
theorem Upto.start {w : World} {g n : Nat} {v z : Value} (h : w.heap[g]? = some (.cells (Array.replicate n z) 5 (0, 0))) : Upto w g n 0 v z := by
  unfold Upto
  rw [h]; simp
theorem Upto.step {w : World} {g n j : Nat} {v z : Value} (h : Upto w g n j v z) (hj : j < n) : Upto (w.setCell ⟨g, j, none⟩ v) g n (j + 1) v z := by
  have h1 := heap_store (i := j) h v
  unfold Upto
  rw [h1]
  congr 2
  apply Array.toList_inj.1
  have e : n - j = (n - (j + 1)) + 1 := by omega
  rw [e, List.replicate_succ]
  simp [List.replicate_succ']
theorem Upto.cell {w : World} {g n j i : Nat} {v z : Value} (h : Upto w g n j v z) (hj : j ≤ n) (hi : i < n) : ∃ u, w.cell? ⟨g, i, none⟩ = some u := by
  rw [cell_of_row _ _ _ _ _ _ h]
  exact ⟨_, Array.getElem?_eq_getElem (by simp; omega)⟩
/-- a block that a call has filled is a row of its own -/
theorem Own.of_cells {α : Type} (t : Ty α) (h1 : t.size = 1) (e : TypeId) (w : World) {base g n : Nat} {xs : List α} {cs : List Value} (hb : base ≤ g) (h : w.heap[g]? = some (.cells cs.toArray e (0, 0))) (hn : xs.length = n) (hc : cs.length = n) (hm : n ≤ maxLen)
    (hx : ∀ (i : Nat) (x : α), xs[i]? = some x → ∃ c, cs[i]? = some c ∧ t.rel w (apart w (.slice (some ⟨g, 0, none⟩) n n)) x [c]) : Own t e base w (.slice (some ⟨g, 0, none⟩) n n) n xs :=
  ⟨hn, cs, ⟨by rw [h1, hc]; omega, .inr ⟨g, n, cs.toArray, rfl, hb, h, Nat.le_refl _, hm, by simp [h1, hc], by simp [h1]; exact List.take_of_length_le (by omega)⟩⟩, fun i x hi => by
    obtain ⟨c, hc1, hr⟩ := hx i x hi
    obtain ⟨hlt, e1⟩ := List.getElem?_eq_some_iff.1 hc1
    rw [h1, Nat.mul_one, List.drop_eq_getElem_cons hlt, e1]
    exact hr⟩
theorem upto_own {w : World} {base g n : Nat} {c : Nat} (hc : c < 256) (h : Upto w g n n (.int .u8 (c : Int)) (.int .u8 0)) (hb : base ≤ g) (hn : n ≤ 4096) : Own byT 5 base w (.slice (some ⟨g, 0, none⟩) n n) n (List.replicate n (UInt8.ofNat c)) := by
  have h' := h
  unfold Upto at h'
  rw [Nat.sub_self, List.replicate_zero, List.append_nil] at h'
  refine Own.of_cells byT rfl 5 w hb h' (by simp) (by simp) (by unfold maxLen; omega) (fun i x hi => ?_)
  have hi2 := (List.getElem?_eq_some_iff.1 hi).1
  simp only [List.length_replicate] at hi2
  have hx : x = UInt8.ofNat c := List.eq_of_mem_replicate (List.mem_of_getElem? hi)
  refine ⟨.int .u8 (c : Int), by simp [hi2], ?_, trivial⟩
  show _ = [Value.int .u8 (x.toNat : Int)]
  rw [hx, toNat_of hc]
theorem own_string {w : World} {base n c : Nat} {g : Nat} {xs : List UInt8} (h : Own byT 5 base w (.slice (some ⟨g, 0, none⟩) n c) n xs) : (convert 30 9 (.slice (some ⟨g, 0, none⟩) n c)).run Tryd.prog w = .ok (.string ⟨xs.toArray⟩) w :=
  arg_string h.sl (Below.refl _ _)
theorem wstep_bad {x : UInt8} (h : 250 < x.toNat) : wstep 0 x = 4 := by unfold wstep errOf; rw [if_pos rfl, if_pos h]
theorem wstep_long {x : UInt8} (h : x.toNat ≤ 250) (h2 : 126 < lenN x) : wstep 0 x = 3 := by unfold wstep errOf; rw [if_pos rfl, if_neg (by omega), if_pos h2]
theorem wstep_fine {x : UInt8} (h : x.toNat ≤ 250) (h2 : lenN x ≤ 126) : wstep 0 x = 0 := by unfold wstep errOf; rw [if_pos rfl, if_neg (by omega), if_neg (by omega)]
theorem wstep_stay {x : UInt8} {q : Int} (h : q ≠ 0) : wstep q x = q := by unfold wstep; rw [if_neg h]
set_option maxRecDepth 100000 in
set_option maxHeartbeats 4000000 in
theorem answer_law (A : Option Addr) (n c : Nat) (xs : List UInt8) (idx lang : Int) (w : World) (hi : 0 ≤ idx ∧ idx < 256) (hla : 0 ≤ lang ∧ lang < 65536) (hl : Sl byT w (low w.heap.size) A n xs) (hT : Tabs w) :
    Calls Tryd.prog 8 #[.slice A n c, .int .u8 idx, .int .u16 lang] w fun e w' => e = .returned (.bool true) ∧ Kept w w' := by
  have hln := hl.1
  by_cases h70 : 70 < n
  · have h70' : (70 : Int) < (n : Int) := by omega
    clear h70 hln
    go_enter Tryd.func8, Tryd.ntmps8
    go_wp2_with (go_at_call 10; refine (lives_any _ hT).mono ?_; rintro e w1 ⟨rfl, hk⟩)
    go_ret
    exact ⟨rfl, hk⟩
  · have h70' : (n : Int) ≤ 70 := by omega
    have hn : n ≤ 70 := by omega
    obtain ⟨i5, hi5, hz50, hz51, hz52⟩ := info_parts info5
    obtain ⟨i9, hi9, hz90, hz91, hz92⟩ := info_parts info9
    have Hln := hide hln
    have HT := hide hT
    have HL := hide hl
    clear h70 hln hT
    go_enter Tryd.func8, Tryd.ntmps8
    go_wp2_with fail
    go_loopg [7, 8, 9] n (fun gf s7 s8 s9 wr => ∃ (k : Nat) (q : Int), k + gf = n ∧ s9 = .int .i64 k ∧ s8 = .int .i64 q ∧ Hid (q = wantL (xs.take k)) ∧ Hid (Own strT 9 w.heap.size wr s7 k (tableOf (xs.take k))) ∧ Kept w wr)
    case atStart => exact ⟨0, 0, by omega, rfl, rfl, hide rfl, hide (Own.nil _ _ _ _), Below.refl _ _⟩
    case round =>
      obtain ⟨k, q, hk9, rfl, rfl, Hq, Htab, hkw⟩ := hrel
      have Hk := hide hk9
      have hkn : k ≤ n := by omega
      clear hk9
      by_cases hlt : k < n
      · obtain ⟨x, b, off, hx, rfl, hbw, _, e0w⟩ := by_at HL.out (Below.refl _ _) hlt
        have hbw' : b < w.heap.size := hbw
        have hbr : b < wr.heap.size := Nat.lt_of_lt_of_le hbw' hkw.size
        obtain ⟨go, rfl⟩ : ∃ go, go = gk := ⟨_, rfl⟩
        obtain ⟨wo, rfl⟩ : ∃ wo, wo = wr := ⟨_, rfl⟩
        obtain ⟨z, hz⟩ : ∃ z : Int, z = (x.toNat : Int) := ⟨_, rfl⟩
        have hz0 : 0 ≤ z := by omega
        have hz1 : z < 256 := by have := x.toNat_lt; omega
        obtain ⟨N, hN⟩ : ∃ N, N = lenN x := ⟨_, rfl⟩
        have hzN : z % 128 = (N : Int) := by rw [hN, hz]; unfold lenN; omega
        have hN1 : N < 128 := by rw [hN]; exact Nat.mod_lt _ (by decide)
        have hN2 : (N : Int) < 128 := by omega
        have hmk := makeB N (by omega)
        have Hcell := hide (show ∀ w', Kept w w' → w'.cell? ⟨b, off + k, none⟩ = some (.int .u8 z) ∧ b < w'.heap.size from fun w' hk => ⟨by rw [hz]; exact (hk.cell (p := ⟨b, off + k, none⟩) hbw').trans e0w, Nat.lt_of_lt_of_le hbw' hk.size⟩)
        obtain ⟨e0, _⟩ := Hcell.out wo hkw
        clear e0w
        have Hx := hide hx
        have Hz := hide hz
        have HN := hide hN
        have hlt' : (k : Int) < (n : Int) := by omega
        have hk0 : (0 : Int) ≤ (k : Int) := by omega
        have hm0 : (0 : Int) ≤ (k : Int) % 26 := by omega
        have hm1 : (k : Int) % 26 < 26 := by omega
        have hL := hide (show ((letN k : Nat) : Int) = 97 + (k : Int) % 26 by unfold letN; omega)
        clear hx hz hN
        go_wp2_with fail
        go_loopg [12] N (fun gf s12 wi => ∃ j : Nat, j + gf = N ∧ s12 = .int .i64 j ∧ Hid (Upto wi wo.heap.size N j (.int .u8 (97 + (k : Int) % 26)) (.int .u8 0)) ∧ Kept wo wi)
        case atStart => exact ⟨0, by omega, rfl, hide (Upto.start (heap_at _ rfl)), (Below.refl _ _).alloc (Nat.le_refl _) _⟩
        case round =>
          obtain ⟨j, hj9, rfl, HU, hki⟩ := hrel
          have Hj := hide hj9
          have hjN : j ≤ N := by omega
          clear hj9
          by_cases hjl : j < N
          · obtain ⟨u, hcu⟩ := HU.out.cell hjN hjl
            have hfu : wr.frozen? ⟨wo.heap.size, j, none⟩ = false := frozen_heap HU.out
            have hjl' : (j : Int) < (N : Int) := by omega
            have hj0 : (0 : Int) ≤ (j : Int) := by omega
            have hlti := heap_lt HU.out
            clear hmk e0
            go_wp2_with fail
            go_roundg (gk - 1)
            case measure => have := Hj.out; omega
            case rel => exact ⟨j + 1, by have := Hj.out; omega, by go_num, hide (HU.out.step hjl), hki.setCell (by simp) _⟩
          · have hjn : j = N := by omega
            have HU2 : Hid (Upto wr wo.heap.size N N (.int .u8 ((letN k : Nat) : Int)) (.int .u8 0)) := by rw [hL.out]; rw [hjn] at HU; exact HU
            have hjl' : (N : Int) ≤ (j : Int) := by omega
            have hll := letN_lt k
            have hownB := upto_own (by omega) HU2.out (Nat.le_refl _) (by omega)
            obtain ⟨e1, hbi⟩ := Hcell.out wr (hkw.trans' hki)
            have HOB := hide hownB
            clear hmk e0 hjn HU HU2 hownB
            by_cases hx2 : 250 < z
            · have Ht : Hid (textOf k x = ⟨(List.replicate N (UInt8.ofNat (letN k)) ++ [255]).toArray⟩) := hide (by unfold textOf textA; rw [if_pos (by have := Hz.out; omega), ← HN.out])
              go_upto_region 17 with (first
                | (at_builtin; refine wpList_append_el (T := byT) rfl (.tmp 52) (.tmp 53) 30 rfl wo.heap.size 5 i5 _ 1 Tryd.underlying30 hi5 hz50 hz51 hz52 rfl (by decide) (.slice (some ⟨wo.heap.size, 0, none⟩) N N) N _ (by rfl) (HOB.out.alloc _) _ _ _ 255 (by rfl) (heap_alloc_new wr _) ⟨rfl, trivial⟩ (by simp [Value.oneCell']) (by unfold maxLen; omega) (by omega) (by have := hki.size; simp only [World.size_alloc]; omega) ?_; intro g4 cap4 w4 hown4 hg4 hb4 hat4 hlt4; have hcv := own_string hown4; have hk4 : Kept wo w4 := (hki.alloc hki.size _).trans hb4)
                | (at_builtin; refine wpList_append_el (T := strT) rfl (.tmp 55) (.tmp 58) 44 rfl w.heap.size 9 i9 _ 16 Tryd.underlying44 hi9 hz90 hz91 hz92 rfl (by decide) u7 k _ (by rfl) ((Htab.out.kept hk4).alloc _) _ _ _ (textOf k x) (by rfl) (heap_alloc_new w4 _) ⟨by rw [Ht.out], by have := textOf_size k x; omega⟩ (by simp [Value.oneCell']) (by unfold maxLen; omega) (by omega) (by have := (hk4).size; have := hkw.size; simp only [World.size_alloc]; omega) ?_; intro g5 cap5 w5 hown5 hg5 hb5 hat5 hlt5))
              have HK5 := hide (show Kept w w5 from ((hkw.trans' hk4).alloc (hkw.trans' hk4).size _).trans hb5)
              obtain ⟨e5, hb5'⟩ := Hcell.out w5 HK5.out
              have HO5 := hide hown5
              clear e1 hbi hcv hown4 hg4 hb4 hat4 hown5 hg5 hb5 hat5 Ht HOB hkw hki hk4
              have HZb := hide (show 250 < x.toNat by have := Hz.out; omega)
              by_cases hq0 : q = 0
              · subst hq0
                go_wp2_with fail
                go_roundg (go - 1)
                case measure => have := Hk.out; omega
                case rel => exact ⟨k + 1, 4, by have := Hk.out; omega, by go_num, rfl, hide (by rw [want_take Hx.out, ← Hq.out]; exact (wstep_bad HZb.out).symm), hide (by rw [table_take Hx.out]; exact HO5.out), HK5.out⟩
              · have hqn : (q == 0) = false := by simpa using hq0
                have HQ := hide hq0
                clear hq0
                go_wp2_with fail
                go_roundg (go - 1)
                case measure => have := Hk.out; omega
                case rel => exact ⟨k + 1, q, by have := Hk.out; omega, by go_num, rfl, hide (by rw [want_take Hx.out, ← Hq.out]; exact (wstep_stay HQ.out).symm), hide (by rw [table_take Hx.out]; exact HO5.out), HK5.out⟩
            · have hx3 : z ≤ 250 := by omega
              have Ht : Hid (textOf k x = ⟨(List.replicate N (UInt8.ofNat (letN k))).toArray⟩) := hide (by unfold textOf textA; rw [if_neg (by have := Hz.out; omega), ← HN.out, List.append_nil])
              have hcv := own_string HOB.out
              clear hx2
              go_upto_region 17 with (at_builtin; refine wpList_append_el (T := strT) rfl (.tmp 55) (.tmp 58) 44 rfl w.heap.size 9 i9 _ 16 Tryd.underlying44 hi9 hz90 hz91 hz92 rfl (by decide) u7 k _ (by rfl) ((Htab.out.kept hki).alloc _) _ _ _ (textOf k x) (by rfl) (heap_alloc_new wr _) ⟨by simp [Ht.out], by have := textOf_size k x; omega⟩ (by simp [Value.oneCell']) (by unfold maxLen; omega) (by omega) (by have := (hki).size; have := hkw.size; simp only [World.size_alloc]; omega) ?_; intro g5 cap5 w5 hown5 hg5 hb5 hat5 hlt5)
              have HK5 := hide (show Kept w w5 from ((hkw.trans' hki).alloc (hkw.trans' hki).size _).trans hb5)
              obtain ⟨e5, hb5'⟩ := Hcell.out w5 HK5.out
              have HO5 := hide hown5
              clear e1 hbi hcv hown5 hg5 hb5 hat5 Ht HOB hkw hki
              have HZc := hide (show x.toNat ≤ 250 by have := Hz.out; omega)
              by_cases hq0 : q = 0
              · subst hq0
                by_cases h126 : (126 : Int) < (N : Int)
                · have HNb := hide (show 126 < lenN x by have := HN.out; omega)
                  go_wp2_with fail
                  go_roundg (go - 1)
                  case measure => have := Hk.out; omega
                  case rel => exact ⟨k + 1, 3, by have := Hk.out; omega, by go_num, rfl, hide (by rw [want_take Hx.out, ← Hq.out]; exact (wstep_long HZc.out HNb.out).symm), hide (by rw [table_take Hx.out]; exact HO5.out), HK5.out⟩
                · have h126' : (N : Int) ≤ 126 := by omega
                  clear h126
                  have HNb := hide (show lenN x ≤ 126 by have := HN.out; omega)
                  go_wp2_with fail
                  go_roundg (go - 1)
                  case measure => have := Hk.out; omega
                  case rel => exact ⟨k + 1, 0, by have := Hk.out; omega, by go_num, rfl, hide (by rw [want_take Hx.out, ← Hq.out]; exact (wstep_fine HZc.out HNb.out).symm), hide (by rw [table_take Hx.out]; exact HO5.out), HK5.out⟩
              · have hqn : (q == 0) = false := by simpa using hq0
                have HQ := hide hq0
                clear hq0
                go_wp2_with fail
                go_roundg (go - 1)
                case measure => have := Hk.out; omega
                case rel => exact ⟨k + 1, q, by have := Hk.out; omega, by go_num, rfl, hide (by rw [want_take Hx.out, ← Hq.out]; exact (wstep_stay HQ.out).symm), hide (by rw [table_take Hx.out]; exact HO5.out), HK5.out⟩
      · have hkn' : k = n := by omega
        have htk : xs.take k = xs := List.take_of_length_le (by have := Hln.out; omega)
        rw [htk] at Hq Htab
        obtain ⟨A7, c7, rfl, _, _⟩ := Htab.out.isSlice
        have hsl := Htab.out.sl
        have hchk := check_table xs
        rw [Hln.out, ← Hq.out] at hchk
        have hge : (n : Int) ≤ (k : Int) := by omega
        have HKn := hide hkn'
        have HTr := hide (HT.out.below hkw)
        have HKW := hide hkw
        have HSL := hide hsl
        clear hkn' htk hsl hkw Htab Hk
        by_cases h64 : 64 < n
        · rw [if_pos h64] at hchk
          have h64' : (64 : Int) < (n : Int) := by omega
          have cA := ans_err A7 k c7 (tableOf xs) wr idx lang (by omega) HSL.out HTr.out (by rw [hchk]; decide)
          have cK : ∀ w', Kept wr w' → _ := fun w' hk => chk_any A7 k c7 (tableOf xs) w' (by omega) (HSL.out.kept hk) (HTr.out.below hk)
          rw [hchk] at cA cK
          clear hchk h64 Hq
          go_wp2_with (first
            | (go_at_call 18; refine cA.mono ?_; rintro e w1 ⟨rfl, hk1⟩)
            | (go_at_call 19; refine (cK _ hk1).mono ?_; rintro e w2 ⟨rfl, hk2⟩)
            | (go_at_call 10; refine (lives_any _ (HTr.out.below (hk1.trans' hk2))).mono ?_; rintro e w3 ⟨rfl, hk3⟩))
          go_ret
          exact ⟨rfl, HKW.out.trans' (hk1.trans' (hk2.trans' hk3))⟩
        · rw [if_neg h64] at hchk
          have h64' : (n : Int) ≤ 64 := by omega
          have cK : ∀ w', Kept wr w' → _ := fun w' hk => chk_any A7 k c7 (tableOf xs) w' (by omega) (HSL.out.kept hk) (HTr.out.below hk)
          rw [hchk] at cK
          by_cases hq0 : q = 0
          · subst hq0
            clear h64 Hq
            by_cases hi0 : idx = 0
            · subst hi0
              have cA := ans_zero A7 k c7 (tableOf xs) wr lang (by omega) HSL.out HTr.out hchk
              clear hchk hi hla
              go_wp2_with (first
                | (go_at_call 18; refine cA.mono ?_; rintro e w1 ⟨g, rfl, hF, _, _, hk1⟩; have HF := hide (show Fill w1 g 5 4 (.int .u8 0) (u8C [4, 3, 9, 4]) from hF); clear hF)
                | (go_at_call 19; refine (cK _ hk1).mono ?_; rintro e w2 ⟨rfl, hk2⟩; have hcv := fill_string (HF.out.kept hk2) rfl 4)
                | (go_at_call 10; refine (lives_any _ (HTr.out.below (hk1.trans' hk2))).mono ?_; rintro e w3 ⟨rfl, hk3⟩))
              go_ret
              exact ⟨rfl, HKW.out.trans' (hk1.trans' (hk2.trans' hk3))⟩
            · have hip : 0 < idx := by omega
              have hi1 : idx < 256 := by omega
              have hi2 : (idx == 0) = false := by simpa using hi0
              by_cases hno : (n : Int) < idx ∨ lang ≠ 1033
              · have cA := ans_none A7 k c7 (tableOf xs) wr idx lang (by omega) HSL.out HTr.out hchk hip hi1 (by have := HKn.out; omega)
                clear hchk hi hi0
                by_cases hgt : (n : Int) < idx
                · clear hno hla
                  go_wp2_with (first
                    | (go_at_call 18; refine cA.mono ?_; rintro e w1 ⟨rfl, hk1⟩)
                    | (go_at_call 19; refine (cK _ hk1).mono ?_; rintro e w2 ⟨rfl, hk2⟩)
                    | (go_at_call 10; refine (lives_any _ (HTr.out.below (hk1.trans' hk2))).mono ?_; rintro e w3 ⟨rfl, hk3⟩))
                  go_ret
                  exact ⟨rfl, HKW.out.trans' (hk1.trans' (hk2.trans' hk3))⟩
                · have hle : idx ≤ (n : Int) := by omega
                  have hln2 : (lang != 1033) = true := by rcases hno with h | h; omega; simpa using h
                  clear hno hgt hla
                  go_wp2_with (first
                    | (go_at_call 18; refine cA.mono ?_; rintro e w1 ⟨rfl, hk1⟩)
                    | (go_at_call 19; refine (cK _ hk1).mono ?_; rintro e w2 ⟨rfl, hk2⟩)
                    | (go_at_call 10; refine (lives_any _ (HTr.out.below (hk1.trans' hk2))).mono ?_; rintro e w3 ⟨rfl, hk3⟩))
                  go_ret
                  exact ⟨rfl, HKW.out.trans' (hk1.trans' (hk2.trans' hk3))⟩
              · have hle : idx ≤ (n : Int) := by omega
                have hlg : lang = 1033 := by omega
                subst hlg
                obtain ⟨kk, hkk⟩ : ∃ kk : Nat, idx = (kk : Int) + 1 := ⟨(idx - 1).toNat, by omega⟩
                subst hkk
                have hkn2 : kk < n := by omega
                obtain ⟨x, b, off, hx, rfl, hbw, _, e0w⟩ := by_at HL.out (Below.refl _ _) hkn2
                have hts : (tableOf xs)[kk]? = some (textOf kk x) := by simp [tableOf, hx]
                have herr : errOf x = 0 := by
                  rw [← encErr_of kk x]
                  have h2 : firstErr (tableOf xs) = 0 := by
                    unfold checkErr at hchk
                    split at hchk
                    · cases hchk
                    · exact hchk
                  exact firstErr_ok h2 _ (List.mem_of_getElem? hts)
                have hx250 : x.toNat ≤ 250 ∧ lenN x ≤ 126 := by
                  unfold errOf at herr
                  split at herr
                  · cases herr
                  · split at herr
                    · cases herr
                    · omega
                have cA := ans_text A7 k c7 (tableOf xs) wr kk _ (by omega) HSL.out HTr.out hchk (by have := HKn.out; omega) (by omega) hts
                obtain ⟨N, hN⟩ : ∃ N, N = lenN x := ⟨_, rfl⟩
                have hll := letN_lt kk
                have hru : runesB (textOf kk x) = List.replicate N (letN kk) := by
                  rw [textOf_ok hx250.1, hN]
                  unfold runesB
                  rw [textB_list]
                  exact runes_text (letN_ok kk _)
                rw [hru, rep_units (by omega)] at cA
                have hlu : lenU (List.replicate N (letN kk)) = N := by unfold lenU; rw [rep_units (by omega), List.length_replicate]
                rw [hlu] at cA
                have cT : ∀ (Au : Option Addr) (cu : Nat) (w' : World), Sl u16T w' (low w'.heap.size) Au N (List.replicate N (letN kk)) → Calls Tryd.prog 16 #[.slice Au N cu] w' fun e w'' => e = .returned (.string ⟨(toldL (List.replicate N (letN kk))).toArray⟩) ∧ Kept w' w'' := fun Au cu w' h => told_any Au N cu _ w' (by omega) h
                have HTL := hide (show (toldL (List.replicate N (letN kk))).length = 2 + 2 * N by rw [toldL_len, List.length_replicate])
                generalize toldL (List.replicate N (letN kk)) = tl at *
                obtain ⟨z, hz⟩ : ∃ z : Int, z = (x.toNat : Int) := ⟨_, rfl⟩
                have hz0 : 0 ≤ z := by omega
                have hz1 : z < 256 := by have := x.toNat_lt; omega
                have hzN : z % 128 = (N : Int) := by rw [hN, hz]; unfold lenN; omega
                have hN2 : (N : Int) ≤ 126 := by omega
                have hbw' : b < w.heap.size := hbw
                have Hcell := hide (show ∀ w', Kept w w' → w'.cell? ⟨b, off + kk, none⟩ = some (.int .u8 z) ∧ b < w'.heap.size from fun w' hk => ⟨by rw [hz]; exact (hk.cell (p := ⟨b, off + kk, none⟩) hbw').trans e0w, Nat.lt_of_lt_of_le hbw' hk.size⟩)
                have hk0 : (0 : Int) ≤ (kk : Int) := by omega
                have hk1' : (kk : Int) < 255 := by omega
                have hk2' : (kk : Int) < (n : Int) := by omega
                have hm0 : (0 : Int) ≤ (kk : Int) % 26 := by omega
                have hm1 : (kk : Int) % 26 < 26 := by omega
                have hLt := hide (show ((letN kk : Nat) : Int) = 97 + (kk : Int) % 26 by unfold letN; omega)
                obtain ⟨i40, hi40, hz400, hz401, hz402⟩ := info_parts info40
                have CT := hide cT
                clear hchk hi hla hno hx hts herr hru hlu hz hN hx250 hll e0w cT hi0
                obtain ⟨K, hK⟩ : ∃ K, K = 2 + 2 * N := ⟨_, rfl⟩
                rw [← hK] at HTL
                have cA2 : Calls Tryd.prog 18 #[.slice A7 k c7, .int .u8 ((kk : Int) + 1), .int .u16 1033] wr fun e w' => ∃ g, e = .returned (.tuple #[.slice (some ⟨g, 0, none⟩) K K, .int .i64 0]) ∧ Fill w' g 5 K (.int .u8 0) (u8C tl) ∧ Kept wr w' := cA.mono fun e w' ⟨g, m, h1, _, h2, h3, _, _, h4⟩ => by
                  rw [h1, ← hK] at h2 h3
                  exact ⟨g, h2, h3, h4⟩
                clear cA hK
                go_upto_region 34 with (first
                  | (go_at_call 18; refine cA2.mono ?_; rintro e w1 ⟨g, rfl, hF, hk1⟩; have HF := hide hF; clear hF)
                  | (go_at_call 19; refine (cK _ hk1).mono ?_; rintro e w2 ⟨rfl, hk2⟩; have HF2 := hide (HF.out.kept hk2); have HK2 := hide (HKW.out.trans' (hk1.trans' hk2)); clear hk1 hk2))
                have HT2 := hide (HT.out.below HK2.out)
                clear cA2 cK HF
                go_loopg [15, 16] N (fun gf s15 s16 ws => ∃ j : Nat, j + gf = N ∧ s16 = .int .i64 j ∧ Hid (Own u16T 40 w2.heap.size ws s15 j (List.replicate j (letN kk))) ∧ Kept w2 ws)
                case atStart => exact ⟨0, by omega, rfl, hide (Own.nil _ _ _ _), Below.refl _ _⟩
                case round =>
                  obtain ⟨j, hj9, rfl, HO, hks⟩ := hrel
                  have Hj := hide hj9
                  have hjN : j ≤ N := by omega
                  clear hj9
                  obtain ⟨e0, hbr⟩ := Hcell.out wr (HK2.out.trans' hks)
                  by_cases hjl : j < N
                  · have hjl' : (j : Int) < (N : Int) := by omega
                    go_wp2_with (at_builtin; go_loud (refine wpList_append_el (T := u16T) rfl (.tmp 144) (.tmp 151) 24 rfl w2.heap.size 40 i40 _ 2 Tryd.underlying24 hi40 hz400 hz401 hz402 rfl (by decide) u15 j _ (by rfl) (HO.out.alloc _) _ _ _ (letN kk) (by rfl) (heap_alloc_new wr _) ⟨by simp [hLt.out], by have := letN_lt kk; omega⟩ (by simp [Value.oneCell']) (by unfold maxLen; omega) (by omega) (by have := hks.size; simp only [World.size_alloc]; omega) ?_); intro g5 cap5 w5 hown5 hg5 hb5 hat5 hlt5)
                    go_roundg (gk - 1)
                    case measure => have := Hj.out; omega
                    case rel => exact ⟨j + 1, by have := Hj.out; omega, by go_num, hide (by rw [List.replicate_succ']; exact hown5), (hks.alloc hks.size _).trans hb5⟩
                  · have hjn : j = N := by omega
                    obtain ⟨Au, cu, rfl, _, _⟩ := HO.out.isSlice
                    have HSU : Hid (Sl u16T wr (low wr.heap.size) Au j (List.replicate N (letN kk))) := by rw [← hjn]; exact hide HO.out.sl
                    have HCT : Hid (∀ w', Kept wr w' → Calls Tryd.prog 16 #[.slice Au j cu] w' fun e w'' => e = .returned (.string ⟨tl.toArray⟩) ∧ Kept w' w'') := hide (fun w' hk => by
                      have h := HSU.out.kept hk
                      have h2 := CT.out Au cu w' (by rw [← hjn]; rw [← hjn] at h; exact h)
                      rw [← hjn] at h2
                      exact h2)
                    have hge2 : (N : Int) ≤ (j : Int) := by omega
                    have HFr := hide (HF2.out.kept hks)
                    have HKr := hide (HK2.out.trans' hks)
                    have HTr2 := hide (HT.out.below HKr.out)
                    have hkeep : ∀ w', Kept wr w' → ((convert 30 9 (.slice (some ⟨g, 0, none⟩) K K)).run Tryd.prog w' = .ok (.string ⟨tl.toArray⟩) w' ∧ Kept wr w') := fun w' hk => ⟨fill_string (HFr.out.kept hk) HTL.out K, hk⟩
                    have HKp := hide hkeep
                    have hTw : ∀ w', ((convert 30 9 (.slice (some ⟨g, 0, none⟩) K K)).run Tryd.prog w' = .ok (.string ⟨tl.toArray⟩) w' ∧ Kept wr w') → Tabs w' ∧ Kept wr w' := fun w' h => ⟨HTr2.out.below h.2, h.2⟩
                    have hTT : ((⟨tl.toArray⟩ : ByteArray).toList == (⟨tl.toArray⟩ : ByteArray).toList) = true := by simp
                    clear hkeep hjn HO hks hjl
                    go_upto_region 37 with fail
                    go_region_held3 (fun w' => (convert 30 9 (.slice (some ⟨g, 0, none⟩) K K)).run Tryd.prog w' = .ok (.string ⟨tl.toArray⟩) w' ∧ Kept wr w') (first | assumption | exact HKp.out _ (Below.refl _ _).drew | exact HKp.out _ ((hTw _ (by assumption)).2.trans' hk)) (first
                      | (go_at_call 16; refine (HCT.out _ (hTw _ (by assumption)).2).mono ?_; rintro e w9 ⟨rfl, hk⟩)
                      | (go_at_call 10; refine (lives_any _ (hTw _ (by assumption)).1).mono ?_; rintro e w9 ⟨rfl, hk⟩))
                    have hkz := (hTw _ (by assumption)).2
                    clear hTw
                    go_wp2_with fail
                    go_ret
                    exact ⟨rfl, HKr.out.trans' hkz⟩
          · have hqn : (q == 0) = false := by simpa using hq0
            have hqn2 : (q != 0) = true := by simpa using hq0
            have cA := ans_err A7 k c7 (tableOf xs) wr idx lang (by omega) HSL.out HTr.out (by rw [hchk]; exact hq0)
            rw [hchk] at cA
            clear hchk h64 Hq hq0
            go_wp2_with (first
              | (go_at_call 18; refine cA.mono ?_; rintro e w1 ⟨rfl, hk1⟩)
              | (go_at_call 19; refine (cK _ hk1).mono ?_; rintro e w2 ⟨rfl, hk2⟩)
              | (go_at_call 10; refine (lives_any _ (HTr.out.below (hk1.trans' hk2))).mono ?_; rintro e w3 ⟨rfl, hk3⟩))
            go_ret
            exact ⟨rfl, HKW.out.trans' (hk1.trans' (hk2.trans' hk3))⟩
end Go.Proofs.YtokijdgakphfiaaDoor
