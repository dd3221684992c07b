/- Limits: the last loops. -/
import Derived.Test.YtegdigfcgeoboaaChecked
import Derived.Deep.RegionHeld3
import Derived.Deep.DrawnRows
import Derived.Deep.DeepCutAuto
import Derived.Deep.LoopGhost
import Derived.Outline
import Derived.Handy
import Derived.OwnWalk
import Derived.Test.YtegdigfcgeoboaaN2
import Derived.Test.YtegdigfcgeoboaaN15
set_option linter.unusedVariables false
set_option linter.unusedSimpArgs false
set_option linter.unusedSectionVars false
/- ReportsLimits from region 28 on. Printed by gen_lim.py. -/
namespace Go.Proofs.Ytegdigfcgeoboaa
open Go.RowKit
attribute [local go_sem ↓] Go.wp_at_zero Go.wp_at_succ

noncomputable def code19 : Code := (Try.f5.body.bind (fromR 19)).getD .skip
noncomputable def codeL6 : Code := restC (restC (restC code19))
theorem all_len {n : Int} (hn : -1 ≤ n ∧ n ≤ 1) (i : Nat) : (allL n i).length ≤ 300 ∧ (partL n i).length ≤ 290 := by
  have h : (partL n i).length ≤ 290 := by
    unfold partL
    split <;> simp [repL_len] <;> omega
  refine ⟨?_, h⟩
  unfold allL
  rw [List.length_append, List.length_append]
  have h1 : headL.length = 3 := rfl
  have h2 : endL.length = 1 := rfl
  omega
theorem lim_facts {n : Int} (hn : -1 ≤ n ∧ n ≤ 1) {i : Nat} (hi : i < 5) : (∀ x ∈ allL n i, x.wide = true) ∧ (parseS (allL n i)).1 = if 0 < n then 3 else 0 := by
  have hw := wide_all ⟨i, hi⟩
  simp only [Bool.and_eq_true] at hw
  obtain ⟨⟨a, b⟩, c⟩ := hw
  rcases (by omega : n = -1 ∨ n = 0 ∨ n = 1) with rfl | rfl | rfl
  · refine ⟨List.all_eq_true.1 a, ?_⟩
    rw [if_neg (by decide)]
    rcases (by omega : i = 0 ∨ i = 1 ∨ i = 2 ∨ i = 3 ∨ i = 4) with rfl | rfl | rfl | rfl | rfl
    · exact lim0a
    · exact lim1a
    · exact lim2a
    · exact lim3a
    · exact lim4a
  · refine ⟨List.all_eq_true.1 b, ?_⟩
    rw [if_neg (by decide)]
    rcases (by omega : i = 0 ∨ i = 1 ∨ i = 2 ∨ i = 3 ∨ i = 4) with rfl | rfl | rfl | rfl | rfl
    · exact lim0b
    · exact lim1b
    · exact lim2b
    · exact lim3b
    · exact lim4b
  · refine ⟨List.all_eq_true.1 c, ?_⟩
    rw [if_pos (by decide)]
    rcases (by omega : i = 0 ∨ i = 1 ∨ i = 2 ∨ i = 3 ∨ i = 4) with rfl | rfl | rfl | rfl | rfl
    · exact lim0c
    · exact lim1c
    · exact lim2c
    · exact lim3c
    · exact lim4c
/-- the descriptor's bytes, written and parsed -/
theorem lim_join {L : List It} (hok : ∀ x ∈ L, x.wide = true ∧ x.ok) (hl : L.length ≤ 300) : joinE L = 0 ∧ parseE (joinB L) = (parseS L).1 ∧ (joinB L).length ≤ 1500 := by
  have hj := joinB_len L hok
  have hij := items_join L hok
  have h1 : joinE L = 0 := by
    unfold joinE
    rw [if_pos (List.all_eq_true.2 fun x hx => (hok x hx).1), if_neg (by omega)]
  have h2 : itemsE (joinB L) = 0 := by
    unfold itemsE goodB
    rw [hij, if_neg (by omega), if_pos]
    rw [List.all_eq_true]
    intro x hx
    have := (wide_iff (hok x hx).1 (hok x hx).2).2.2.2.2
    rw [decide_eq_true_eq]; omega
  refine ⟨h1, ?_, by omega⟩
  unfold parseE
  rw [if_neg (by rw [h2]; simp), hij]
set_option maxRecDepth 1000000 in
set_option maxHeartbeats 8000000 in
theorem lim_6 {u0 u1 u2 u8 u9 u10 u11 u12 u13 u14 u15 u16 u17 u18 u19 u20 u21 u22 u23 u24 u25 u26 u27 u28 u29 u30 u31 u32 u33 u34 u35 u36 u37 u38 u39 u40 u41 u42 u43 u44 u45 u46 u47 u48 u49 u50 u51 u52 u53 u54 u55 u56 u57 u58 u59 u60 u61 u62 u63 u64 u65 u66 u67 u68 u69 u70 u71 u72 u73 u74 u75 u76 u77 u78 u79 u80 u81 u82 u83 u84 u85 u86 u87 u88 u89 u90 u91 u92 u93 u94 u95 u96 u97 u98 u99 u100 u101 u102 u103 u104 u105 u106 u107 u108 u109 u110 u111 u112 u113 u114 u115 u116 u117 u118 u119 u120 u121 u122 u123 u124 u125 u126 u127 u128 u129 u130 u131 u132 u133 u134 u135 u136 u137 u138 u139 u140 : Value} {B : Nat} {w W : World} {P : Nat} {n : Int} {v0 v1 v2 v3 v4 v5 v6 : Value} (hn : -1 ≤ n ∧ n ≤ 1) (hk : Kept w W) (hPw : w.heap.size ≤ P) (hP : W.heap[P]? = some (.cells #[v0, v1, v2, v3, v4] 48 (0, 0)))
    (h5 : PartIs P B W v5 headL) (h6 : PartIs P B W v6 endL) (hPB : P < B) (hBW : B ≤ W.heap.size) (p0 : PartIs P B W v0 (partL n 0)) (p1 : PartIs P B W v1 (partL n 1)) (p2 : PartIs P B W v2 (partL n 2)) (p3 : PartIs P B W v3 (partL n 3)) (p4 : PartIs P B W v4 (partL n 4))
    (K K2 : Act → World → Prop) (hK : ∀ a w', Code.wp Try.prog (restC (headC codeL6)) (Exit.then K2 (bodyPost Try.prog Try.f5 fun e w' => e = .returned (.bool true) ∧ Kept w w')) a w' → K a w') (hK2 : ∀ a w', Code.wp Try.prog (restC codeL6) (bodyPost Try.prog Try.f5 fun e w' => e = .returned (.bool true) ∧ Kept w w') a w' → K2 a w') :
    Code.wp Try.prog (headC (headC codeL6)) (Exit.then K (Exit.then K2 (bodyPost Try.prog Try.f5 fun e w' => e = .returned (.bool true) ∧ Kept w w'))) ⟨#[u0, u1, u2, .int .i64 n, .bool (decide (0 < n)), v5, v6, .pointer (some ⟨P, 0, none⟩), u8, u9, u10, u11, u12, u13, u14, u15, u16, u17, u18, u19, u20, u21, u22, u23, u24, u25, u26, u27, u28, u29, u30, u31, u32, u33, u34, u35, u36, u37, u38, u39, u40, u41, u42, u43, u44, u45, u46, u47, u48, u49, u50, u51, u52, u53, u54, u55, u56, u57, u58, u59, u60, u61, u62, u63, u64, u65, u66, u67, u68, u69, u70, u71, u72, u73, u74, u75, u76, u77, u78, u79, u80, u81, u82, u83, u84, u85, u86, u87, u88, u89, u90, u91, u92, u93, u94, u95, u96, u97, u98, u99, u100, u101, u102, u103, u104, u105, u106, u107, u108, u109, u110, u111, u112, u113, u114, u115, u116, u117, u118, u119, u120, u121, u122, u123, u124, u125, u126, u127, u128, u129, u130, u131, u132, u133, u134, u135, u136, u137, u138, u139, u140], []⟩ W := by
  conv => arg 2; whnf
  conv at hK => enter [a, w', 1, 2]; whnf
  conv at hK2 => enter [a, w', 1, 2]; whnf
  dsimp only
  obtain ⟨i29, hi29, hz0, hz1, hz2⟩ := info_parts info29
  obtain ⟨vs, hvs⟩ : ∃ vs : Nat → Value, (∀ i, i < 5 → PartIs P B W (vs i) (partL n i)) ∧ (∀ i, i < 5 → W.cell? ⟨P, i, none⟩ = some (vs i)) := by
    refine ⟨fun i => match i with | 0 => v0 | 1 => v1 | 2 => v2 | 3 => v3 | _ => v4, fun i hi => ?_, fun i hi => ?_⟩
    · rcases (by omega : i = 0 ∨ i = 1 ∨ i = 2 ∨ i = 3 ∨ i = 4) with rfl | rfl | rfl | rfl | rfl
      · exact p0
      · exact p1
      · exact p2
      · exact p3
      · exact p4
    · rcases (by omega : i = 0 ∨ i = 1 ∨ i = 2 ∨ i = 3 ∨ i = 4) with rfl | rfl | rfl | rfl | rfl <;> exact cell_heap hP rfl
  obtain ⟨hvp, hvc⟩ := hvs
  have Hn := hide hn
  have Hk := hide hk
  have Hvp := hide hvp
  have Hvc := hide hvc
  have hPl := heap_lt hP
  obtain ⟨A5, c5, rfl, _, _, hs5⟩ := h5
  obtain ⟨A6, c6, rfl, _, _, hs6⟩ := h6
  have Hs5 := hide hs5
  have Hs6 := hide hs6
  obtain ⟨ov, hov⟩ : ∃ ov, decide (0 < n) = ov := ⟨_, rfl⟩
  rw [hov]
  have Hov := hide hov
  have hh3 : headL.length = 3 := rfl
  have hh1 : endL.length = 1 := rfl
  clear hn hk hvp hvc hP p0 p1 p2 p3 p4 hs5 hs6 hov
  rw [hh3, hh1]
  clear hh3 hh1
  go_wp2_with fail
  go_loopg [13] 5 (fun g s13 wr => ∃ i : Nat, i + g = 5 ∧ s13 = .int .i64 i ∧ Kept W wr)
  case atStart => exact ⟨0, by omega, rfl, Below.refl _ _⟩
  case round =>
    obtain ⟨i, hi, rfl, hkr⟩ := hrel
    have Hi := hide hi
    clear hi
    have hkz := hkr.size
    by_cases hlt : i < 5
    · have hi0 : (0 : Int) ≤ (i : Int) := by omega
      have hi5 : (i : Int) < 5 := by omega
      obtain ⟨Ap, cp, hvi, _, _, hsp⟩ := Hvp.out i hlt
      have hci := Hvc.out i hlt
      rw [hvi] at hci
      have hcr : wr.cell? ⟨P, i, none⟩ = some (.slice Ap (partL n i).length cp) := (hkr.cell (p := ⟨P, i, none⟩) hPl).trans hci
      have hPr : P < wr.heap.size := by omega
      have hlen := all_len Hn.out i
      have hfacts := lim_facts Hn.out hlt
      have hsH : Sl itT wr (low wr.heap.size) A5 3 headL := Hs5.out.keep (fun b hb => show b < wr.heap.size by omega) (fun b o hb => hkr.cell (p := ⟨b, o, none⟩) (by show b < _; omega))
      have hsE : Sl itT wr (low wr.heap.size) A6 1 endL := Hs6.out.keep (fun b hb => show b < wr.heap.size by omega) (fun b o hb => hkr.cell (p := ⟨b, o, none⟩) (by show b < _; omega))
      have hsP : Sl itT wr (low wr.heap.size) Ap (partL n i).length (partL n i) := hsp.keep (fun b hb => show b < wr.heap.size by omega) (fun b o hb => hkr.cell (p := ⟨b, o, none⟩) (by show b < _; omega))
      obtain ⟨L, hL⟩ : ∃ L, allL n i = L := ⟨_, rfl⟩
      have hLe : ([] ++ headL ++ partL n i ++ endL : List It) = L := by rw [List.nil_append]; exact hL
      rw [hL] at hlen hfacts
      obtain ⟨np, hnp⟩ : ∃ np, (partL n i).length = np := ⟨_, rfl⟩
      rw [hnp] at hcr hsP hlen
      have hLl : L.length = 3 + np + 1 := by rw [← hLe]; simp [hnp]; rfl
      have HLe := hide hLe
      have Hfacts := hide hfacts
      have HLl := hide hLl
      obtain ⟨hL1, hL2⟩ := hlen
      clear hci hvi hL hLe hfacts hsp hnp hLl hL1
      go_wp2_with fail
      refine wp_region_held_drew (S := fun w' => (∀ b o, b < wr.heap.size → w'.cell? ⟨b, o, none⟩ = wr.cell? ⟨b, o, none⟩) ∧ Below wr.heap.size wr w') (by kernel_rfl) since_start (fun hS => ?_)
      refine wpAnyH_take (i := 1) (v := ?_) rfl (by kernel_rfl) (by kernel_rfl) (by kernel_rfl) (fun _ _ _ h => h) (Or.inl ⟨by kernel_rfl, ?_⟩) hS ?_
      rotate_left
      · intro w' hS'
        have hq := hS'.1
        have hq2 := hS'.2
        clear hS'
        first | (go_simp; done) | (go_simp; with_reducible rfl)
      try simp only [Act.put, List.getElem_toArray, List.getElem_cons_zero, List.getElem_cons_succ, List.setIfInBounds_toArray, List.set_cons_zero, List.set_cons_succ]
      refine wpAnyH_take (i := 3) (v := ?_) rfl (by kernel_rfl) (by kernel_rfl) (by kernel_rfl) (fun _ _ _ h => h) (Or.inl ⟨by kernel_rfl, ?_⟩) hS ?_
      rotate_left
      · intro w' hS'
        have hq := hS'.1
        have hq2 := hS'.2
        clear hS'
        first | (go_simp; done) | (go_simp; with_reducible rfl)
      try simp only [Act.put, List.getElem_toArray, List.getElem_cons_zero, List.getElem_cons_succ, List.setIfInBounds_toArray, List.set_cons_zero, List.set_cons_succ]
      refine wpAnyH_take (i := 4) (v := ?_) rfl (by kernel_rfl) (by kernel_rfl) (by kernel_rfl) (fun _ _ _ h => h) (Or.inl ⟨by kernel_rfl, ?_⟩) hS ?_
      rotate_left
      · intro w' hS'
        have hq := hS'.1
        have hq2 := hS'.2
        clear hS'
        first | (go_simp; done) | (go_simp; with_reducible rfl)
      try simp only [Act.put, List.getElem_toArray, List.getElem_cons_zero, List.getElem_cons_succ, List.setIfInBounds_toArray, List.set_cons_zero, List.set_cons_succ]
      refine wpAnyH_take (i := 5) (v := ?_) rfl (by kernel_rfl) (by kernel_rfl) (by kernel_rfl) (fun _ _ _ h => h) (Or.inl ⟨by kernel_rfl, ?_⟩) hS ?_
      rotate_left
      · intro w' hS'
        have hq := hS'.1
        have hq2 := hS'.2
        clear hS'
        first | (go_simp; done) | (go_simp; with_reducible rfl)
      try simp only [Act.put, List.getElem_toArray, List.getElem_cons_zero, List.getElem_cons_succ, List.setIfInBounds_toArray, List.set_cons_zero, List.set_cons_succ]
      refine wpAnyH_take (i := 7) (v := ?_) rfl (by kernel_rfl) (by kernel_rfl) (by kernel_rfl) (fun _ _ _ h => h) (Or.inl ⟨by kernel_rfl, ?_⟩) hS ?_
      rotate_left
      · intro w' hS'
        have hq := hS'.1
        have hq2 := hS'.2
        clear hS'
        first | (go_simp; done) | (go_simp; with_reducible rfl)
      try simp only [Act.put, List.getElem_toArray, List.getElem_cons_zero, List.getElem_cons_succ, List.setIfInBounds_toArray, List.set_cons_zero, List.set_cons_succ]
      refine wpAnyH_ready (rs := [0]) (by kernel_rfl) (by simp) ?_
      refine (AllReadyH.cons rfl (fun K hK => ?_) AllReadyH.nil)
      go_simp
      try dsimp only
      refine hK.out _ _ ?_ (fun hS => ?_)
      · exact ⟨fun b o hb => ((of_drew' ((Below.refl wr.heap.size wr).alloc (Nat.le_refl _) _)).cell (p := ⟨b, o, none⟩) hb), of_drew' ((Below.refl wr.heap.size wr).alloc (Nat.le_refl _) _)⟩
      clear hK K
      try simp only [Act.put, List.getElem_toArray, List.getElem_cons_zero, List.getElem_cons_succ, List.setIfInBounds_toArray, List.set_cons_zero, List.set_cons_succ]
      have hown0 : Own itT 29 wr.heap.size (wr.alloc (.cells #[] 29)).drew (.slice (some ⟨wr.heap.size, 0, none⟩) 0 0) 0 [] := Own.lit0 itT 29 _ (Nat.le_refl _) (heap_drew (heap_at _ rfl))
      refine wpAnyH_ready (rs := [2]) (by kernel_rfl) (by simp) ?_
      refine (AllReadyH.cons rfl (fun K hK => ?_) AllReadyH.nil)
      have hjq1 := hS.2
      refine step_append_sl (T := itT) rfl (.tmp 113) (.tmp 114) 22 rfl wr.heap.size 29 i29 _ 24 Try.underlying22 hi29 hz0 hz1 hz2 rfl (show 0 < 4 by decide) _ 0 [] (by rfl) hown0 A5 3 c5 headL (by rfl) (sl_apart hsH hS (Nat.le_refl _) (fun g hg => (hown0.lt hg).1)) (by_one29 _ _) (by unfold maxLen; omega) (by omega) (hjq1.size) ?_
      intro uq1 xq1 hownq1 hgq1 hbq1 hatq1
      have hmq1 : Below wr.heap.size wr xq1 := hjq1.trans hbq1
      refine hK.out _ _ ?_ (fun hS => ?_)
      · exact ⟨(bcell hmq1).1, hmq1⟩
      clear hK K
      try simp only [Act.put, List.getElem_toArray, List.getElem_cons_zero, List.getElem_cons_succ, List.setIfInBounds_toArray, List.set_cons_zero, List.set_cons_succ]
      refine wpAnyH_ready (rs := [6]) (by kernel_rfl) (by simp) ?_
      refine (AllReadyH.cons rfl (fun K hK => ?_) AllReadyH.nil)
      have hjq2 := hS.2
      refine step_append_sl (T := itT) rfl (.tmp 115) (.tmp 118) 22 rfl wr.heap.size 29 i29 _ 24 Try.underlying22 hi29 hz0 hz1 hz2 rfl (show 0 < 4 by decide) _ (0 + 3) ([] ++ headL) (by rfl) hownq1 Ap np cp (partL n i) (by rfl) (sl_apart hsP hS (Nat.le_refl _) (fun g hg => (hownq1.lt hg).1)) (by_one29 _ _) (by unfold maxLen; omega) (by omega) (hjq2.size) ?_
      intro uq2 xq2 hownq2 hgq2 hbq2 hatq2
      have hmq2 : Below wr.heap.size wr xq2 := hjq2.trans hbq2
      refine hK.out _ _ ?_ (fun hS => ?_)
      · exact ⟨(bcell hmq2).1, hmq2⟩
      clear hK K
      try simp only [Act.put, List.getElem_toArray, List.getElem_cons_zero, List.getElem_cons_succ, List.setIfInBounds_toArray, List.set_cons_zero, List.set_cons_succ]
      refine wpAnyH_ready (rs := [8]) (by kernel_rfl) (by simp) ?_
      refine (AllReadyH.cons rfl (fun K hK => ?_) AllReadyH.nil)
      have hjq3 := hS.2
      refine step_append_sl (T := itT) rfl (.tmp 119) (.tmp 120) 22 rfl wr.heap.size 29 i29 _ 24 Try.underlying22 hi29 hz0 hz1 hz2 rfl (show 0 < 4 by decide) _ (0 + 3 + np) ([] ++ headL ++ partL n i) (by rfl) hownq2 A6 1 c6 endL (by rfl) (sl_apart hsE hS (Nat.le_refl _) (fun g hg => (hownq2.lt hg).1)) (by_one29 _ _) (by unfold maxLen; omega) (by omega) (hjq3.size) ?_
      intro uq3 xq3 hownq3 hgq3 hbq3 hatq3
      have hmq3 : Below wr.heap.size wr xq3 := hjq3.trans hbq3
      refine hK.out _ _ ?_ (fun hS => ?_)
      · exact ⟨(bcell hmq3).1, hmq3⟩
      clear hK K
      try simp only [Act.put, List.getElem_toArray, List.getElem_cons_zero, List.getElem_cons_succ, List.setIfInBounds_toArray, List.set_cons_zero, List.set_cons_succ]
      refine wpAnyH_take (i := 9) (v := ?_) rfl (by kernel_rfl) (by kernel_rfl) (by kernel_rfl) (fun _ _ _ h => h) (Or.inl ⟨by kernel_rfl, ?_⟩) hS ?_
      rotate_left
      · intro w' hS'
        have hq := hS'.1
        have hq2 := hS'.2
        clear hS'
        first | (go_simp; done) | (go_simp; with_reducible rfl)
      try simp only [Act.put, List.getElem_toArray, List.getElem_cons_zero, List.getElem_cons_succ, List.setIfInBounds_toArray, List.set_cons_zero, List.set_cons_succ]
      refine wpAnyH_done (by kernel_rfl) ?_ _
      clear hS
      obtain ⟨NL, hNL⟩ : ∃ NL, L.length = NL := ⟨_, rfl⟩
      have hownL : Own itT 29 wr.heap.size xq3 uq3 NL L := by
        have h := hownq3
        rw [HLe.out] at h
        have e : 0 + 3 + np + 1 = NL := by have := HLl.out; omega
        rw [e] at h
        exact h
      have hokL : ∀ x ∈ L, x.wide = true ∧ x.ok := by
        obtain ⟨A, c, e, _, _⟩ := hownL.isSlice
        rw [e] at hownL
        exact fun x hx => ⟨Hfacts.out.1 x hx, hownL.sl.its x hx⟩
      obtain ⟨hj1, hj2, hj3⟩ := lim_join hokL (by have := all_len Hn.out i; have h := HLe.out; have h2 := HLl.out; omega)
      obtain ⟨AL, cL, rfl, hcl1, hcl2⟩ := hownL.isSlice
      have hsL := hownL.sl
      obtain ⟨jb, hjb⟩ : ∃ jb, joinB L = jb := ⟨_, rfl⟩
      obtain ⟨JL, hJL⟩ : ∃ JL, jb.length = JL := ⟨_, rfl⟩
      rw [hjb] at hj2 hj3
      rw [hJL] at hj3
      have hjo : Calls Try.prog 11 #[.slice AL NL cL] xq3 fun e w'' => ∃ A', e = .returned (.tuple #[.slice A' JL JL, .int .i64 0]) ∧ Sl u8T w'' (low w''.heap.size) A' JL jb ∧ Kept xq3 w'' :=
        (join_any AL NL cL L xq3 (by rw [← hNL]; have := HLl.out; omega) hsL).mono fun e w'' h => by
          rw [hj1, hjb, hJL] at h
          rcases h with ⟨h, _⟩ | ⟨_, A', h1, h2, h3⟩
          · exact absurd rfl h
          · exact ⟨A', h1, h2.keep (fun g hg => hg.2) (fun _ _ _ => rfl), h3⟩
      have hpa : ∀ (w' : World) (A : Option Addr), Sl u8T w' (low w'.heap.size) A JL jb → Calls Try.prog 14 #[.slice A JL JL] w' (ParsePost w' (parseE jb) (parseM jb)) := fun w' A hs => parse_any A JL JL jb w' (Nat.le_refl _) (by unfold maxLen; omega) hs
      have hE := hj2.trans Hfacts.out.2
      rw [hE] at hpa
      have hkx : Kept wr xq3 := hmq3
      have Hkx := hide hkx
      have Hdec := Hov.out
      clear hownq1 hownq2 hownq3 hown0 hownL hokL hj1 hj2 hsL hE hkx hmq1 hmq2 hmq3 hjq1 hjq2 hjq3 hbq1 hbq2 hbq3 hgq1 hgq2 hgq3 hatq1 hatq2 hatq3 hsP hsH hsE hcr hcl1 hcl2 hNL hjb hJL
      cases ov with
      | true =>
        rw [if_pos (of_decide_eq_true Hdec)] at hpa
        have hpa3 : ∀ (w' : World) (A : Option Addr), Sl u8T w' (low w'.heap.size) A JL jb → Calls Try.prog 14 #[.slice A JL JL] w' fun e w'' => e = .returned (.tuple #[.agg #[.slice none 0 0, .slice none 0 0, .bool false], .int .i64 3]) ∧ Kept w' w'' := fun w' A hs => (hpa w' A hs).mono fun e w'' ⟨h1, h2⟩ => by
          rcases h2 with ⟨_, h2⟩ | ⟨h2, _⟩
          · exact ⟨h2, h1⟩
          · cases h2
        clear hpa Hdec
        go_wp2_with fail
        go_at_call 11
        refine hjo.mono ?_
        rintro e w4 ⟨A7, rfl, hs7, hk4⟩
        go_wp2_with fail
        go_at_call 14
        refine (hpa3 _ A7 hs7).mono ?_
        rintro e w5 ⟨rfl, hk5⟩
        have hkE : Kept wr w5 := Hkx.out.trans' (hk4.trans' hk5)
        have hz5 := hkE.size
        clear hjo hpa3 hs7 hk4 hk5
        go_wp2_with fail
        go_roundg (gk - 1)
        case measure => have := Hi.out; omega
        case rel => exact ⟨i + 1, by have := Hi.out; omega, by go_num, hkr.trans' (hkE.trans' (by go_grown))⟩
      | false =>
        rw [if_neg (of_decide_eq_false Hdec)] at hpa
        have hpa3 : ∀ (w' : World) (A : Option Addr), Sl u8T w' (low w'.heap.size) A JL jb → Calls Try.prog 14 #[.slice A JL JL] w' fun e w'' => (∃ a1 a2 a3 b1 b2 b3 q, e = .returned (.tuple #[.agg #[.slice a1 a2 a3, .slice b1 b2 b3, .bool q], .int .i64 0])) ∧ Kept w' w'' := fun w' A hs => (hpa w' A hs).mono fun e w'' ⟨h1, h2⟩ => by
          rcases h2 with ⟨h2, _⟩ | ⟨_, Af, Ac, h2, _⟩
          · exact absurd rfl h2
          · exact ⟨⟨_, _, _, _, _, _, _, h2⟩, h1⟩
        clear hpa Hdec
        go_wp2_with fail
        go_at_call 11
        refine hjo.mono ?_
        rintro e w4 ⟨A7, rfl, hs7, hk4⟩
        go_wp2_with fail
        go_at_call 14
        refine (hpa3 _ A7 hs7).mono ?_
        rintro e w5 ⟨⟨a1, a2, a3, b1, b2, b3, q, rfl⟩, hk5⟩
        have hkE : Kept wr w5 := Hkx.out.trans' (hk4.trans' hk5)
        have hz5 := hkE.size
        clear hjo hpa3 hs7 hk4 hk5
        go_wp2_with fail
        go_roundg (gk - 1)
        case measure => have := Hi.out; omega
        case rel => exact ⟨i + 1, by have := Hi.out; omega, by go_num, hkr.trans' (hkE.trans' (by go_grown))⟩
    · have hge : (5 : Int) ≤ (i : Int) := by omega
      go_wp2_with (go_at_call 8; refine (lives_any _).mono ?_; rintro e w2 ⟨rfl, hk2⟩)
      go_ret
      exact ⟨rfl, Hk.out.trans' (hkr.trans' hk2)⟩
end Go.Proofs.Ytegdigfcgeoboaa
/- ReportsLimits from region 24 on. Printed by gen_lim.py. -/
namespace Go.Proofs.Ytegdigfcgeoboaa
open Go.RowKit
attribute [local go_sem ↓] Go.wp_at_zero Go.wp_at_succ

noncomputable def codeL5 : Code := restC (restC code19)
set_option maxRecDepth 1000000 in
set_option maxHeartbeats 8000000 in
theorem lim_5 {u0 u1 u2 u8 u9 u10 u11 u12 u13 u14 u15 u16 u17 u18 u19 u20 u21 u22 u23 u24 u25 u26 u27 u28 u29 u30 u31 u32 u33 u34 u35 u36 u37 u38 u39 u40 u41 u42 u43 u44 u45 u46 u47 u48 u49 u50 u51 u52 u53 u54 u55 u56 u57 u58 u59 u60 u61 u62 u63 u64 u65 u66 u67 u68 u69 u70 u71 u72 u73 u74 u75 u76 u77 u78 u79 u80 u81 u82 u83 u84 u85 u86 u87 u88 u89 u90 u91 u92 u93 u94 u95 u96 u97 u98 u99 u100 u101 u102 u103 u104 u105 u106 u107 u108 u109 u110 u111 u112 u113 u114 u115 u116 u117 u118 u119 u120 u121 u122 u123 u124 u125 u126 u127 u128 u129 u130 u131 u132 u133 u134 u135 u136 u137 u138 u139 u140 : Value} {B : Nat} {w W : World} {P : Nat} {n : Int} {v0 v1 v2 v3 v4 v5 v6 : Value} (hn : -1 ≤ n ∧ n ≤ 1) (hk : Kept w W) (hPw : w.heap.size ≤ P) (hP : W.heap[P]? = some (.cells #[v0, v1, v2, v3, v4] 48 (0, 0)))
    (h5 : PartIs P B W v5 headL) (h6 : PartIs P B W v6 endL) (hPB : P < B) (hBW : B ≤ W.heap.size) (p0 : PartIs P B W v0 (partL n 0)) (p1 : PartIs P B W v1 (partL n 1)) (p2 : PartIs P B W v2 (partL n 2)) (p3 : PartIs P B W v3 (partL n 3)) (own : Own itT 29 B W v4 (repL (8 + n).toNat [iI 1 10 0]).length (repL (8 + n).toNat [iI 1 10 0]))
    (K K2 : Act → World → Prop) (hK : ∀ a w', Code.wp Try.prog (restC (headC codeL5)) (Exit.then K2 (bodyPost Try.prog Try.f5 fun e w' => e = .returned (.bool true) ∧ Kept w w')) a w' → K a w') (hK2 : ∀ a w', Code.wp Try.prog (restC codeL5) (bodyPost Try.prog Try.f5 fun e w' => e = .returned (.bool true) ∧ Kept w w') a w' → K2 a w') :
    Code.wp Try.prog (headC (headC codeL5)) (Exit.then K (Exit.then K2 (bodyPost Try.prog Try.f5 fun e w' => e = .returned (.bool true) ∧ Kept w w'))) ⟨#[u0, u1, u2, .int .i64 n, .bool (decide (0 < n)), v5, v6, .pointer (some ⟨P, 0, none⟩), u8, u9, u10, u11, u12, u13, u14, u15, u16, u17, u18, u19, u20, u21, u22, u23, u24, u25, u26, u27, u28, u29, u30, u31, u32, u33, u34, u35, u36, u37, u38, u39, u40, u41, u42, u43, u44, u45, u46, u47, u48, u49, u50, u51, u52, u53, u54, u55, u56, u57, u58, u59, u60, u61, u62, u63, u64, u65, u66, u67, u68, u69, u70, u71, u72, u73, u74, u75, u76, u77, u78, u79, u80, u81, u82, u83, u84, u85, u86, u87, u88, u89, u90, u91, u92, u93, u94, u95, u96, u97, u98, u99, u100, u101, u102, u103, u104, u105, u106, u107, u108, u109, u110, u111, u112, u113, u114, u115, u116, u117, u118, u119, u120, u121, u122, u123, u124, u125, u126, u127, u128, u129, u130, u131, u132, u133, u134, u135, u136, u137, u138, u139, u140], []⟩ W := by
  conv => arg 2; whnf
  conv at hK => enter [a, w', 1, 2]; whnf
  conv at hK2 => enter [a, w', 1, 2]; whnf
  dsimp only
  obtain ⟨i29, hi29, hz0, hz1, hz2⟩ := info_parts info29
  obtain ⟨hn1, hn2⟩ := hn
  have Hk := hide hk
  clear hk
  obtain ⟨L0, hL0⟩ : ∃ L0, repL (8 + n).toNat [iI 1 10 0] = L0 := ⟨_, rfl⟩
  have HL0 : Hid (L0.length ≤ 1000) := hide (by rw [← hL0, repL_len]; show (8 + n).toNat * 1 ≤ 1000; omega)
  have HL0e := hide hL0
  rw [hL0] at own
  clear hL0
  obtain ⟨y0, hy0⟩ : ∃ y, iI 1 11 0 = y := ⟨_, rfl⟩
  have hit0 := item17i 1 11 0 (by omega) (by omega) y0 hy0
  have Hok : Hid (∀ x ∈ [y0], x.ok) := hide (by
    intro x hx
    simp at hx
    subst hx
    rw [← hy0]; exact iI_ok (by decide) (by decide))
  have Hy0 := hide hy0
  clear hy0
  obtain ⟨NN, hNN⟩ : ∃ NN : Nat, (8 + n).toNat = NN := ⟨_, rfl⟩
  have hNI : 8 + n = (NN : Int) := by rw [← hNN]; omega
  have HNN := hide hNN
  have hNN3 : NN ≤ 300 := by rw [← hNN]; omega
  clear hNN
  have hwr : IntKind.i64.wrap (8 + n) = (NN : Int) := by rw [← hNI, IntKind.wrap_i64]; omega
  go_wp2_with fail
  go_loopg [12] NN (fun g sc wr => ∃ (i : Nat) (v : Value), i + g = NN ∧ sc = .int .i64 i ∧ wr.heap[P]? = some (.cells #[v0, v1, v2, v3, v] 48 (0, 0)) ∧ Own itT 29 B wr v (L0 ++ repL i [y0]).length (L0 ++ repL i [y0]) ∧ KeptTo P B W wr)
  case atStart => exact ⟨0, _, by omega, rfl, hP, by rw [show repL 0 [y0] = [] from rfl, List.append_nil]; exact own, KeptTo.refl⟩
  case round =>
    obtain ⟨i, v, hi, rfl, hPr0, hown, hkt⟩ := hrel
    have Hi := hide hi
    have HPr := hide hPr0
    have hPr := heap_lt hPr0
    have hcr : wr.cell? ⟨P, 4, none⟩ = some v := cell_heap hPr0 (o := 4) rfl
    have hBr : B ≤ wr.heap.size := Nat.le_trans hBW hkt.size
    clear hi hPr0
    by_cases hlt : i < NN
    · have hi0 : (0 : Int) ≤ (i : Int) := by omega
      have hlt' : (i : Int) < (NN : Int) := by omega
      have hln0 : (L0 ++ repL i [y0]).length ≤ 5000 := by rw [List.length_append, repL_len]; have h3 : i * [y0].length ≤ 900 := (by show i * 1 ≤ 900; omega); have h4 := HL0.out; omega
      obtain ⟨X, hX⟩ : ∃ X, L0 ++ repL i [y0] = X := ⟨_, rfl⟩
      rw [hX] at hown hln0
      obtain ⟨ln, hln⟩ : ∃ ln, X.length = ln := ⟨_, rfl⟩
      rw [hln] at hown hln0
      have HX := hide hX
      have Hln := hide hln
      clear hX hln
      go_wp2_with fail
      refine wp_region_held_drew (S := fun _ => True ∧ True) (by kernel_rfl) ⟨trivial, trivial⟩ (fun hS => ?_)
      refine wpAnyH_take (i := 0) (v := ?_) rfl (by kernel_rfl) (by kernel_rfl) (by kernel_rfl) (fun _ _ _ h => h) (Or.inl ⟨by kernel_rfl, ?_⟩) hS ?_
      rotate_left
      · intro w' hS'
        have hq := hS'.1
        have hq2 := hS'.2
        clear hS'
        first | (go_simp; done) | (go_simp; with_reducible rfl)
      try simp only [Act.put, List.getElem_toArray, List.getElem_cons_zero, List.getElem_cons_succ, List.setIfInBounds_toArray, List.set_cons_zero, List.set_cons_succ]
      refine wpAnyH_ready (rs := [1, 2]) (by kernel_rfl) (by simp) ?_
      refine (AllReadyH.cons rfl (fun K hK => ?_) (AllReadyH.cons rfl (fun K hK => ?_) AllReadyH.nil))
      · go_simp
        try dsimp only
        refine hK.out _ _ ?_ (fun hS => ?_)
        · exact hS
        clear hK K
        try simp only [Act.put, List.getElem_toArray, List.getElem_cons_zero, List.getElem_cons_succ, List.setIfInBounds_toArray, List.set_cons_zero, List.set_cons_succ]
        refine wpAnyH_ready (rs := [2]) (by kernel_rfl) (by simp) ?_
        refine (AllReadyH.cons rfl (fun K hK => ?_) AllReadyH.nil)
        go_simp
        go_at_call 17
        refine (hit0 _).mono ?_
        rintro e w0 ⟨rfl, hk0⟩
        try dsimp only
        refine hK.out _ _ ?_ (fun hS => ?_)
        · exact hS
        clear hK K
        try simp only [Act.put, List.getElem_toArray, List.getElem_cons_zero, List.getElem_cons_succ, List.setIfInBounds_toArray, List.set_cons_zero, List.set_cons_succ]
        have kk0 : Kept wr w0 := Kept.trans' (((Below.refl wr.heap.size wr).drew)) hk0
        have ce0 : w0.cell? ⟨P, 4, none⟩ = some v := (kk0.cell (p := ⟨P, 4, none⟩) hPr).trans hcr
        have lz0 : P < w0.heap.size := Nat.lt_of_lt_of_le hPr kk0.size
        refine wpAnyH_ready (rs := [3]) (by kernel_rfl) (by simp) ?_
        refine (AllReadyH.cons rfl (fun K hK => ?_) AllReadyH.nil)
        go_simp
        try dsimp only
        refine hK.out _ _ ?_ (fun hS => ?_)
        · exact hS
        clear hK K
        try simp only [Act.put, List.getElem_toArray, List.getElem_cons_zero, List.getElem_cons_succ, List.setIfInBounds_toArray, List.set_cons_zero, List.set_cons_succ]
        refine wpAnyH_ready (rs := [4]) (by kernel_rfl) (by simp) ?_
        refine (AllReadyH.cons rfl (fun K hK => ?_) AllReadyH.nil)
        have kkb : Kept wr (w0.alloc (.cells #[.int .u8 y0.ty, .int .u8 y0.tg, .int .i64 y0.size, .int .u32 y0.data] 29)) := kk0.alloc kk0.size _
        have hownB := hown.kept kkb
        have hnew : Sl itT (w0.alloc (.cells #[.int .u8 y0.ty, .int .u8 y0.tg, .int .i64 y0.size, .int .u32 y0.data] 29)) (apart (w0.alloc (.cells #[.int .u8 y0.ty, .int .u8 y0.tg, .int .i64 y0.size, .int .u32 y0.data] 29)) v) (some ⟨w0.heap.size, 0, none⟩) 1 [y0] := sl_it_heap (heap_at _ rfl) rfl Hok.out ⟨by simp, fun e => by have h1 := (hown.lt e).2; have h2 := kk0.size; omega⟩
        refine step_append_sl (T := itT) rfl (.tmp 104) (.tmp 106) 22 rfl B 29 i29 _ 24 Try.underlying22 hi29 hz0 hz1 hz2 rfl (show 0 < 4 by decide) v ln X (by rfl) hownB (some ⟨w0.heap.size, 0, none⟩) 1 1 [y0] (by rfl) hnew (by_one29 _ _) (by unfold maxLen; omega) (by omega) (Nat.le_trans hBr kkb.size) ?_
        intro u7 x7 hown7 hg7 hb7 hat7
        obtain ⟨Au, cu, rfl, hu1, hu2⟩ := hown7.isSlice
        clear hu1 hu2
        have hP7 := (hb7.block P hPB).trans (heap_kept kkb HPr.out)
        have cz7 : x7.cell? ⟨P, 4, none⟩ = some v := cell_heap hP7 (o := 4) rfl
        have fz7 := frozen_heap hP7 (o := 4)
        have lz7 := heap_lt hP7
        refine hK.out _ _ ?_ (fun hS => ?_)
        · exact hS
        clear hK K
        try simp only [Act.put, List.getElem_toArray, List.getElem_cons_zero, List.getElem_cons_succ, List.setIfInBounds_toArray, List.set_cons_zero, List.set_cons_succ]
        refine wpAnyH_take (i := 5) (v := ?_) rfl (by kernel_rfl) (by kernel_rfl) (by kernel_rfl) (fun _ _ _ h => h) (Or.inl ⟨by kernel_rfl, ?_⟩) hS ?_
        rotate_left
        · intro w' hS'
          have hq := hS'.1
          have hq2 := hS'.2
          clear hS'
          first | (go_simp; done) | (go_simp; with_reducible rfl)
        try simp only [Act.put, List.getElem_toArray, List.getElem_cons_zero, List.getElem_cons_succ, List.setIfInBounds_toArray, List.set_cons_zero, List.set_cons_succ]
        refine wpAnyH_ready (rs := [6]) (by kernel_rfl) (by simp) ?_
        refine (AllReadyH.cons rfl (fun K hK => ?_) AllReadyH.nil)
        go_simp
        try dsimp only
        refine hK.out _ _ ?_ (fun hS => ?_)
        · exact hS
        clear hK K
        try simp only [Act.put, List.getElem_toArray, List.getElem_cons_zero, List.getElem_cons_succ, List.setIfInBounds_toArray, List.set_cons_zero, List.set_cons_succ]
        refine wpAnyH_done (by kernel_rfl) ?_ _
        have hkt7 := hkt.trans ((KeptTo.of kkb hBr).trans ((KeptTo.below hb7).trans (KeptTo.set (P := P) 4 (.slice Au (ln + 1) cu))))
        have hP8 := heap_store (i := 4) hP7 (.slice Au (ln + 1) cu)
        have hown8 := hown7.setCell (fun h => h) (p := ⟨P, 4, none⟩) hPB (.slice Au (ln + 1) cu)
        clear hS cz7 fz7 hown7 hb7 hg7 hat7 hP7 hownB hnew
        go_wp2_with fail
        go_roundg (gk - 1)
        case measure => have := Hi.out; omega
        case rel =>
          refine ⟨i + 1, _, by have := Hi.out; omega, by go_num, hP8, ?_, hkt7⟩
          have e : L0 ++ repL (i + 1) [y0] = X ++ [y0] := by rw [repL_succ, ← List.append_assoc, HX.out]
          have e2 : (L0 ++ repL (i + 1) [y0]).length = ln + 1 := by rw [e, List.length_append, Hln.out]; rfl
          rw [e2, e]
          exact hown8
      · go_simp
        go_at_call 17
        refine (hit0 _).mono ?_
        rintro e w0 ⟨rfl, hk0⟩
        try dsimp only
        refine hK.out _ _ ?_ (fun hS => ?_)
        · exact hS
        clear hK K
        try simp only [Act.put, List.getElem_toArray, List.getElem_cons_zero, List.getElem_cons_succ, List.setIfInBounds_toArray, List.set_cons_zero, List.set_cons_succ]
        have kk0 : Kept wr w0 := Kept.trans' (((Below.refl wr.heap.size wr).drew)) hk0
        have ce0 : w0.cell? ⟨P, 4, none⟩ = some v := (kk0.cell (p := ⟨P, 4, none⟩) hPr).trans hcr
        have lz0 : P < w0.heap.size := Nat.lt_of_lt_of_le hPr kk0.size
        refine wpAnyH_ready (rs := [1, 3]) (by kernel_rfl) (by simp) ?_
        refine (AllReadyH.cons rfl (fun K hK => ?_) (AllReadyH.cons rfl (fun K hK => ?_) AllReadyH.nil))
        · go_simp
          try dsimp only
          refine hK.out _ _ ?_ (fun hS => ?_)
          · exact hS
          clear hK K
          try simp only [Act.put, List.getElem_toArray, List.getElem_cons_zero, List.getElem_cons_succ, List.setIfInBounds_toArray, List.set_cons_zero, List.set_cons_succ]
          refine wpAnyH_ready (rs := [3]) (by kernel_rfl) (by simp) ?_
          refine (AllReadyH.cons rfl (fun K hK => ?_) AllReadyH.nil)
          go_simp
          try dsimp only
          refine hK.out _ _ ?_ (fun hS => ?_)
          · exact hS
          clear hK K
          try simp only [Act.put, List.getElem_toArray, List.getElem_cons_zero, List.getElem_cons_succ, List.setIfInBounds_toArray, List.set_cons_zero, List.set_cons_succ]
          refine wpAnyH_ready (rs := [4]) (by kernel_rfl) (by simp) ?_
          refine (AllReadyH.cons rfl (fun K hK => ?_) AllReadyH.nil)
          have kkb : Kept wr (w0.alloc (.cells #[.int .u8 y0.ty, .int .u8 y0.tg, .int .i64 y0.size, .int .u32 y0.data] 29)) := kk0.alloc kk0.size _
          have hownB := hown.kept kkb
          have hnew : Sl itT (w0.alloc (.cells #[.int .u8 y0.ty, .int .u8 y0.tg, .int .i64 y0.size, .int .u32 y0.data] 29)) (apart (w0.alloc (.cells #[.int .u8 y0.ty, .int .u8 y0.tg, .int .i64 y0.size, .int .u32 y0.data] 29)) v) (some ⟨w0.heap.size, 0, none⟩) 1 [y0] := sl_it_heap (heap_at _ rfl) rfl Hok.out ⟨by simp, fun e => by have h1 := (hown.lt e).2; have h2 := kk0.size; omega⟩
          refine step_append_sl (T := itT) rfl (.tmp 104) (.tmp 106) 22 rfl B 29 i29 _ 24 Try.underlying22 hi29 hz0 hz1 hz2 rfl (show 0 < 4 by decide) v ln X (by rfl) hownB (some ⟨w0.heap.size, 0, none⟩) 1 1 [y0] (by rfl) hnew (by_one29 _ _) (by unfold maxLen; omega) (by omega) (Nat.le_trans hBr kkb.size) ?_
          intro u7 x7 hown7 hg7 hb7 hat7
          obtain ⟨Au, cu, rfl, hu1, hu2⟩ := hown7.isSlice
          clear hu1 hu2
          have hP7 := (hb7.block P hPB).trans (heap_kept kkb HPr.out)
          have cz7 : x7.cell? ⟨P, 4, none⟩ = some v := cell_heap hP7 (o := 4) rfl
          have fz7 := frozen_heap hP7 (o := 4)
          have lz7 := heap_lt hP7
          refine hK.out _ _ ?_ (fun hS => ?_)
          · exact hS
          clear hK K
          try simp only [Act.put, List.getElem_toArray, List.getElem_cons_zero, List.getElem_cons_succ, List.setIfInBounds_toArray, List.set_cons_zero, List.set_cons_succ]
          refine wpAnyH_take (i := 5) (v := ?_) rfl (by kernel_rfl) (by kernel_rfl) (by kernel_rfl) (fun _ _ _ h => h) (Or.inl ⟨by kernel_rfl, ?_⟩) hS ?_
          rotate_left
          · intro w' hS'
            have hq := hS'.1
            have hq2 := hS'.2
            clear hS'
            first | (go_simp; done) | (go_simp; with_reducible rfl)
          try simp only [Act.put, List.getElem_toArray, List.getElem_cons_zero, List.getElem_cons_succ, List.setIfInBounds_toArray, List.set_cons_zero, List.set_cons_succ]
          refine wpAnyH_ready (rs := [6]) (by kernel_rfl) (by simp) ?_
          refine (AllReadyH.cons rfl (fun K hK => ?_) AllReadyH.nil)
          go_simp
          try dsimp only
          refine hK.out _ _ ?_ (fun hS => ?_)
          · exact hS
          clear hK K
          try simp only [Act.put, List.getElem_toArray, List.getElem_cons_zero, List.getElem_cons_succ, List.setIfInBounds_toArray, List.set_cons_zero, List.set_cons_succ]
          refine wpAnyH_done (by kernel_rfl) ?_ _
          have hkt7 := hkt.trans ((KeptTo.of kkb hBr).trans ((KeptTo.below hb7).trans (KeptTo.set (P := P) 4 (.slice Au (ln + 1) cu))))
          have hP8 := heap_store (i := 4) hP7 (.slice Au (ln + 1) cu)
          have hown8 := hown7.setCell (fun h => h) (p := ⟨P, 4, none⟩) hPB (.slice Au (ln + 1) cu)
          clear hS cz7 fz7 hown7 hb7 hg7 hat7 hP7 hownB hnew
          go_wp2_with fail
          go_roundg (gk - 1)
          case measure => have := Hi.out; omega
          case rel =>
            refine ⟨i + 1, _, by have := Hi.out; omega, by go_num, hP8, ?_, hkt7⟩
            have e : L0 ++ repL (i + 1) [y0] = X ++ [y0] := by rw [repL_succ, ← List.append_assoc, HX.out]
            have e2 : (L0 ++ repL (i + 1) [y0]).length = ln + 1 := by rw [e, List.length_append, Hln.out]; rfl
            rw [e2, e]
            exact hown8
        · go_simp
          try dsimp only
          refine hK.out _ _ ?_ (fun hS => ?_)
          · exact hS
          clear hK K
          try simp only [Act.put, List.getElem_toArray, List.getElem_cons_zero, List.getElem_cons_succ, List.setIfInBounds_toArray, List.set_cons_zero, List.set_cons_succ]
          refine wpAnyH_ready (rs := [1]) (by kernel_rfl) (by simp) ?_
          refine (AllReadyH.cons rfl (fun K hK => ?_) AllReadyH.nil)
          go_simp
          try dsimp only
          refine hK.out _ _ ?_ (fun hS => ?_)
          · exact hS
          clear hK K
          try simp only [Act.put, List.getElem_toArray, List.getElem_cons_zero, List.getElem_cons_succ, List.setIfInBounds_toArray, List.set_cons_zero, List.set_cons_succ]
          refine wpAnyH_ready (rs := [4]) (by kernel_rfl) (by simp) ?_
          refine (AllReadyH.cons rfl (fun K hK => ?_) AllReadyH.nil)
          have kkb : Kept wr (w0.alloc (.cells #[.int .u8 y0.ty, .int .u8 y0.tg, .int .i64 y0.size, .int .u32 y0.data] 29)) := kk0.alloc kk0.size _
          have hownB := hown.kept kkb
          have hnew : Sl itT (w0.alloc (.cells #[.int .u8 y0.ty, .int .u8 y0.tg, .int .i64 y0.size, .int .u32 y0.data] 29)) (apart (w0.alloc (.cells #[.int .u8 y0.ty, .int .u8 y0.tg, .int .i64 y0.size, .int .u32 y0.data] 29)) v) (some ⟨w0.heap.size, 0, none⟩) 1 [y0] := sl_it_heap (heap_at _ rfl) rfl Hok.out ⟨by simp, fun e => by have h1 := (hown.lt e).2; have h2 := kk0.size; omega⟩
          refine step_append_sl (T := itT) rfl (.tmp 104) (.tmp 106) 22 rfl B 29 i29 _ 24 Try.underlying22 hi29 hz0 hz1 hz2 rfl (show 0 < 4 by decide) v ln X (by rfl) hownB (some ⟨w0.heap.size, 0, none⟩) 1 1 [y0] (by rfl) hnew (by_one29 _ _) (by unfold maxLen; omega) (by omega) (Nat.le_trans hBr kkb.size) ?_
          intro u7 x7 hown7 hg7 hb7 hat7
          obtain ⟨Au, cu, rfl, hu1, hu2⟩ := hown7.isSlice
          clear hu1 hu2
          have hP7 := (hb7.block P hPB).trans (heap_kept kkb HPr.out)
          have cz7 : x7.cell? ⟨P, 4, none⟩ = some v := cell_heap hP7 (o := 4) rfl
          have fz7 := frozen_heap hP7 (o := 4)
          have lz7 := heap_lt hP7
          refine hK.out _ _ ?_ (fun hS => ?_)
          · exact hS
          clear hK K
          try simp only [Act.put, List.getElem_toArray, List.getElem_cons_zero, List.getElem_cons_succ, List.setIfInBounds_toArray, List.set_cons_zero, List.set_cons_succ]
          refine wpAnyH_take (i := 5) (v := ?_) rfl (by kernel_rfl) (by kernel_rfl) (by kernel_rfl) (fun _ _ _ h => h) (Or.inl ⟨by kernel_rfl, ?_⟩) hS ?_
          rotate_left
          · intro w' hS'
            have hq := hS'.1
            have hq2 := hS'.2
            clear hS'
            first | (go_simp; done) | (go_simp; with_reducible rfl)
          try simp only [Act.put, List.getElem_toArray, List.getElem_cons_zero, List.getElem_cons_succ, List.setIfInBounds_toArray, List.set_cons_zero, List.set_cons_succ]
          refine wpAnyH_ready (rs := [6]) (by kernel_rfl) (by simp) ?_
          refine (AllReadyH.cons rfl (fun K hK => ?_) AllReadyH.nil)
          go_simp
          try dsimp only
          refine hK.out _ _ ?_ (fun hS => ?_)
          · exact hS
          clear hK K
          try simp only [Act.put, List.getElem_toArray, List.getElem_cons_zero, List.getElem_cons_succ, List.setIfInBounds_toArray, List.set_cons_zero, List.set_cons_succ]
          refine wpAnyH_done (by kernel_rfl) ?_ _
          have hkt7 := hkt.trans ((KeptTo.of kkb hBr).trans ((KeptTo.below hb7).trans (KeptTo.set (P := P) 4 (.slice Au (ln + 1) cu))))
          have hP8 := heap_store (i := 4) hP7 (.slice Au (ln + 1) cu)
          have hown8 := hown7.setCell (fun h => h) (p := ⟨P, 4, none⟩) hPB (.slice Au (ln + 1) cu)
          clear hS cz7 fz7 hown7 hb7 hg7 hat7 hP7 hownB hnew
          go_wp2_with fail
          go_roundg (gk - 1)
          case measure => have := Hi.out; omega
          case rel =>
            refine ⟨i + 1, _, by have := Hi.out; omega, by go_num, hP8, ?_, hkt7⟩
            have e : L0 ++ repL (i + 1) [y0] = X ++ [y0] := by rw [repL_succ, ← List.append_assoc, HX.out]
            have e2 : (L0 ++ repL (i + 1) [y0]).length = ln + 1 := by rw [e, List.length_append, Hln.out]; rfl
            rw [e2, e]
            exact hown8
    · have hge : (NN : Int) ≤ (i : Int) := by omega
      have hiN : i = NN := by have := Hi.out; omega
      subst hiN
      have hsz := hkt.size
      have h4 : PartIs P wr.heap.size wr v (partL n 4) := by
        have e : L0 ++ repL i [y0] = partL n 4 := by
          rw [← HL0e.out, ← HNN.out, ← Hy0.out]; rfl
        rw [e] at hown
        exact PartIs.own hown hPB
      go_upto_region 28 with (fail)
      refine lim_6 (B := wr.heap.size) ⟨hn1, hn2⟩ (hkt.kept Hk.out hPw hPB) hPw HPr.out ((h5.keep hkt).mono hBr) ((h6.keep hkt).mono hBr) (by omega) (Nat.le_refl _) ((p0.keep hkt).mono hBr) ((p1.keep hkt).mono hBr) ((p2.keep hkt).mono hBr) ((p3.keep hkt).mono hBr) h4 _ _ ?_ ?_ <;> assumption
end Go.Proofs.Ytegdigfcgeoboaa
