

/- Parse of any text, and the law of the texts: its walk. The library's variables are as the program lays them. -/
import Derived.Test.YtfoeihbajichpaaDoorChecked
import Derived.Deep.RegionHeld3
import Derived.Deep.DrawnRows
import Derived.Deep.DeepCutAuto
import Derived.Deep.LoopGhost
import Derived.Outline
import Derived.Handy
import Derived.OwnWalk
import Derived.Laws.EntriesVeiled
import Derived.Test.YtfoeihbajichpaaDoorSq
import Derived.Test.YtfoeihbajichpaaDoorKh
set_option linter.unusedVariables false
set_option linter.unusedSimpArgs false
set_option linter.unusedSectionVars false
namespace Go.Proofs.YtfoeihbajichpaaDoor
open Go.RowKit Go.Lib Go.Maps Go.WideShapes
attribute [local go_sem ↓] Go.wp_at_zero Go.wp_at_succ

theorem parse_all (s : ByteArray) (w : World) (hs : s.size ≤ 1000) (hT : Tabs w) :
    Calls Tryd.prog 17 #[.string s] w fun e w' => (e = .returned (.tuple #[.agg #[.int .u8 0, .int .u8 0, .int .u16 0, .int .u16 0, .int .u16 0], .int .i64 4]) ∨ ∃ t c v x l : Int, Rq.ok ⟨t, c, v, x, l⟩ ∧ textB ⟨t, c, v, x, l⟩ = s ∧ e = .returned (.tuple #[.agg #[.int .u8 (t), .int .u8 (c), .int .u16 (v), .int .u16 (x), .int .u16 (l)], .int .i64 0])) ∧ Kept w w' := by
  by_cases h7 : (wordsB s).length = 7
  · match hL : wordsB s, h7 with
    | [l0, l1, l2, l3, l4, l5, l6], _ =>
      refine (parse_seven s l0 l1 l2 l3 l4 l5 l6 w hs hT hL).mono ?_
      rintro e w' ⟨h1, h2, hk⟩
      refine ⟨?_, hk⟩
      by_cases h : parseW l1 l2 l3 l4 l5 l6 = false ∧ textB (parseP l0 l1 l2 l3 l4 l5 l6) = s
      · exact .inr ⟨_, _, _, _, _, parseP_ok l0 l1 l2 l3 l4 l5 l6, h.2, h1 h.1 h.2⟩
      · exact .inl (h2 h)
  · refine (parse_len s w hs hT h7).mono ?_
    rintro e w' ⟨h, hk⟩
    exact ⟨.inl h, hk⟩
set_option maxRecDepth 100000 in
set_option maxHeartbeats 1000000 in
theorem lawtxt_long (t c v x l : Int) (s : ByteArray) (w : World) (hT : Tabs w) (hs : 100 < s.size) :
    Calls Tryd.prog 5 #[.agg #[.int .u8 (t), .int .u8 (c), .int .u16 (v), .int .u16 (x), .int .u16 (l)], .string s] w fun e w' => e = .returned (.bool true) ∧ Kept w w' := by
  have hb : decide ((100 : Int) < (s.size : Int)) = true := decide_eq_true (by omega)
  have hb2 : decide (100 < s.size) = true := decide_eq_true hs
  go_enter Tryd.func5, Tryd.ntmps5
  go_wp2_with (go_at_call 11; refine (lives_any _ (hT.alloc _)).mono ?_; rintro e w1 ⟨rfl, hk⟩)
  go_ret
  exact ⟨rfl, Below.trans (by go_grown) (hk.mono (by simp only [World.size_alloc]; omega))⟩
set_option maxRecDepth 100000 in
set_option maxHeartbeats 8000000 in
theorem lawtxt_short (t c v x l : Int) (s : ByteArray) (w : World) (hT : Tabs w) (hok : Rq.ok ⟨t, c, v, x, l⟩) (hs : s.size ≤ 100) :
    Calls Tryd.prog 5 #[.agg #[.int .u8 (t), .int .u8 (c), .int .u16 (v), .int .u16 (x), .int .u16 (l)], .string s] w fun e w' => e = .returned (.bool true) ∧ Kept w w' := by
  have hb : decide ((100 : Int) < (s.size : Int)) = false := decide_eq_false (by omega)
  have hb2 : decide (100 < s.size) = false := decide_eq_false (by omega)
  have HX := fun W hW => text_any t c v x l W hok hW
  have HY := fun W hW => lawtext_any t c v x l W hok hW
  have HP := fun W hW => parse_of ⟨t, c, v, x, l⟩ _ hok rfl W hW
  have HA := fun W hW => parse_all s W (by omega) hW
  generalize textB ⟨t, c, v, x, l⟩ = tx at *
  dsimp only at HP
  clear hok
  go_enter Tryd.func5, Tryd.ntmps5
  go_upto_region 4 with (first
    | (go_at_call 18; refine (HX _ (hT.alloc _)).mono ?_; rintro e w1 ⟨rfl, hk1⟩)
    | (go_at_call 17; refine (HP _ ((hT.alloc _).kept hk1)).mono ?_; rintro e w2 ⟨rfl, hk2⟩))
  refine wp_at (fun W => W.heap[w.heap.size]? = some (.cells #[.int .u8 (t), .int .u8 (c), .int .u16 (v), .int .u16 (x), .int .u16 (l)] 25 (0, 0)) ∧ W.heap[w2.heap.size]? = some (.cells #[.int .u8 (t), .int .u8 (c), .int .u16 (v), .int .u16 (x), .int .u16 (l)] 25 (0, 0)) ∧ Kept w W) ⟨heap_past (heap_kept hk2 (heap_kept hk1 (heap_at _ rfl))), heap_at _ (by simp), Kept.trans' (Kept.trans' (Below.trans (by go_grown) (hk1.mono (by simp only [World.size_alloc]; omega))) hk2) ((Below.refl _ _).alloc (Nat.le_refl _) _)⟩ (fun W hW => ?_)
  generalize w2.heap.size = Y at *
  obtain ⟨HR, HQ, hkW⟩ := hW
  have hTW := Lib.hid (hT.kept hkW)
  clear hk1 hk2
  have y0 := cell_heap HR (o := 0) rfl
  have z0 := cell_heap HQ (o := 0) rfl
  have y1 := cell_heap HR (o := 1) rfl
  have z1 := cell_heap HQ (o := 1) rfl
  have y2 := cell_heap HR (o := 2) rfl
  have z2 := cell_heap HQ (o := 2) rfl
  have y3 := cell_heap HR (o := 3) rfl
  have z3 := cell_heap HQ (o := 3) rfl
  have y4 := cell_heap HR (o := 4) rfl
  have z4 := cell_heap HQ (o := 4) rfl
  have hrl := heap_lt HR
  have hql := heap_lt HQ
  refine wp_region_held_drew (S := fun w' => (∀ b o, b < W.heap.size → w'.cell? ⟨b, o, none⟩ = W.cell? ⟨b, o, none⟩) ∧ Below W.heap.size W w') (by kernel_rfl) since_start (fun hS => ?_)
  refine wpAnyH_take (i := 0) (v := ?_) rfl (by kernel_rfl) (by kernel_rfl) (by kernel_rfl) (fun _ _ _ h => h) (Or.inl ⟨by kernel_rfl, ?_⟩) hS ?_
  rotate_left
  · intro w' hS'
    have hq := hS'.1
    have hq2 := hS'.2
    clear hS'
    first | (go_simp; done) | (go_simp; with_reducible rfl)
  try simp only [Act.put, List.getElem_toArray, List.getElem_cons_zero, List.getElem_cons_succ, List.setIfInBounds_toArray, List.set_cons_zero, List.set_cons_succ]
  refine wpAnyH_take (i := 2) (v := ?_) rfl (by kernel_rfl) (by kernel_rfl) (by kernel_rfl) (fun _ _ _ h => h) (Or.inl ⟨by kernel_rfl, ?_⟩) hS ?_
  rotate_left
  · intro w' hS'
    have hq := hS'.1
    have hq2 := hS'.2
    clear hS'
    first | (go_simp; done) | (go_simp; with_reducible rfl)
  try simp only [Act.put, List.getElem_toArray, List.getElem_cons_zero, List.getElem_cons_succ, List.setIfInBounds_toArray, List.set_cons_zero, List.set_cons_succ]
  refine wpAnyH_ready (rs := [1]) (by kernel_rfl) (by simp) ?_
  refine AllReadyH.cons rfl (fun K hK => ?_) AllReadyH.nil
  go_simp
  go_at_call 18
  refine (HX _ (hTW.out.kept hS.2)).mono ?_
  rintro e w5 ⟨rfl, hk⟩
  try dsimp only
  have k5 : Below W.heap.size W w5 := hS.2.trans (hk.mono hS.2.size)
  refine hK.out _ _ ?_ (fun hS => ?_)
  · exact ⟨(bcell k5).1, k5⟩
  clear hK K hk k5
  try simp only [Act.put, List.getElem_toArray, List.getElem_cons_zero, List.getElem_cons_succ, List.setIfInBounds_toArray, List.set_cons_zero, List.set_cons_succ]
  refine wpAnyH_ready (rs := [3]) (by kernel_rfl) (by simp) ?_
  refine AllReadyH.cons rfl (fun K hK => ?_) AllReadyH.nil
  go_simp
  go_at_call 19
  refine (HY _ (hTW.out.kept hS.2)).mono ?_
  rintro e w5 ⟨rfl, hk⟩
  try dsimp only
  have k5 : Below W.heap.size W w5 := hS.2.trans (hk.mono hS.2.size)
  refine hK.out _ _ ?_ (fun hS => ?_)
  · exact ⟨(bcell k5).1, k5⟩
  clear hK K hk k5
  try simp only [Act.put, List.getElem_toArray, List.getElem_cons_zero, List.getElem_cons_succ, List.setIfInBounds_toArray, List.set_cons_zero, List.set_cons_succ]
  refine wpAnyH_take (i := 4) (v := .bool false) rfl (by kernel_rfl) (by kernel_rfl) (by kernel_rfl) (fun _ _ _ h => h) (Or.inl ⟨by kernel_rfl, ?_⟩) hS ?_
  · intro w' hS'
    have hq := hS'.1
    have hq2 := hS'.2
    clear hS'
    go_simp
  try simp only [Act.put, List.getElem_toArray, List.getElem_cons_zero, List.getElem_cons_succ, List.setIfInBounds_toArray, List.set_cons_zero, List.set_cons_succ]
  refine wpAnyH_take (i := 5) (v := ?_) rfl (by kernel_rfl) (by kernel_rfl) (by kernel_rfl) (fun _ _ _ h => h) (Or.inl ⟨by kernel_rfl, ?_⟩) hS ?_
  rotate_left
  · intro w' hS'
    have hq := hS'.1
    have hq2 := hS'.2
    clear hS'
    first | (go_simp; done) | (go_simp; with_reducible rfl)
  try simp only [Act.put, List.getElem_toArray, List.getElem_cons_zero, List.getElem_cons_succ, List.setIfInBounds_toArray, List.set_cons_zero, List.set_cons_succ]
  refine wpAnyH_take (i := 6) (v := ?_) rfl (by kernel_rfl) (by kernel_rfl) (by kernel_rfl) (fun _ _ _ h => h) (Or.inl ⟨by kernel_rfl, ?_⟩) hS ?_
  rotate_left
  · intro w' hS'
    have hq := hS'.1
    have hq2 := hS'.2
    clear hS'
    first | (go_simp; done) | (go_simp; with_reducible rfl)
  try simp only [Act.put, List.getElem_toArray, List.getElem_cons_zero, List.getElem_cons_succ, List.setIfInBounds_toArray, List.set_cons_zero, List.set_cons_succ]
  refine wpAnyH_take (i := 7) (v := ?_) rfl (by kernel_rfl) (by kernel_rfl) (by kernel_rfl) (fun _ _ _ h => h) (Or.inl ⟨by kernel_rfl, ?_⟩) hS ?_
  rotate_left
  · intro w' hS'
    have hq := hS'.1
    have hq2 := hS'.2
    clear hS'
    first | (go_simp; done) | (go_simp; with_reducible rfl)
  try simp only [Act.put, List.getElem_toArray, List.getElem_cons_zero, List.getElem_cons_succ, List.setIfInBounds_toArray, List.set_cons_zero, List.set_cons_succ]
  refine wpAnyH_take (i := 8) (v := .bool false) rfl (by kernel_rfl) (by kernel_rfl) (by kernel_rfl) (fun _ _ _ h => h) (Or.inl ⟨by kernel_rfl, ?_⟩) hS ?_
  · intro w' hS'
    have hq := hS'.1
    have hq2 := hS'.2
    clear hS'
    go_simp
  try simp only [Act.put, List.getElem_toArray, List.getElem_cons_zero, List.getElem_cons_succ, List.setIfInBounds_toArray, List.set_cons_zero, List.set_cons_succ]
  refine wpAnyH_take (i := 9) (v := ?_) rfl (by kernel_rfl) (by kernel_rfl) (by kernel_rfl) (fun _ _ _ h => h) (Or.inl ⟨by kernel_rfl, ?_⟩) hS ?_
  rotate_left
  · intro w' hS'
    have hq := hS'.1
    have hq2 := hS'.2
    clear hS'
    first | (go_simp; done) | (go_simp; with_reducible rfl)
  try simp only [Act.put, List.getElem_toArray, List.getElem_cons_zero, List.getElem_cons_succ, List.setIfInBounds_toArray, List.set_cons_zero, List.set_cons_succ]
  refine wpAnyH_take (i := 10) (v := ?_) rfl (by kernel_rfl) (by kernel_rfl) (by kernel_rfl) (fun _ _ _ h => h) (Or.inl ⟨by kernel_rfl, ?_⟩) hS ?_
  rotate_left
  · intro w' hS'
    have hq := hS'.1
    have hq2 := hS'.2
    clear hS'
    first | (go_simp; done) | (go_simp; with_reducible rfl)
  try simp only [Act.put, List.getElem_toArray, List.getElem_cons_zero, List.getElem_cons_succ, List.setIfInBounds_toArray, List.set_cons_zero, List.set_cons_succ]
  refine wpAnyH_take (i := 11) (v := ?_) rfl (by kernel_rfl) (by kernel_rfl) (by kernel_rfl) (fun _ _ _ h => h) (Or.inl ⟨by kernel_rfl, ?_⟩) hS ?_
  rotate_left
  · intro w' hS'
    have hq := hS'.1
    have hq2 := hS'.2
    clear hS'
    first | (go_simp; done) | (go_simp; with_reducible rfl)
  try simp only [Act.put, List.getElem_toArray, List.getElem_cons_zero, List.getElem_cons_succ, List.setIfInBounds_toArray, List.set_cons_zero, List.set_cons_succ]
  refine wpAnyH_take (i := 12) (v := .bool false) rfl (by kernel_rfl) (by kernel_rfl) (by kernel_rfl) (fun _ _ _ h => h) (Or.inl ⟨by kernel_rfl, ?_⟩) hS ?_
  · intro w' hS'
    have hq := hS'.1
    have hq2 := hS'.2
    clear hS'
    go_simp
  try simp only [Act.put, List.getElem_toArray, List.getElem_cons_zero, List.getElem_cons_succ, List.setIfInBounds_toArray, List.set_cons_zero, List.set_cons_succ]
  refine wpAnyH_take (i := 13) (v := ?_) rfl (by kernel_rfl) (by kernel_rfl) (by kernel_rfl) (fun _ _ _ h => h) (Or.inl ⟨by kernel_rfl, ?_⟩) hS ?_
  rotate_left
  · intro w' hS'
    have hq := hS'.1
    have hq2 := hS'.2
    clear hS'
    first | (go_simp; done) | (go_simp; with_reducible rfl)
  try simp only [Act.put, List.getElem_toArray, List.getElem_cons_zero, List.getElem_cons_succ, List.setIfInBounds_toArray, List.set_cons_zero, List.set_cons_succ]
  refine wpAnyH_done (by kernel_rfl) ?_ _
  have hkE := hkW.trans' hS.2
  have hTE := hT.kept hkE
  clear hS y0 y1 y2 y3 y4 z0 z1 z2 z3 z4 hrl hql HR HQ hkW HX HY HP
  go_wp2_with (fail)
  refine (HA _ hTE).mono ?_
  rintro e w6 ⟨h, hk6⟩
  clear HA hb hb2
  have hT6 := hTE.kept hk6
  rcases h with rfl | ⟨t2, c2, v2, x2, l2, hok2, htx, rfl⟩
  · go_wp2_with (go_at_call 11; refine (lives_any _ (hT6.alloc _)).mono ?_; rintro e w7 ⟨rfl, hk7⟩)
    go_ret
    exact ⟨rfl, (hkE.trans' hk6).trans' (Below.trans (by go_grown) (hk7.mono (by simp only [World.size_alloc]; omega)))⟩
  · have HY := fun W hW => lawtext_any t2 c2 v2 x2 l2 W hok2 hW
    rw [htx] at HY
    clear htx hok2
    go_wp2_with (first
      | (go_at_call 19; refine (HY _ (hT6.alloc _)).mono ?_; rintro e w7 ⟨rfl, hk7⟩)
      | (go_at_call 11; refine (lives_any _ ((hT6.alloc _).kept hk7)).mono ?_; rintro e w8 ⟨rfl, hk8⟩))
    go_ret
    exact ⟨rfl, (hkE.trans' hk6).trans' (Kept.trans' (Below.trans (by go_grown) (hk7.mono (by simp only [World.size_alloc]; omega))) hk8)⟩
theorem lawtxt_any (t c v x l : Int) (s : ByteArray) (w : World) (hT : Tabs w) (hok : Rq.ok ⟨t, c, v, x, l⟩) :
    Calls Tryd.prog 5 #[.agg #[.int .u8 (t), .int .u8 (c), .int .u16 (v), .int .u16 (x), .int .u16 (l)], .string s] w fun e w' => e = .returned (.bool true) ∧ Kept w w' := by
  by_cases h : 100 < s.size
  · exact lawtxt_long t c v x l s w hT h
  · exact lawtxt_short t c v x l s w hT hok (by omega)
end Go.Proofs.YtfoeihbajichpaaDoor
