
import Derived.Shelf.Abstract
import Derived.Shelf.RegionOpen
import Derived.WalkKit
import Derived.OwnWalkIn
import Derived.TacticsInMore
import Derived.LoopNIn
import Derived.LoopIn
import Derived.Maps.AppendAt
import Derived.Test.YtdkinfglpnajmaaChecked


/- slices.SortedFunc over a window, and overlaps. -/
import Derived.Test.YtdkinfglpnajmaaChecked
import Derived.Deep.RegionHeld3
import Derived.Deep.DrawnRows
import Derived.Deep.DeepCutAuto
import Derived.Deep.LoopGhost
import Derived.Outline
import Derived.Handy
import Derived.OwnWalk
import Derived.IntWalk
import Derived.Shelf.SlSortCmp.NoneTotal
import Derived.Test.YtdkinfglpnajmaaGq
set_option linter.unusedVariables false
set_option linter.unusedSimpArgs false
set_option linter.unusedSectionVars false
namespace Go.Proofs.Ytdkinfglpnajmaa
open Go.RowKit Go.Shelf
attribute [local go_sem ↓] Go.wp_at_zero Go.wp_at_succ

/-- SortFunc of no element -/
def SortNone : Prop := ∀ (p : Option Addr) (cap : Nat) (w : World), Calls Try.prog 34 #[.slice p 0 cap, .func (.func 31) #[] #[]] w fun e w' => e = .returned (.tuple #[]) ∧ w' = w
theorem sortNone : SortNone := fun p cap w => AnyF.slices_SortFunc_none (P := Try.prog) (ρ := Ytdkinfglpnajmaa.sortPc_ren) { Ytdkinfglpnajmaa.sortPc with } p cap (.func (.func 31) #[] #[]) w
theorem sorted_any (hnone : SortNone) (L : List Pc) (hL : L.length ≤ 256) (hb : ∀ p ∈ L, 0 ≤ p.pos ∧ p.pos ≤ 1000000) (lb : Array Value) (Bf Bt : Nat) (cf ct : List Value) (w : World) (hwin : ∀ W, Below w.heap.size w W → Window 3 lb L w.heap.size Bf Bt W) (hBf : w.heap[Bf]? = some (.cells cf.toArray 3 (0, 0))) (hBt : w.heap[Bt]? = some (.cells ct.toArray 3 (0, 0))) :
    Calls Try.prog 30 #[.func (.func 32) #[] lb, .func (.func 31) #[] #[]] w fun e w' => ∃ A cap S, e = .returned (.slice A L.length cap) ∧ List.Perm S L ∧ S.Pairwise (fun a b => a.pos ≤ b.pos) ∧ Sl pcT w' (low w'.heap.size) A L.length S ∧ Kept w w' := by
  have hcol := collect_any L hL lb Bf Bt cf ct w hwin hBf hBt
  clear hwin hBf hBt
  have hsort : ∀ (v : Value) (w1 : World), w1.ownsRow w.heap.size 44 2 v L.length (pcC L) → Kept w w1 → Calls Try.prog 34 #[v, .func (.func 31) #[] #[]] w1 fun e w' => e = .returned (.tuple #[]) ∧ (∃ A cap S, v = .slice A L.length cap ∧ List.Perm S L ∧ S.Pairwise (fun a b => a.pos ≤ b.pos) ∧ Sl pcT w' (low w'.heap.size) A L.length S) ∧ Below w.heap.size w1 w' := by
    intro v w1 hrow hk
    rcases hrow.2 with ⟨rfl, h0⟩ | ⟨g, cap, cur, rfl, _⟩
    · refine (hnone none 0 w1).mono ?_
      rintro e w' ⟨rfl, rfl⟩
      refine ⟨rfl, ⟨none, 0, [], by rw [h0], ?_, List.Pairwise.nil, by rw [h0]; exact Sl.nil _ _ _ _⟩, Below.refl _ _⟩
      rw [List.length_eq_zero_iff.1 h0]
    · refine (sortfunc_any g cap w.heap.size L w1 hb hL hrow hk.size).mono ?_
      rintro e w' ⟨rfl, S, h1, h2, h3, h4⟩
      exact ⟨rfl, ⟨_, cap, S, rfl, h1, h2, h3⟩, h4⟩
  generalize L.length = n at *
  go_enter Try.func30, Try.ntmps30
  go_wp2_with (first
    | (go_at_call 33; refine hcol.mono ?_; rintro e w1 ⟨v, rfl, h1, h2⟩)
    | (go_at_call 34; refine (hsort _ _ h1 h2).mono ?_; rintro e w2 ⟨rfl, ⟨A, cap, S, rfl, h3, h4, h5⟩, h6⟩))
  go_ret
  exact ⟨A, cap, S, rfl, h3, h4, h5, h2.trans h6⟩
theorem sep_idx : ∀ (S : List Pc), sep S ↔ ∀ i p q, S[i]? = some p → S[i + 1]? = some q → p.pos + p.len ≤ q.pos
  | [] => ⟨fun _ i p q h => by simp at h, fun _ => trivial⟩
  | [x] => ⟨fun _ i p q _ h => by simp at h, fun _ => trivial⟩
  | x :: y :: r => by
    have ih := sep_idx (y :: r)
    constructor
    · rintro ⟨h1, h2⟩ i p q hp hq
      cases i with
      | zero =>
        simp at hp hq
        rw [← hp, ← hq]; exact h1
      | succ i => exact ih.1 h2 i p q (by simpa using hp) (by simpa using hq)
    · intro h
      refine ⟨h 0 x y rfl rfl, ih.2 (fun i p q hp hq => h (i + 1) p q (by simpa using hp) (by simpa using hq))⟩
theorem win_le_pos {l : List Pc} {size : Int} (h : ∀ p ∈ l, 0 ≤ p.pos ∧ 0 ≤ p.len ∧ p.pos + p.len ≤ size) : ∀ {a f t : Int}, ∀ q ∈ win a f t l, q.pos + q.len ≤ size := by
  induction l with
  | nil => intro a f t q hq; simp [win] at hq
  | cons p r ih =>
    intro a f t q hq
    have h1 := h p List.mem_cons_self
    have ih2 := ih (fun q hq => h q (List.mem_cons_of_mem _ hq)) (a := a + p.len) (f := f) (t := t)
    rw [win_cons] at hq
    split at hq
    · rcases List.mem_cons.1 hq with rfl | hq
      · simp only
        omega
      · exact ih2 q hq
    · exact ih2 q hq
theorem win_full {l : List Pc} (h : okL l) : places (win 0 0 (total l) l) = places l := by
  have h2 := places_len h
  rw [win_places 0 0 _ h]
  simp only [Int.sub_zero, Int.sub_self]
  rw [List.take_of_length_le (by omega)]
  rfl
theorem grown_kept {W W5 : World} (h : W.grownBy W5 none) : Kept W W5 := (Below.refl _ W).grown h (Nat.le_refl _) (fun k e => by cases e)
set_option maxRecDepth 100000 in
set_option maxHeartbeats 2000000 in
theorem overlaps_any (hnone : SortNone) (A : Option Addr) (m c : Nat) (l : List Pc) (size : Int) (w : World) (hl : Sl pcT w (low w.heap.size) A m l) (h0 : chk l size = 0) (hsz : size ≤ 1000000) :
    Calls Try.prog 27 #[.slice A m c] w fun e w' => ∃ b, e = .returned (.bool b) ∧ Hid (b = true ↔ ¬ (places l).Nodup) ∧ Kept w w' := by
  have hp := chk_parts h0
  have hok : okL l := fun p hp' => ⟨(hp.2.1 p hp').1, (hp.2.1 p hp').2.1⟩
  have hm : m ≤ 256 := by have := hl.1; omega
  have hT := total_any A m c l w hl hok hp.2.2 (by omega)
  have ht0 := total_nonneg hok
  have ht1 := hp.2.2
  have hW : ∀ w1, Kept w w1 → ∀ w2, boxes w1 A m c 0 (total l) = w2 → _ := fun w1 hk w2 h => by
    obtain ⟨hBl, hBf, hBt, hz, hbw⟩ := boxes_at w1 A m c 0 (total l) w2 h
    have hl2 := (hl.kept hk).below hbw
    exact sorted_any hnone (win 0 0 (total l) l) (by have h1 := win_le l 0 0 (total l); have h2 := hl.1; omega)
      (fun p hp' => by
        have h1 := win_bd (l := l) 0 0 (total l) (fun q hq => ⟨(hp.2.1 q hq).1, (hp.2.1 q hq).2.1, by have := (hp.2.1 q hq).2.2; omega⟩) p hp'
        have h2 := win_le_pos hp.2.1 p hp'
        obtain ⟨q1, q2, q3⟩ := h1
        exact ⟨q1, by omega⟩)
      #[.pointer (some ⟨w1.heap.size, 0, none⟩), .pointer (some ⟨w1.heap.size + 1, 0, none⟩), .pointer (some ⟨w1.heap.size + 1 + 1, 0, none⟩)] (w1.heap.size + 1) (w1.heap.size + 1 + 1) [.int .i64 0] [.int .i64 (total l)] w2
      (fun W hW => win_window 3 (by decide) A m c l 0 (total l) w1.heap.size (w1.heap.size + 1) (w1.heap.size + 1 + 1) w2.heap.size W hok ht1 (by omega) (by omega) ht0 (by omega) (fun p hp' => by have := (hp.2.1 p hp').2.2; omega) hm hW.size ((hl2.more hbw.size).below hW) (heap_below hW hBl (heap_lt hBl)) (heap_below hW hBf (heap_lt hBf)) (heap_below hW hBt (heap_lt hBt)))
      hBf hBt
  have hpos := Lib.hid (win_posL 0 0 (total l) hok)
  have hful := Lib.hid (win_full hok)
  have hbd := Lib.hid (win_bd 0 0 (total l) (l := l) (fun q hq => ⟨(hp.2.1 q hq).1, (hp.2.1 q hq).2.1, by have := (hp.2.1 q hq).2.2; omega⟩))
  have hL256 : (win 0 0 (total l) l).length ≤ 256 := by have h1 := win_le l 0 0 (total l); have h2 := hl.1; omega
  clear hp hl h0 ht0 ht1 hm hok
  generalize win 0 0 (total l) l = L at *
  generalize total l = T at *
  generalize hn : L.length = n at *
  replace hn := Lib.hid hn
  go_enter Try.func27, Try.ntmps27
  go_wp2_with (first
    | (go_at_call 25; refine hT.mono ?_; rintro e w1 ⟨rfl, hk1⟩)
    | (go_at_call 28; refine (window_any A m c 0 T _).mono ?_; rintro e w2 ⟨rfl, hw2⟩)
    | (go_at_call 30; refine (hW _ hk1 _ hw2).mono ?_; rintro e w3 ⟨A', cap, S, rfl, hperm, hpair, hS3, hk3⟩))
  have hk2 : Kept w w2 := by
    obtain ⟨_, _, _, _, hbw⟩ := boxes_at w1 A m c 0 T w2 hw2
    exact hk1.trans' hbw
  have hk03 := hk2.trans' hk3
  have hSl := Lib.hid hS3.1
  have hdup := Lib.hid (sep_perm hperm.symm (fun p hp => (hpos.out p hp).2) hpair)
  rw [hful.out] at hdup
  have hSb := Lib.hid (fun q hq => hbd.out q (hperm.subset hq))
  clear hW hT hk1 hw2 hk2 hk3 hperm hpair hbd hpos hful
  go_loopg [4] n (fun g s4 wr => ∃ j : Nat, j + g = n ∧ s4 = .int .i64 ((j : Int) + 1) ∧ Hid (∀ i p q, i < j → S[i]? = some p → S[i + 1]? = some q → p.pos + p.len ≤ q.pos) ∧ Kept w3 wr)
  case atStart => exact ⟨0, by omega, by rfl, Lib.hid (fun i p q hi => by omega), Below.refl _ _⟩
  case round =>
    obtain ⟨j, hj, rfl, hI, hkw⟩ := hrel
    by_cases hlt : j + 1 < n
    · obtain ⟨p, b, off, hx, rfl, hbb, hbw, c0, c1⟩ := pc_at hS3 hkw (show j < n by omega)
      obtain ⟨q, b', off', hy, hA, _, _, d0, d1⟩ := pc_at hS3 hkw hlt
      cases hA
      obtain ⟨y1, y2, y3⟩ := hSb.out p (List.mem_of_getElem? hx)
      have hi1 : (j : Int) + 1 < (n : Int) := by omega
      have hi0 : (0 : Int) ≤ j := by omega
      have hi2 : (j : Int) < (n : Int) := by omega
      have hwj : IntKind.i64.wrap (j : Int) = j := IntWalk.i64_in _ ⟨by omega, by omega⟩
      have hoff : off + (j + 1) * 2 = off + j * 2 + 2 := by omega
      have hi3 : (0 : Int) ≤ (j : Int) + 1 := by omega
      rw [hoff] at d0
      have Hx := Lib.hid hx
      have Hy := Lib.hid hy
      clear hx hy
      have hjt : ((j : Int) + 1).toNat = j + 1 := by omega
      by_cases ho : q.pos < p.pos + p.len
      · go_upto_region 5 with fail
        refine wp_region_held_drew (S := fun w' => (∀ b o, b < wr.heap.size → w'.cell? ⟨b, o, none⟩ = wr.cell? ⟨b, o, none⟩) ∧ wr.grownBy w' none) (by kernel_rfl) ⟨fun _ _ _ => rfl, grown_drew wr⟩ (fun hS => ?_)
        refine wpAnyH_take (i := 0) (v := ?_) rfl (by kernel_rfl) (by kernel_rfl) (by kernel_rfl) (fun _ _ _ h => h) (Or.inl ⟨by kernel_rfl, ?_⟩) hS ?_
        rotate_left
        · intro w' hS'
          have hq := hS'.1
          have hq2 := hS'.2
          clear hS'
          first | (go_simp; done) | (go_simp; with_reducible rfl)
        try simp only [Act.put, List.getElem_toArray, List.getElem_cons_zero, List.getElem_cons_succ, List.setIfInBounds_toArray, List.set_cons_zero, List.set_cons_succ]
        refine wpAnyH_take (i := 1) (v := ?_) rfl (by kernel_rfl) (by kernel_rfl) (by kernel_rfl) (fun _ _ _ h => h) (Or.inl ⟨by kernel_rfl, ?_⟩) hS ?_
        rotate_left
        · intro w' hS'
          have hq := hS'.1
          have hq2 := hS'.2
          clear hS'
          first | (go_simp; done) | (go_simp; with_reducible rfl)
        try simp only [Act.put, List.getElem_toArray, List.getElem_cons_zero, List.getElem_cons_succ, List.setIfInBounds_toArray, List.set_cons_zero, List.set_cons_succ]
        refine wpAnyH_take (i := 2) (v := ?_) rfl (by kernel_rfl) (by kernel_rfl) (by kernel_rfl) (fun _ _ _ h => h) (Or.inl ⟨by kernel_rfl, ?_⟩) hS ?_
        rotate_left
        · intro w' hS'
          have hq := hS'.1
          have hq2 := hS'.2
          clear hS'
          first | (go_simp; done) | (go_simp; with_reducible rfl)
        try simp only [Act.put, List.getElem_toArray, List.getElem_cons_zero, List.getElem_cons_succ, List.setIfInBounds_toArray, List.set_cons_zero, List.set_cons_succ]
        refine wpAnyH_take (i := 3) (v := ?_) rfl (by kernel_rfl) (by kernel_rfl) (by kernel_rfl) (fun _ _ _ h => h) (Or.inl ⟨by kernel_rfl, ?_⟩) hS ?_
        rotate_left
        · intro w' hS'
          have hq := hS'.1
          have hq2 := hS'.2
          clear hS'
          first | (go_simp; done) | (go_simp; with_reducible rfl)
        try simp only [Act.put, List.getElem_toArray, List.getElem_cons_zero, List.getElem_cons_succ, List.setIfInBounds_toArray, List.set_cons_zero, List.set_cons_succ]
        refine wpAnyH_take (i := 4) (v := ?_) rfl (by kernel_rfl) (by kernel_rfl) (by kernel_rfl) (fun _ _ _ h => h) (Or.inl ⟨by kernel_rfl, ?_⟩) hS ?_
        rotate_left
        · intro w' hS'
          have hq := hS'.1
          have hq2 := hS'.2
          clear hS'
          first | (go_simp; done) | (go_simp; with_reducible rfl)
        try simp only [Act.put, List.getElem_toArray, List.getElem_cons_zero, List.getElem_cons_succ, List.setIfInBounds_toArray, List.set_cons_zero, List.set_cons_succ]
        refine wpAnyH_take (i := 5) (v := ?_) rfl (by kernel_rfl) (by kernel_rfl) (by kernel_rfl) (fun _ _ _ h => h) (Or.inl ⟨by kernel_rfl, ?_⟩) hS ?_
        rotate_left
        · intro w' hS'
          have hq := hS'.1
          have hq2 := hS'.2
          clear hS'
          first | (go_simp; done) | (go_simp; with_reducible rfl)
        try simp only [Act.put, List.getElem_toArray, List.getElem_cons_zero, List.getElem_cons_succ, List.setIfInBounds_toArray, List.set_cons_zero, List.set_cons_succ]
        refine wpAnyH_take (i := 6) (v := ?_) rfl (by kernel_rfl) (by kernel_rfl) (by kernel_rfl) (fun _ _ _ h => h) (Or.inl ⟨by kernel_rfl, ?_⟩) hS ?_
        rotate_left
        · intro w' hS'
          have hq := hS'.1
          have hq2 := hS'.2
          clear hS'
          first | (go_simp; done) | (go_simp; with_reducible rfl)
        try simp only [Act.put, List.getElem_toArray, List.getElem_cons_zero, List.getElem_cons_succ, List.setIfInBounds_toArray, List.set_cons_zero, List.set_cons_succ]
        refine wpAnyH_take (i := 7) (v := ?_) rfl (by kernel_rfl) (by kernel_rfl) (by kernel_rfl) (fun _ _ _ h => h) (Or.inl ⟨by kernel_rfl, ?_⟩) hS ?_
        rotate_left
        · intro w' hS'
          have hq := hS'.1
          have hq2 := hS'.2
          clear hS'
          first | (go_simp; done) | (go_simp; with_reducible rfl)
        try simp only [Act.put, List.getElem_toArray, List.getElem_cons_zero, List.getElem_cons_succ, List.setIfInBounds_toArray, List.set_cons_zero, List.set_cons_succ]
        refine wpAnyH_take (i := 8) (v := ?_) rfl (by kernel_rfl) (by kernel_rfl) (by kernel_rfl) (fun _ _ _ h => h) (Or.inl ⟨by kernel_rfl, ?_⟩) hS ?_
        rotate_left
        · intro w' hS'
          have hq := hS'.1
          have hq2 := hS'.2
          clear hS'
          first | (go_simp; done) | (go_simp; with_reducible rfl)
        try simp only [Act.put, List.getElem_toArray, List.getElem_cons_zero, List.getElem_cons_succ, List.setIfInBounds_toArray, List.set_cons_zero, List.set_cons_succ]
        refine wpAnyH_take (i := 9) (v := ?_) rfl (by kernel_rfl) (by kernel_rfl) (by kernel_rfl) (fun _ _ _ h => h) (Or.inl ⟨by kernel_rfl, ?_⟩) hS ?_
        rotate_left
        · intro w' hS'
          have hq := hS'.1
          have hq2 := hS'.2
          clear hS'
          first | (go_simp; done) | (go_simp; with_reducible rfl)
        try simp only [Act.put, List.getElem_toArray, List.getElem_cons_zero, List.getElem_cons_succ, List.setIfInBounds_toArray, List.set_cons_zero, List.set_cons_succ]
        refine wpAnyH_ready (rs := [10]) (by kernel_rfl) (by simp) ?_
        refine AllReadyH.cons rfl (fun K hK => ?_) AllReadyH.nil
        go_simp
        go_at_call 26
        refine (end_exact p.pos p.len _ y1 y2 y3).mono ?_
        rintro e9 w9 ⟨rfl, rfl⟩
        try dsimp only
        refine hK.out _ _ ?_ (fun hS => ?_)
        · exact ⟨fun b o hb => (Below.cell (p := ⟨b, o, none⟩) ((Below.refl wr.heap.size _).alloc hS.2.size _) hb).trans (hS.1 b o hb), grown_alloc hS.2 _⟩
        clear hK K
        try simp only [Act.put, List.getElem_toArray, List.getElem_cons_zero, List.getElem_cons_succ, List.setIfInBounds_toArray, List.set_cons_zero, List.set_cons_succ]
        refine wpAnyH_take (i := 11) (v := ?_) rfl (by kernel_rfl) (by kernel_rfl) (by kernel_rfl) (fun _ _ _ h => h) (Or.inl ⟨by kernel_rfl, ?_⟩) hS ?_
        rotate_left
        · intro w' hS'
          have hq := hS'.1
          have hq2 := hS'.2
          clear hS'
          first | (go_simp; done) | (go_simp; with_reducible rfl)
        try simp only [Act.put, List.getElem_toArray, List.getElem_cons_zero, List.getElem_cons_succ, List.setIfInBounds_toArray, List.set_cons_zero, List.set_cons_succ]
        refine wpAnyH_done (by kernel_rfl) ?_ _
        go_wp2_with fail
        go_ret
        refine ⟨true, rfl, Lib.hid ⟨fun _ => ?_, fun _ => rfl⟩, hk03.trans' (hkw.trans' (grown_kept hS.2))⟩
        rw [← hdup.out, sep_idx]
        intro h
        have := h j p q Hx.out Hy.out
        omega
      · have ho' : p.pos + p.len ≤ q.pos := by omega
        have ho2 : decide (q.pos < p.pos + p.len) = false := by simpa using ho'
        go_upto_region 5 with fail
        refine wp_region_held_drew (S := fun w' => (∀ b o, b < wr.heap.size → w'.cell? ⟨b, o, none⟩ = wr.cell? ⟨b, o, none⟩) ∧ wr.grownBy w' none) (by kernel_rfl) ⟨fun _ _ _ => rfl, grown_drew wr⟩ (fun hS => ?_)
        refine wpAnyH_take (i := 0) (v := ?_) rfl (by kernel_rfl) (by kernel_rfl) (by kernel_rfl) (fun _ _ _ h => h) (Or.inl ⟨by kernel_rfl, ?_⟩) hS ?_
        rotate_left
        · intro w' hS'
          have hq := hS'.1
          have hq2 := hS'.2
          clear hS'
          first | (go_simp; done) | (go_simp; with_reducible rfl)
        try simp only [Act.put, List.getElem_toArray, List.getElem_cons_zero, List.getElem_cons_succ, List.setIfInBounds_toArray, List.set_cons_zero, List.set_cons_succ]
        refine wpAnyH_take (i := 1) (v := ?_) rfl (by kernel_rfl) (by kernel_rfl) (by kernel_rfl) (fun _ _ _ h => h) (Or.inl ⟨by kernel_rfl, ?_⟩) hS ?_
        rotate_left
        · intro w' hS'
          have hq := hS'.1
          have hq2 := hS'.2
          clear hS'
          first | (go_simp; done) | (go_simp; with_reducible rfl)
        try simp only [Act.put, List.getElem_toArray, List.getElem_cons_zero, List.getElem_cons_succ, List.setIfInBounds_toArray, List.set_cons_zero, List.set_cons_succ]
        refine wpAnyH_take (i := 2) (v := ?_) rfl (by kernel_rfl) (by kernel_rfl) (by kernel_rfl) (fun _ _ _ h => h) (Or.inl ⟨by kernel_rfl, ?_⟩) hS ?_
        rotate_left
        · intro w' hS'
          have hq := hS'.1
          have hq2 := hS'.2
          clear hS'
          first | (go_simp; done) | (go_simp; with_reducible rfl)
        try simp only [Act.put, List.getElem_toArray, List.getElem_cons_zero, List.getElem_cons_succ, List.setIfInBounds_toArray, List.set_cons_zero, List.set_cons_succ]
        refine wpAnyH_take (i := 3) (v := ?_) rfl (by kernel_rfl) (by kernel_rfl) (by kernel_rfl) (fun _ _ _ h => h) (Or.inl ⟨by kernel_rfl, ?_⟩) hS ?_
        rotate_left
        · intro w' hS'
          have hq := hS'.1
          have hq2 := hS'.2
          clear hS'
          first | (go_simp; done) | (go_simp; with_reducible rfl)
        try simp only [Act.put, List.getElem_toArray, List.getElem_cons_zero, List.getElem_cons_succ, List.setIfInBounds_toArray, List.set_cons_zero, List.set_cons_succ]
        refine wpAnyH_take (i := 4) (v := ?_) rfl (by kernel_rfl) (by kernel_rfl) (by kernel_rfl) (fun _ _ _ h => h) (Or.inl ⟨by kernel_rfl, ?_⟩) hS ?_
        rotate_left
        · intro w' hS'
          have hq := hS'.1
          have hq2 := hS'.2
          clear hS'
          first | (go_simp; done) | (go_simp; with_reducible rfl)
        try simp only [Act.put, List.getElem_toArray, List.getElem_cons_zero, List.getElem_cons_succ, List.setIfInBounds_toArray, List.set_cons_zero, List.set_cons_succ]
        refine wpAnyH_take (i := 5) (v := ?_) rfl (by kernel_rfl) (by kernel_rfl) (by kernel_rfl) (fun _ _ _ h => h) (Or.inl ⟨by kernel_rfl, ?_⟩) hS ?_
        rotate_left
        · intro w' hS'
          have hq := hS'.1
          have hq2 := hS'.2
          clear hS'
          first | (go_simp; done) | (go_simp; with_reducible rfl)
        try simp only [Act.put, List.getElem_toArray, List.getElem_cons_zero, List.getElem_cons_succ, List.setIfInBounds_toArray, List.set_cons_zero, List.set_cons_succ]
        refine wpAnyH_take (i := 6) (v := ?_) rfl (by kernel_rfl) (by kernel_rfl) (by kernel_rfl) (fun _ _ _ h => h) (Or.inl ⟨by kernel_rfl, ?_⟩) hS ?_
        rotate_left
        · intro w' hS'
          have hq := hS'.1
          have hq2 := hS'.2
          clear hS'
          first | (go_simp; done) | (go_simp; with_reducible rfl)
        try simp only [Act.put, List.getElem_toArray, List.getElem_cons_zero, List.getElem_cons_succ, List.setIfInBounds_toArray, List.set_cons_zero, List.set_cons_succ]
        refine wpAnyH_take (i := 7) (v := ?_) rfl (by kernel_rfl) (by kernel_rfl) (by kernel_rfl) (fun _ _ _ h => h) (Or.inl ⟨by kernel_rfl, ?_⟩) hS ?_
        rotate_left
        · intro w' hS'
          have hq := hS'.1
          have hq2 := hS'.2
          clear hS'
          first | (go_simp; done) | (go_simp; with_reducible rfl)
        try simp only [Act.put, List.getElem_toArray, List.getElem_cons_zero, List.getElem_cons_succ, List.setIfInBounds_toArray, List.set_cons_zero, List.set_cons_succ]
        refine wpAnyH_take (i := 8) (v := ?_) rfl (by kernel_rfl) (by kernel_rfl) (by kernel_rfl) (fun _ _ _ h => h) (Or.inl ⟨by kernel_rfl, ?_⟩) hS ?_
        rotate_left
        · intro w' hS'
          have hq := hS'.1
          have hq2 := hS'.2
          clear hS'
          first | (go_simp; done) | (go_simp; with_reducible rfl)
        try simp only [Act.put, List.getElem_toArray, List.getElem_cons_zero, List.getElem_cons_succ, List.setIfInBounds_toArray, List.set_cons_zero, List.set_cons_succ]
        refine wpAnyH_take (i := 9) (v := ?_) rfl (by kernel_rfl) (by kernel_rfl) (by kernel_rfl) (fun _ _ _ h => h) (Or.inl ⟨by kernel_rfl, ?_⟩) hS ?_
        rotate_left
        · intro w' hS'
          have hq := hS'.1
          have hq2 := hS'.2
          clear hS'
          first | (go_simp; done) | (go_simp; with_reducible rfl)
        try simp only [Act.put, List.getElem_toArray, List.getElem_cons_zero, List.getElem_cons_succ, List.setIfInBounds_toArray, List.set_cons_zero, List.set_cons_succ]
        refine wpAnyH_ready (rs := [10]) (by kernel_rfl) (by simp) ?_
        refine AllReadyH.cons rfl (fun K hK => ?_) AllReadyH.nil
        go_simp
        go_at_call 26
        refine (end_exact p.pos p.len _ y1 y2 y3).mono ?_
        rintro e9 w9 ⟨rfl, rfl⟩
        try dsimp only
        refine hK.out _ _ ?_ (fun hS => ?_)
        · exact ⟨fun b o hb => (Below.cell (p := ⟨b, o, none⟩) ((Below.refl wr.heap.size _).alloc hS.2.size _) hb).trans (hS.1 b o hb), grown_alloc hS.2 _⟩
        clear hK K
        try simp only [Act.put, List.getElem_toArray, List.getElem_cons_zero, List.getElem_cons_succ, List.setIfInBounds_toArray, List.set_cons_zero, List.set_cons_succ]
        refine wpAnyH_take (i := 11) (v := ?_) rfl (by kernel_rfl) (by kernel_rfl) (by kernel_rfl) (fun _ _ _ h => h) (Or.inl ⟨by kernel_rfl, ?_⟩) hS ?_
        rotate_left
        · intro w' hS'
          have hq := hS'.1
          have hq2 := hS'.2
          clear hS'
          first | (go_simp; done) | (go_simp; with_reducible rfl)
        try simp only [Act.put, List.getElem_toArray, List.getElem_cons_zero, List.getElem_cons_succ, List.setIfInBounds_toArray, List.set_cons_zero, List.set_cons_succ]
        refine wpAnyH_done (by kernel_rfl) ?_ _
        go_wp2_with fail
        go_roundg (gk - 1)
        case measure => omega
        case rel =>
          refine ⟨j + 1, by omega, by go_num, Lib.hid (fun i p' q' hi hp' hq' => ?_), hkw.trans' (grown_kept hS.2)⟩
          by_cases hij : i < j
          · exact hI.out i p' q' hij hp' hq'
          · have : i = j := by omega
            subst this
            rw [Hx.out] at hp'
            rw [Hy.out] at hq'
            cases hp'; cases hq'
            exact ho'
    · have hi1 : (n : Int) ≤ (j : Int) + 1 := by omega
      have hgap := Lib.hid (show j + 1 ≥ n by omega)
      go_wp2_with fail
      go_ret
      refine ⟨false, rfl, Lib.hid ⟨(fun h => by cases h), fun h => ?_⟩, hk03.trans' hkw⟩
      refine (h (hdup.out.1 ((sep_idx S).2 (fun i p q hp hq => hI.out i p q ?_ hp hq)))).elim
      have h1 := (List.getElem?_eq_some_iff.1 hq).1
      have h2 := hSl.out
      have h3 := hgap.out
      omega
end Go.Proofs.Ytdkinfglpnajmaa
