/- The law of the chapter on reports, part 13: Se Qc Qd. -/
import Derived.Test.YtegdigfcgeoboaaK12
import Derived.Test.YtegdigfcgeoboaaK11
set_option maxHeartbeats 16000000
set_option linter.unusedVariables false
set_option linter.unusedSimpArgs false
set_option linter.unusedSectionVars false
namespace Go.Proofs.Ytegdigfcgeoboaa
open Go.RowKit Go.Shelf
attribute [local go_sem] Oper.semAt_some
def itCs (l : List It) : List Value := l.flatMap It.cells
theorem itCs_snoc (l : List It) (x : It) : itCs (l ++ [x]) = itCs l ++ x.cells := by simp [itCs]
theorem itCs_at : ∀ (l : List It) (i : Nat) (x : It), l[i]? = some x → ((itCs l).drop (i * 4)).take 4 = x.cells
 | [], i, x, h => by simp at h
 | y :: l, 0, x, h => by
  simp at h; subst h
  show (List.drop 0 (y.cells ++ itCs l)).take 4 = y.cells
  rfl
 | y :: l, i + 1, x, h => by
  rw [List.getElem?_cons_succ] at h
  rw [← itCs_at l i x h]
  show ((y.cells ++ itCs l).drop ((i + 1) * 4)).take 4 = _
  rw [show (i + 1) * 4 = 4 + i * 4 by omega, ← List.drop_drop]
  rfl
theorem own_its {w : World} {base n : Nat} {v : Value} {l : List It} (h : w.ownsRow base 29 4 v n (itCs l)) (hn : l.length = n) (hok : ∀ x ∈ l, x.ok) : Own itT 29 base w v n l :=
 ⟨hn, itCs l, h, fun i x hx => ⟨itCs_at l i x hx, hok x (List.mem_of_getElem? hx)⟩⟩
theorem all26 (A : Option Addr) (n c : Nat) (w : World) : Calls Try.prog 26 #[.slice A n c] w fun e w' => e = .returned (.func (.func 37) #[] #[.pointer (some ⟨w.heap.size, 0, none⟩)]) ∧ w' = w.alloc (.cells #[.slice A n c] 23) := by
 go_enter Try.func26, Try.ntmps26
 go_wp2_with fail
 go_ret
 exact ⟨rfl, rfl⟩
theorem cells_new4 (W : World) (a b c d : Value) (ty : TypeId) : ∀ (j : Nat) (u : Value), [a, b, c, d][j]? = some u → (W.alloc (.cells #[a, b, c, d] ty)).cell? ((⟨W.heap.size, 0, none⟩ : Addr).add j) = some u := fun j u h => by
 match j, h with
 | 0, h => exact cell_heap (heap_at _ rfl) h
 | 1, h => exact cell_heap (heap_at _ rfl) h
 | 2, h => exact cell_heap (heap_at _ rfl) h
 | 3, h => exact cell_heap (heap_at _ rfl) h
def Got (w1 : World) (O Bb : Nat) (pre : List It) (W : World) : Prop :=
 (∃ v, Boxed W O 22 v ∧ W.ownsRow O 29 4 v pre.length (itCs pre) ∧ True) ∧ (∃ u, Boxed W Bb 23 u) ∧ Below O w1 W ∧ ∀ x ∈ pre, 0 ≤ x.size
def Left (w : World) (R1 R2 : Nat) (pre : List It) (W : World) : Prop :=
 W.heap[R1]? = some (.cells #[.slice none 0 0] 22 (0, 0)) ∧ W.heap[R2]? = some (.cells #[.int .i64 4] 25 (0, 0)) ∧ Kept w W ∧ ∃ x ∈ pre, x.size < 0
theorem boxed_not {W : World} {B : Nat} {t : TypeId} {v : Value} (h : Boxed W B t v) {row : Option Nat} (hr : ∀ r, row = some r → ∃ o : Obj, W.heap[r]? = some o ∧ o.isCells = false) : some B ≠ row := by
 intro e
 obtain ⟨o, ho, hc⟩ := hr B e.symm
 rw [show W.heap[B]? = _ from h] at ho
 cases ho; cases hc
theorem got_own (w1 : World) (O Bb B : Nat) (hB : O ≤ B) (hO : O ≤ w1.heap.size) : OwnFrom B (Got w1 O Bb) := by
 rintro s X Y row ⟨⟨v, hv, hr, _⟩, ⟨u, hu⟩, hb, hg⟩ hgr hrow
 have hrow2 : ∀ r, row = some r → ∃ o : Obj, X.heap[r]? = some o ∧ o.isCells = false := fun r e => (hrow r e).2
 refine ⟨⟨v, hv.kept hgr (boxed_not hv hrow2), hr.kept hgr ?_, trivial⟩, ⟨u, hu.kept hgr (boxed_not hu hrow2)⟩, hb.grown hgr (Nat.le_trans hO hb.size) (fun k e => Nat.le_trans hB (hrow k e).1), hg⟩
 rcases hr.2 with ⟨rfl, _⟩ | ⟨g, cap, cur, rfl, _, hgb, _⟩
 ·exact .inl rfl
 ·refine .inr (fun e => ?_)
  obtain ⟨o, ho, hc⟩ := hrow2 g e.symm
  rw [hgb] at ho
  cases ho; cases hc
theorem left_own (w : World) (R1 R2 B : Nat) (hB : w.heap.size ≤ B) : OwnFrom B (Left w R1 R2) := by
 rintro s X Y row ⟨h1, h2, hk, hx⟩ hgr hrow
 have hrow2 : ∀ r, row = some r → ∃ o : Obj, X.heap[r]? = some o ∧ o.isCells = false := fun r e => (hrow r e).2
 exact ⟨Boxed.kept (t := 22) h1 hgr (boxed_not (t := 22) h1 hrow2), Boxed.kept (t := 25) h2 hgr (boxed_not (t := 25) h2 hrow2), hk.grown hgr hk.size (fun k e => Nat.le_trans hB (hrow k e).1), hx⟩
theorem got_step (w1 : World) (O Bb : Nat) (hO : O ≠ Bb) (hOb : O ≤ Bb) : ∀ pre A v, Got w1 O Bb pre A → Got w1 O Bb pre (A.setCell ⟨Bb, 0, none⟩ v) := by
 rintro pre A v ⟨⟨u, hu, hr, _⟩, ⟨u2, hu2⟩, hb, hg⟩
 refine ⟨⟨u, heap_other hu hO, ?_, trivial⟩, ⟨v, hu2.set v⟩, hb.setCell hOb (p := ⟨Bb, 0, none⟩) v, hg⟩
 have hne := hu2.not_row (by decide) hr
 exact hr.kept (row := some Bb) (grown_at grown_self 0 v) (by
  cases h : u.ownBlock with
  | none => exact .inl rfl
  | some g => exact .inr (fun e => hne (by rw [h, e])))
def itemsE (bs : List Int) : Int := if 4096 < bs.length then 3 else if goodB bs then 0 else 4
set_option maxRecDepth 100000 in
theorem items_any (A : Option Addr) (n c : Nat) (bs : List Int) (w : World) (hnc : n ≤ c) (hc : c ≤ maxLen) (hl : Sl u8T w (low w.heap.size) A n bs) :
  Calls Try.prog 12 #[.slice A n c] w fun e w' => (itemsE bs ≠ 0 ∧ e = .returned (.tuple #[.slice none 0 0, .int .i64 (itemsE bs)]) ∧ Kept w w') ∨
   (itemsE bs = 0 ∧ ∃ A', e = .returned (.tuple #[.slice A' (items bs).length (items bs).length, .int .i64 (0)]) ∧ Sl itT w' (fun b => w.heap.size ≤ b ∧ b < w'.heap.size) A' (items bs).length (items bs) ∧ Kept w w') := by
 obtain ⟨i29, hi29, hz0, hz1, hz2⟩ := info_parts info29
 have hbl := hl.1
 by_cases h4 : 4096 < n
 ·have h4' : (4096 : Int) < (n : Int) := by omega
  have hE : itemsE bs = 3 := by unfold itemsE; rw [if_pos (by omega)]
  go_enter Try.func12, Try.ntmps12
  go_wp2_with fail
  refine bodyPost_ret (v := .tuple #[.slice none 0 0, .int .i64 (3)]) (by simp [results, Try.results12, go_sem]) rfl ?_
  exact .inl ⟨by rw [hE]; decide, by rw [hE], by go_grown⟩
 ·have h4' : (n : Int) ≤ 4096 := by omega
  refine callsIn_wide (n := 5).1 (callsIn_of_wp_marks Try.func12 rfl trivial ?_ rfl)
  (simp only [Try.ntmps12, List.size_toArray, List.length_cons, List.length_nil, Nat.reduceAdd, Nat.reduceSub, Array.replicate_succ, Array.replicate_zero, List.push_toArray, List.append_toArray, List.nil_append, List.cons_append])
  gi_wp2_with (refine ⟨trivial, ?_⟩; gi_at_call 26; refine (callsIn_wide.2 (all26 A n c _)).mono ?_; rintro e w4 ⟨rfl, rfl⟩)
  refine wpIn_at (fun W => Boxed W w.heap.size 22 (.slice none 0 0) ∧ Boxed W (w.heap.size + 1) 25 (.int .i64 0) ∧ Boxed W (w.heap.size + 1 + 1) 22 (.slice none 0 0) ∧ Boxed W (w.heap.size + 1 + 1 + 1) 23 (.slice A n c) ∧ Kept w W ∧ W.heap.size = w.heap.size + 1 + 1 + 1 + 1) ⟨?_, ?_, ?_, ?_, ?_, ?_⟩ (fun W hW => ?_)
  ·exact heap_past (heap_past (heap_past (heap_at _ rfl)))
  ·exact heap_past (heap_past (heap_at _ (by simp)))
  ·exact heap_past (heap_at _ (by simp))
  ·exact heap_at _ (by simp)
  ·go_grown
  ·simp
  obtain ⟨b1, b2, bO, bB, hkW, hsz⟩ := hW
  have hst := stepper_any 4 (by decide) A n c bs w.heap.size (w.heap.size + 1 + 1 + 1) W hnc hc (by omega) bB (hl.below hkW)
  have hu := hl.u8
  have hits := items_ok bs.length bs (Nat.le_refl _) hu
  refine range_items (L := items bs) (B0 := w.heap.size) (Bb := w.heap.size + 1 + 1 + 1) rfl hst (by omega) (by omega) (Got W (w.heap.size + 1 + 1) (w.heap.size + 1 + 1 + 1)) (Left w w.heap.size (w.heap.size + 1)) (got_own _ _ _ _ (by omega) (by omega)) (left_own _ _ _ _ (by omega)) (got_step _ _ _ (by omega) (by omega))
   ⟨⟨_, bO, World.ownsRow_nil _ _ _ _, trivial⟩, ⟨_, bB⟩, Below.refl _ _, fun x hx => by cases hx⟩
   (fun x X => { tmps := #[.slice A n c, undef, .pointer (some ⟨w.heap.size, 0, none⟩), .pointer (some ⟨w.heap.size + 1, 0, none⟩), .pointer (some ⟨w.heap.size + 1 + 1, 0, none⟩), .pointer (some ⟨X, 0, none⟩), .slice A n c, .int .i64 n, .bool (decide (4096 < (n : Int))), .slice A n c, .func (.func 37) #[] #[.pointer (some ⟨w.heap.size + 1 + 1 + 1, 0, none⟩)], itV x, undef, undef, undef, undef, undef, undef, undef, undef, undef], defers := [] }) ?assign ?body ?done ?stop
  case assign =>
   intro l x W2 K hK
   unfold itV
   gi_wp2
   exact hK
  case body =>
   rintro l pre x W₀ W2 hW₀ _ ⟨⟨v, hv, hrow, _⟩, ⟨u, hu2⟩, hB, hg⟩ hbx hpre
   have hxi : x ∈ items bs := hpre.subset (by simp)
   have hxok := hits x hxi
   have hplen : pre.length ≤ 4096 := by
    have h1 := hpre.length_le
    have h2 := items_len bs.length bs (Nat.le_refl _)
    rw [List.length_append] at h1
    omega
   have hbx' : W2.heap[W₀.heap.size]? = some (.cells #[.int .u8 x.ty, .int .u8 x.tg, .int .i64 x.size, .int .u32 x.data] 29 (0, 0)) := hbx
   have x0 := cell_heap hbx' (o := 0) rfl
   have x1 := cell_heap hbx' (o := 1) rfl
   have x2 := cell_heap hbx' (o := 2) rfl
   have x3 := cell_heap hbx' (o := 3) rfl
   have hxl := heap_lt hbx'
   have hc0 := hv.cell
   have hf0 := hv.frozen
   have hvl := hv.lt
   have hBs := hB.size
   by_cases hneg : x.size < 0
   ·have hr1 : Boxed W2 w.heap.size 22 (.slice none 0 0) := (hB.block _ (by omega)).trans b1
    have hr2 : Boxed W2 (w.heap.size + 1) 25 (.int .i64 0) := (hB.block _ (by omega)).trans b2
    have c1 := hr1.cell
    have c2 := hr2.cell
    have f1 := hr1.frozen
    have f2 := hr2.frozen
    have l1 := hr1.lt
    have l2 := hr2.lt
    have hk02 : Kept w W2 := Below.trans hkW (hB.mono (by omega))
    gi_wp2
    refine ⟨((KeepsOthers.setCell _ _ _).trans (KeepsOthers.setCell _ _ _)).from _, ?_, ?_, ?_, x, by simp, hneg⟩
    ·exact heap_other (hr1.set _) (by show w.heap.size ≠ w.heap.size + 1; omega)
    ·exact Boxed.set (t := 25) _ (heap_other hr2 (by show w.heap.size + 1 ≠ w.heap.size; omega))
    ·exact (hk02.setCell (Nat.le_refl _) (p := ⟨w.heap.size, 0, none⟩) _).setCell (by show w.heap.size ≤ w.heap.size + 1; omega) (p := ⟨w.heap.size + 1, 0, none⟩) _
   ·have hneg' : 0 ≤ x.size := by omega
    gi_wp2_with (gi_at_builtin; refine wpListIn_append_own_at _ rfl _ _ 22 rfl (w.heap.size + 1 + 1) 29 i29 _ 4 24 Try.underlying22 hi29 hz0 hz1 hz2 rfl (by decide) _ _ _ rfl (hrow.alloc _) ⟨W2.heap.size, 0, none⟩ 1 1 [.int .u8 x.ty, .int .u8 x.tg, .int .i64 x.size, .int .u32 x.data] rfl rfl (cells_new4 _ _ _ _ _ _) (by simp [Value.oneCell']) (by unfold maxLen; omega) (by omega) (by simp; omega) ?_; intro v' w4 hown' hgrow _ hat; obtain ⟨g', cap', rfl⟩ := ownsRow_succ hown'; obtain ⟨hv1, hv2, hr2, hk2, hb2⟩ := hv.appended (by decide) hrow (by omega) (Nat.le_refl _) hown' hgrow; have hc1 := hv1.cell; have hf1 := hv1.frozen)
    have hne := hu2.not_row (by decide) hrow
    have hbu : Boxed (w4.setCell ⟨w.heap.size + 1 + 1, 0, none⟩ (.slice (some ⟨g', 0, none⟩) (pre.length + 1) cap')) (w.heap.size + 1 + 1 + 1) 23 u := heap_other ((hu2.alloc _).kept hgrow hne) (by show w.heap.size + 1 + 1 + 1 ≠ w.heap.size + 1 + 1; omega)
    refine ⟨hk2.from _, ⟨hb2.mono (by omega), hbu.trans hu2.symm⟩, ⟨_, hv2, ?_, trivial⟩, ⟨u, hbu⟩, hB.trans hb2, fun y hy => ?_⟩
    ·rw [itCs_snoc, List.length_append]
     exact hr2
    ·rcases List.mem_append.1 hy with h | h
     ·exact hg y h
     ·rw [List.mem_singleton.1 h]; exact hneg'
  case done =>
   rintro D W2 hD ⟨⟨v, hv, hrow, _⟩, ⟨u, hu2⟩, hB, hg⟩ hK
   have hr1 : Boxed W2 w.heap.size 22 (.slice none 0 0) := (hB.block _ (by omega)).trans b1
   have hr2 : Boxed W2 (w.heap.size + 1) 25 (.int .i64 0) := (hB.block _ (by omega)).trans b2
   have c1 := hr1.cell
   have c2 := hr2.cell
   have f1 := hr1.frozen
   have f2 := hr2.frozen
   have l1 := hr1.lt
   have l2 := hr2.lt
   have hc0 := hv.cell
   have hvl := hv.lt
   have hown := own_its hrow rfl (fun x hx => hits x hx)
   obtain ⟨A5, c5, rfl, h51, h52⟩ := hown.isSlice
   have hE : itemsE bs = 0 := by
    unfold itemsE
    have hgb : goodB bs = true := List.all_eq_true.2 (fun x hx => by simpa using hg x hx)
    rw [if_neg (by omega), if_pos hgb]
   have hk02 : Kept w W2 := Below.trans hkW (hB.mono (by omega))
   have Hrow := hide hrow
   clear hown hrow
   have HN := hide (show (items bs).length = (items bs).length from rfl)
   gi_wp2_with (refine ⟨trivial, ?_⟩; gi_at_call 27; refine (callsIn_wide.2 (clip27 A5 _ c5 h51 h52 _)).mono ?_; rintro e w9 ⟨rfl, rfl⟩)
   have hK3 : ((W2.setCell ⟨w.heap.size, 0, none⟩ (.slice A5 (items bs).length (items bs).length)).setCell ⟨w.heap.size + 1, 0, none⟩ (.int .i64 0)).heap[D]? = some (.deferred (some [])) := heap_other (heap_other hK (by show D ≠ w.heap.size; omega)) (by show D ≠ w.heap.size + 1; omega)
   refine ⟨by simp, .inl ⟨_, _, rfl, run_takeDeferred hK3, ?_⟩⟩
   have g1 : Boxed (((W2.setCell ⟨w.heap.size, 0, none⟩ (.slice A5 (items bs).length (items bs).length)).setCell ⟨w.heap.size + 1, 0, none⟩ (.int .i64 0)).putObj D (.deferred none)) w.heap.size 22 (.slice A5 (items bs).length (items bs).length) := (World.putObj_heap_other (by omega)).trans (heap_other (hr1.set _) (by show w.heap.size ≠ w.heap.size + 1; omega))
   have g2 : Boxed (((W2.setCell ⟨w.heap.size, 0, none⟩ (.slice A5 (items bs).length (items bs).length)).setCell ⟨w.heap.size + 1, 0, none⟩ (.int .i64 0)).putObj D (.deferred none)) (w.heap.size + 1) 25 (.int .i64 0) := (World.putObj_heap_other (by omega)).trans (Boxed.set (t := 25) _ (heap_other hr2 (by show w.heap.size + 1 ≠ w.heap.size; omega)))
   have c1 := g1.cell
   have c2 := g2.cell
   have hrow3 := ownsRow_putObj (ownsRow_setCell_below (a := ⟨w.heap.size + 1, 0, none⟩) (ownsRow_setCell_below (a := ⟨w.heap.size, 0, none⟩) Hrow.out (by show w.heap.size < _; omega) (Value.slice A5 (items bs).length (items bs).length)) (by show w.heap.size + 1 < _; omega) (Value.int .i64 0)) (.deferred none) hK3 rfl
   have hown3 := own_its hrow3 rfl (fun x hx => hits x hx)
   have hk3 := (hk02.setCell (Nat.le_refl _) (p := ⟨w.heap.size, 0, none⟩) (Value.slice A5 (items bs).length (items bs).length)).setCell (by show w.heap.size ≤ w.heap.size + 1; omega) (p := ⟨w.heap.size + 1, 0, none⟩) (Value.int .i64 0)
   refine ⟨.tuple #[.slice A5 (items bs).length (items bs).length, .int .i64 (0)], by simp [results, Try.results12, go_sem, c1, c2], .inr ⟨hE, A5, rfl, ?_, ?_⟩⟩
   ·exact (Own.sl_of (n := (items bs).length) (m := (items bs).length) (c := c5) hown3 (fun b => w.heap.size ≤ b ∧ b < _) (fun g h1 h2 => ⟨by omega, h2⟩) (fun _ _ h => h))
   ·exact hk3.trans (belowK_b (w := w) (Nat.le_refl _) _ D _ (.deferred none) (by omega) hK3 rfl rfl)
  case stop =>
   rintro D pre W2 hD hpre ⟨h1, h2, hk, x, hx, hneg⟩ hK
   have hE : itemsE bs = 4 := by
    unfold itemsE
    rw [if_neg (by omega), if_neg]
    intro hall
    unfold goodB at hall
    have := List.all_eq_true.1 hall x (hpre.subset hx)
    simp at this
    omega
   gi_wp2
   refine ⟨by simp, .inl ⟨_, _, rfl, run_takeDeferred hK, ?_⟩⟩
   have g1 : Boxed (W2.putObj D (.deferred none)) w.heap.size 22 (.slice none 0 0) := (World.putObj_heap_other (by omega)).trans h1
   have g2 : Boxed (W2.putObj D (.deferred none)) (w.heap.size + 1) 25 (.int .i64 4) := (World.putObj_heap_other (by omega)).trans h2
   have c1 := g1.cell
   have c2 := g2.cell
   refine ⟨.tuple #[.slice none 0 0, .int .i64 (4)], by simp [results, Try.results12, go_sem, c1, c2], .inl ⟨by rw [hE]; decide, by rw [hE], ?_⟩⟩
   exact hk.trans (belowK_b (w := w) (Nat.le_refl _) _ D _ (.deferred none) (by omega) hK rfl rfl)
end Go.Proofs.Ytegdigfcgeoboaa
namespace Go.Proofs.Ytegdigfcgeoboaa
open Go.RowKit Go.Maps
attribute [local go_sem ↓] Go.wp_at_zero Go.wp_at_succ
def parseE (bs : List Int) : Int := if itemsE bs ≠ 0 then itemsE bs else (parseS (items bs)).1
def parseM (bs : List Int) : RS := (parseS (items bs)).2
theorem eqlNilF (w : World) : (binOp .eql 89 .nilFunc .nilFunc).run Try.prog w = .ok (.bool true) w := by kernel_rfl
theorem eqlFn (f : FuncId) (w : World) : (binOp .eql 89 (.func (.func f) #[] #[]) .nilFunc).run Try.prog w = .ok (.bool false) w := by kernel_rfl
theorem zero89 (w : World) : (zeroValue 89).run Try.prog w = .ok .nilFunc w := by kernel_rfl
theorem run_step {l : List It} {i : Nat} {x : It} (hx : l[i]? = some x) (h0 : (runS (l.take i) rs0).1 = 0) : runS (l.take (i + 1)) rs0 = (if (effS (runS (l.take i) rs0).2 x).1 ≠ 0 then effS (runS (l.take i) rs0).2 x else (0, clearS (effS (runS (l.take i) rs0).2 x).2 x)) := by
 obtain ⟨hi, e⟩ := List.getElem?_eq_some_iff.1 hx
 rw [List.take_succ_eq_append_getElem hi, e]
 exact runS_snoc _ _ _ h0
theorem run_bad {l : List It} {i : Nat} {x : It} (hx : l[i]? = some x) (h0 : (runS (l.take i) rs0).1 = 0) (h1 : (effS (runS (l.take i) rs0).2 x).1 ≠ 0) : parseS l = effS (runS (l.take i) rs0).2 x := by
 have h2 := run_step hx h0
 rw [if_pos h1] at h2
 have h3 : runS l rs0 = effS (runS (l.take i) rs0).2 x := by
  have h4 := runS_stop (l.take (i + 1)) rs0 (l.drop (i + 1)) (by rw [h2]; exact h1)
  rw [List.take_append_drop] at h4
  rw [h4, h2]
 unfold parseS
 rw [h3, if_pos h1]
theorem items_no (A : Option Addr) (n c : Nat) (bs : List Int) (w : World) (hnc : n ≤ c) (hc : c ≤ maxLen) (hl : Sl u8T w (low w.heap.size) A n bs) (hE : itemsE bs ≠ 0) :
  Calls Try.prog 12 #[.slice A n c] w fun e w' => e = .returned (.tuple #[.slice none 0 0, .int .i64 (itemsE bs)]) ∧ Kept w w' :=
 (items_any A n c bs w hnc hc hl).mono fun e w' h => h.elim (fun h => ⟨h.2.1, h.2.2⟩) (fun h => absurd h.1 hE)
theorem items_yes (A : Option Addr) (n c : Nat) (bs : List Int) (w : World) (hnc : n ≤ c) (hc : c ≤ maxLen) (hl : Sl u8T w (low w.heap.size) A n bs) (hE : itemsE bs = 0) :
  Calls Try.prog 12 #[.slice A n c] w fun e w' => ∃ A', e = .returned (.tuple #[.slice A' (items bs).length (items bs).length, .int .i64 0]) ∧ Sl itT w' (fun b => w.heap.size ≤ b ∧ b < w'.heap.size) A' (items bs).length (items bs) ∧ Kept w w' :=
 (items_any A n c bs w hnc hc hl).mono fun e w' h => h.elim (fun h => absurd hE h.1) (fun h => h.2)
set_option maxRecDepth 100000 in
theorem parse_no (A : Option Addr) (n c : Nat) (bs : List Int) (w : World) (hnc : n ≤ c) (hc : c ≤ maxLen) (hl : Sl u8T w (low w.heap.size) A n bs) (hE : itemsE bs ≠ 0) :
  Calls Try.prog 14 #[.slice A n c] w (ParsePost w (parseE bs) (parseM bs)) := by
 have hP : parseE bs = itemsE bs := by unfold parseE; rw [if_pos hE]
 rw [hP]
 have hit := fun w' (h : Sl u8T w' (low w'.heap.size) A n bs) => items_no A n c bs w' hnc hc h hE
 have Hl := hide hl
 generalize itemsE bs = E at *
 have hE1 : (E != 0) = true := by simpa using hE
 have hE2 : (E == 0) = false := by simpa using hE
 generalize parseM bs = M at *
 clear hl hP
 go_enter Try.func14, Try.ntmps14
 go_wp2_with (go_at_call 12; refine (hit _ (Hl.out.kept ((Below.refl _ _).alloc (Nat.le_refl _) _))).mono ?_; rintro e w1 ⟨rfl, hk1⟩; obtain ⟨hcq, hfq⟩ := bcell hk1; have hzq := hk1.size; simp only [World.size_alloc] at hcq hfq hzq; have hDl : w.heap.size < w1.heap.size := (by omega))
 refine bodyPost_ret (v := .tuple #[.agg #[.slice none 0 0, .slice none 0 0, .bool false], .int .i64 E]) (by simp [results, Try.results14, go_sem, *]) rfl ⟨?_, .inl ⟨hE, rfl⟩⟩
 have hk1' : Below w.heap.size w w1 := Below.trans ((Below.refl _ _).alloc (Nat.le_refl _) _) (hk1.mono (by simp))
 exact ((hk1'.setCell (p := ⟨w.heap.size, 0, none⟩) (Nat.le_refl _) _).setCell (p := ⟨w.heap.size, 1, none⟩) (Nat.le_refl _) _).setCell (p := ⟨w.heap.size, 2, none⟩) (Nat.le_refl _) _
theorem Sl.off {α : Type} {t : Ty α} {w : World} {F X : Nat → Prop} {A : Option Addr} {n : Nat} {xs : List α} (h : Sl (t.on X) w F A n xs) : Sl t w F A n xs :=
 ⟨h.1, fun i x hx => by
  obtain ⟨b, off, cs, e, hb, hr, hc⟩ := h.2 i x hx
  exact ⟨b, off, cs, e, hb, t.keep hr (fun b hb => hb.1) (fun _ _ _ => rfl), hc⟩⟩
set_option maxRecDepth 100000 in
theorem parse_yes (A : Option Addr) (n c : Nat) (bs : List Int) (w : World) (hnc : n ≤ c) (hc : c ≤ maxLen) (hl : Sl u8T w (low w.heap.size) A n bs) (hE : itemsE bs = 0) :
  Calls Try.prog 14 #[.slice A n c] w (ParsePost w (parseE bs) (parseM bs)) := by
 have hb8 := hl.u8
 have hP : parseE bs = (parseS (items bs)).1 := by unfold parseE; rw [if_neg (by simp [hE])]
 have hM : parseM bs = (parseS (items bs)).2 := rfl
 have hwide : ∀ x ∈ items bs, x.wide = true ∧ x.ok := by
  have hg : goodB bs = true := by
   unfold itemsE at hE
   split at hE
   ·cases hE
   ·split at hE
    ·assumption
    ·cases hE
  intro x hx
  exact ⟨(join_items bs.length bs (Nat.le_refl _) hb8 hg).2 x hx, items_ok bs.length bs (Nat.le_refl _) hb8 x hx⟩
 have hlen : (items bs).length ≤ 4096 := by
  have h1 := items_len bs.length bs (Nat.le_refl _)
  have h2 : bs.length ≤ 4096 := by
   unfold itemsE at hE
   by_cases h : 4096 < bs.length
   ·rw [if_pos h] at hE; cases hE
   ·omega
  omega
 have hit := fun w' (h : Sl u8T w' (low w'.heap.size) A n bs) => items_yes A n c bs w' hnc hc h hE
 have Hl := hide hl
 have HP := hide hP
 have HM := hide hM
 generalize hEE : parseE bs = EE at *
 generalize hMM : parseM bs = MM at *
 generalize items bs = l at *
 obtain ⟨k, hk⟩ : ∃ k, l.length = k := ⟨_, rfl⟩
 rw [hk] at hit hlen
 have Hk := hide hk
 have Hwide := hide hwide
 clear hl hP hM hEE hMM hE hb8 hwide hk
 have hmm := @run_makeMap Try.prog
 go_enter Try.func14, Try.ntmps14
 go_upto_region 6 with (first
  | (go_at_call 12; refine (hit _ (Hl.out.kept ((Below.refl _ _).alloc (Nat.le_refl _) _))).mono ?_; rintro e w1 ⟨A', rfl, hsl, hk1⟩)
  | (go_at_call 28; refine (effects_any _).mono ?_; rintro e w2 ⟨v, rfl, ⟨eb, NE, fE, rfl, heb, hME, hfE⟩, hk2⟩))
 refine wp_at (fun W => Kept w W ∧ W.heap[w.heap.size]? = some (.cells #[.slice none 0 0, .slice none 0 0, .bool false] 40 (0, 0)) ∧ w.heap.size < w1.heap.size ∧ Sl itT W (low w1.heap.size) A' k l ∧
   (∃ NE fE, MapIs Try.prog 90 W eb NE fE ∧ ∀ t g : Int, (0 ≤ t ∧ t < 16) → u8k g → fE (kL t g) = (fnOf t g).map (fun f => .func (.func f) #[] #[])) ∧ w1.heap.size + 1 < eb ∧
   Rd W W.heap.size (w1.heap.size + 1) w1.heap.size (.slice none 0 0) (.slice none 0 0) (.slice none 0 0) (.slice none 0 0) rs0) ?_ (fun W0 hW0 => ?_)
 ·have k1 : Below w.heap.size w w1 := Below.trans ((Below.refl _ _).alloc (Nat.le_refl _) _) (hk1.mono (by simp))
  have s1 := hk1.size
  have s2 := hk2.size
  simp only [World.size_alloc] at s1 s2 heb
  have kA : Kept w1 ((w1.alloc (.map #[] 0)).alloc (.cells (rdC rs0 w1.heap.size (.slice none 0 0) (.slice none 0 0) (.slice none 0 0) (.slice none 0 0)) 86)) := by go_grown
  have k2 : Kept w1 w2 := kA.trans' hk2
  have hb2 : w2.heap[w1.heap.size + 1]? = some (.cells (rdC rs0 w1.heap.size (.slice none 0 0) (.slice none 0 0) (.slice none 0 0) (.slice none 0 0)) 86 (0, 0)) := heap_kept hk2 (heap_at _ (by simp))
  have hm2 : MapIs Try.prog 90 w2 w1.heap.size 0 (fun _ => none) := ((MapIs.made w1 Try.prog 90).keep (by go_grown)).keep hk2
  refine ⟨k1.trans (k2.mono (by omega)), heap_kept k2 (heap_kept hk1 (heap_at _ rfl)), by omega, hsl.keep (fun g hg => hg.2) (fun b o hb => k2.cell (p := ⟨b, o, none⟩) hb.2), ⟨NE, fE, hME, hfE⟩, by omega, hb2, Own.nil _ _ _ _, Own.nil _ _ _ _, Own.nil _ _ _ _, Own.nil _ _ _ _, ⟨_, hm2, fun _ _ _ _ => rfl⟩, by omega, by omega, by omega⟩
 obtain ⟨hkW, hD, hDl, hsl0, ⟨NE, fE, hME, hfE⟩, heb, hr0⟩ := hW0
 generalize hw1 : w1.heap.size = m at *
 clear hsl hk1 hk2 hit hw1
 have hebl := hME.lt
 have HME := hide hME
 have HfE := hide hfE
 have HkW := hide hkW
 have HD := hide hD
 have Hsl := hide hsl0
 have Hr0 := hide hr0
 have hlow := hr0.low
 obtain ⟨hl1, hl2, hl3⟩ := hlow
 have hD0 := heap_lt hD
 clear hME hfE hkW hD hsl0 hr0
 go_wp2_with fail
 go_loopg [3, 27] k (fun g s3 tR wr => ∃ i : Nat, i + g = k ∧ s3 = .int .i64 0 ∧ tR = .int .i64 i ∧ Hid ((runS (l.take i) rs0).1 = 0) ∧ Fr W0.heap.size (m + 1) m W0 wr ∧ ∃ vs vu vf vc, Rd wr W0.heap.size (m + 1) m vs vu vf vc (runS (l.take i) rs0).2)
 case atStart => exact ⟨0, by omega, rfl, rfl, rfl, Fr.refl, _, _, _, _, Hr0.out⟩
 case round =>
  obtain ⟨i, hi, rfl, rfl, h0, hfr, vs, vu, vf, vc, hr⟩ := hrel
  have Hi := hide hi
  clear hi
  have hkr : Kept w wr := HkW.out.trans (hfr.low (B := w.heap.size) (by omega) (by omega) (by omega))
  have hDr : wr.heap[w.heap.size]? = some (.cells #[.slice none 0 0, .slice none 0 0, .bool false] 40 (0, 0)) := (hfr.block _ hD0 (by omega) (by omega)).trans HD.out
  have hDlr := heap_lt hDr
  have d0 : wr.cell? ⟨w.heap.size, 0, none⟩ = some (.slice none 0 0) := cell_heap hDr (o := 0) rfl
  have d1 : wr.cell? ⟨w.heap.size, 1, none⟩ = some (.slice none 0 0) := cell_heap hDr (o := 1) rfl
  have d2 : wr.cell? ⟨w.heap.size, 2, none⟩ = some (.bool false) := cell_heap hDr (o := 2) rfl
  have q0 := frozen_heap hDr (o := 0)
  have q1 := frozen_heap hDr (o := 1)
  have q2 := frozen_heap hDr (o := 2)
  have hwz := hfr.size
  obtain ⟨S, hS⟩ : ∃ S, (runS (l.take i) rs0).2 = S := ⟨_, rfl⟩
  rw [hS] at hr
  have HS := hide hS
  have hSf : S.Fine := by
   rw [← hS]
   exact run_fine _ _ fine0 (fun x hx => Hwide.out x (List.mem_of_mem_take hx)) h0.out
  have HSf := hide hSf
  have Hkr := hide hkr
  have HDr := hide hDr
  have Hfr := hide hfr
  have Hr := hide hr
  have hRl := heap_lt hr.box
  have hRm : ¬ wr.heap.size = m + 1 := by omega
  clear hS hSf hkr hfr
  by_cases hlt : i < k
  ·have hil : i < l.length := by rw [Hk.out]; exact hlt
   obtain ⟨x, hx⟩ : ∃ x, l[i]? = some x := ⟨_, List.getElem?_eq_getElem hil⟩
   obtain ⟨hxw, hxok⟩ := Hwide.out x (List.mem_of_getElem? hx)
   obtain ⟨x', b, off, cs, hx', rfl, hbb, ⟨rfl, _⟩, hcs⟩ := (Hsl.out.below (Hfr.out.low (B := m) (by omega) (by omega) (Nat.le_refl _))).at hlt
   obtain rfl : x' = x := Option.some.inj (hx'.symm.trans hx)
   have z0 : wr.cell? ⟨b, off + i * 4, none⟩ = some (.int .u8 x'.ty) := hcs 0 _ rfl
   have z1 : wr.cell? ⟨b, off + i * 4 + 1, none⟩ = some (.int .u8 x'.tg) := hcs 1 _ rfl
   have z2 : wr.cell? ⟨b, off + i * 4 + 2, none⟩ = some (.int .i64 x'.size) := hcs 2 _ rfl
   have z3 : wr.cell? ⟨b, off + i * 4 + 3, none⟩ = some (.int .u32 x'.data) := hcs 3 _ rfl
   have hbl : b < wr.heap.size := Nat.lt_of_lt_of_le (show b < m from hbb) (by omega)
   have hi0 : (0 : Int) ≤ (i : Int) := by omega
   have hlt' : (i : Int) < (k : Int) := by omega
   have hrng := wide_iff hxw hxok
   have hmr : MapIs Try.prog 90 wr eb NE fE := HME.out.of_heap (Hfr.out.block eb hebl (by omega) (by omega))
   have hkey := key_pair (a := x'.ty) (b := x'.tg) (by have := hrng.1; have := hrng.2.1; omega) hxok.2.1
   have hfx := HfE.out x'.ty x'.tg (by have := hrng.1; have := hrng.2.1; omega) hxok.2.1
   have Hhx := hide hx
   have Hxw := hide hxw
   have Hxok := hide hxok
   have Hmr := hide hmr
   have Hkey := hide hkey
   clear hx' hcs hbb hrng hx hxw hxok hil hmr hkey
   cases hfn : fnOf x'.ty x'.tg with
   | none =>
    rw [hfn] at hfx
    have hbad : parseS l = effS (runS (l.take i) rs0).2 x' := run_bad Hhx.out h0.out (by rw [eff_none hfn]; show (4 : Int) ≠ 0; decide)
    rw [eff_none hfn] at hbad
    have e1 : EE = 4 := by rw [HP.out, hbad]
    subst e1
    have Hfx := hide (show fE (kL x'.ty x'.tg) = none from hfx)
    have hq := eqlNilF
    clear hfx hbad hfn
    go_wp2_with (at_lookup; refine wpList_look_any _ rfl _ _ 87 false rfl 90 89 keyed90 Try.underlying87 (zero89 _) eb NE fE (by rfl) (by exact Hmr.out.keep (by go_grown)) _ _ rfl Hkey.out ?_; rw [Hfx.out]; simp only [Bool.false_eq_true, if_false, Option.getD_none])
    refine bodyPost_ret (v := .tuple #[.agg #[.slice none 0 0, .slice none 0 0, .bool false], .int .i64 (4)]) (by simp [results, Try.results14, go_sem, *]) rfl ⟨?_, .inl ⟨?_, ?_⟩⟩
    ·exact (((Hkr.out.setCell (p := ⟨w.heap.size, 0, none⟩) (Nat.le_refl _) _).setCell (p := ⟨w.heap.size, 1, none⟩) (Nat.le_refl _) _).setCell (p := ⟨w.heap.size, 2, none⟩) (Nat.le_refl _) _).alloc (by simp only [World.size_setCell]; exact Hkr.out.size) _
    ·decide
    ·rfl
   | some f =>
    rw [hfn] at hfx
    have hen := fn_enters hfn
    have hq := eqlFn f
    have Hfx := hide (show fE (kL x'.ty x'.tg) = some (.func (.func f) #[] #[]) from hfx)
    have heff : ∀ W2 : World, Kept wr W2 → Calls Try.prog f #[.pointer (some ⟨m + 1, 0, none⟩), itV x'] W2 (Did W0.heap.size (m + 1) m W2 (effS S x')) := fun W2 hk2 => eff_any (Hr.out.kept hk2) (Nat.le_trans hwz hk2.size) HSf.out x' Hxw.out Hxok.out hfn
    unfold itV at heff
    have hst := run_step Hhx.out h0.out
    rw [HS.out] at hst
    by_cases he : (effS S x').1 = 0
    ·rw [if_neg (by simpa using he)] at hst
     have Hst := hide hst
     have heff' : ∀ W2 : World, Kept wr W2 → Calls Try.prog f #[.pointer (some ⟨m + 1, 0, none⟩), .agg #[.int .u8 x'.ty, .int .u8 x'.tg, .int .i64 x'.size, .int .u32 x'.data]] W2 fun e w3 => e = .returned (.int .i64 0) ∧ Fr W0.heap.size (m + 1) m W2 w3 ∧ ∃ vs vu vf vc, Rd w3 W0.heap.size (m + 1) m vs vu vf vc (effS S x').2 :=
      fun W2 hk2 => (heff W2 hk2).mono fun e w3 ⟨h1, h2, h3⟩ => ⟨by rw [h1, he], h2, h3 he⟩
     generalize hr2 : (effS S x').2 = r2 at *
     by_cases ht : x'.ty = 0
     ·have hcl : clearS r2 x' = { r2 with usages := [], keeps := false } := by unfold clearS; rw [if_pos ht]
      have Hcl := hide hcl
      have ht1 : (x'.ty == 0) = true := by simpa using ht
      clear hfx hfn he heff hr2 hst hcl ht
      go_wp2_with (first
       | (at_lookup; refine wpList_look_any _ rfl _ _ 87 false rfl 90 89 keyed90 Try.underlying87 (zero89 _) eb NE fE (by rfl) (by exact Hmr.out.keep (by go_grown)) _ _ rfl Hkey.out ?_; rw [Hfx.out]; simp only [Bool.false_eq_true, if_false, Option.getD_some])
       | (refine (heff' _ (by go_grown)).mono ?_; rintro e w3 ⟨rfl, hf3, vs3, vu3, vf3, vc3, hr3⟩; have hbx3 := hf3.box wr.heap.size _ hRm (by omega) (heap_at _ rfl); have y0 : w3.cell? ⟨wr.heap.size, 0, none⟩ = some (.int .u8 x'.ty) := cell_heap hbx3 (o := 0) rfl; have hbl3 := heap_lt hbx3; have hR3 := heap_lt hr3.box; have u7 := cell_heap hr3.box (o := 7) rfl; have v7 := frozen_heap hr3.box (o := 7); have u9 := cell_heap hr3.box (o := 9) rfl; have v9 := frozen_heap hr3.box (o := 9)))
      have hk7 := hr3.usagesTo (w' := w3) (v' := .slice none 0 0) (l := []) ⟨rfl, rfl, rfl, Nat.le_refl _, fun _ _ _ => rfl⟩ (Own.nil _ _ _ _) (.inl rfl)
      have hk9 := hk7.set 9 (.bool false) (s' := { r2 with usages := [], keeps := false }) rfl rfl rfl rfl rfl
      go_roundg (gk - 1)
      case measure => have := Hi.out; omega
      case rel =>
       refine ⟨i + 1, by have := Hi.out; omega, rfl, by go_num, ?_, (((Hfr.out.trans (Fr.kept ((Below.refl _ _).alloc (Nat.le_refl _) _) hwz)).trans hf3).trans (Fr.set 7 _)).trans (Fr.set 9 _), ?_⟩
       ·exact hide (by rw [Hst.out])
       ·rw [Hst.out]
        show ∃ vs vu vf vc, Rd _ W0.heap.size (m + 1) m vs vu vf vc (clearS r2 x')
        rw [Hcl.out]
        exact ⟨_, _, _, _, hk9⟩
     ·have hcl : clearS r2 x' = r2 := by unfold clearS; rw [if_neg ht]
      have Hcl := hide hcl
      have ht1 : (x'.ty == 0) = false := by simpa using ht
      clear hfx hfn he heff hr2 hst hcl
      go_wp2_with (first
       | (at_lookup; refine wpList_look_any _ rfl _ _ 87 false rfl 90 89 keyed90 Try.underlying87 (zero89 _) eb NE fE (by rfl) (by exact Hmr.out.keep (by go_grown)) _ _ rfl Hkey.out ?_; rw [Hfx.out]; simp only [Bool.false_eq_true, if_false, Option.getD_some])
       | (refine (heff' _ (by go_grown)).mono ?_; rintro e w3 ⟨rfl, hf3, vs3, vu3, vf3, vc3, hr3⟩; have hbx3 := hf3.box wr.heap.size _ hRm (by omega) (heap_at _ rfl); have y0 : w3.cell? ⟨wr.heap.size, 0, none⟩ = some (.int .u8 x'.ty) := cell_heap hbx3 (o := 0) rfl; have hbl3 := heap_lt hbx3))
      go_roundg (gk - 1)
      case measure => have := Hi.out; omega
      case rel =>
       refine ⟨i + 1, by have := Hi.out; omega, rfl, by go_num, ?_, (Hfr.out.trans (Fr.kept ((Below.refl _ _).alloc (Nat.le_refl _) _) hwz)).trans hf3, ?_⟩
       ·exact hide (by rw [Hst.out])
       ·rw [Hst.out]
        show ∃ vs vu vf vc, Rd _ W0.heap.size (m + 1) m vs vu vf vc (clearS r2 x')
        rw [Hcl.out]
        exact ⟨_, _, _, _, hr3⟩
    ·have hbad := run_bad Hhx.out h0.out (by rw [HS.out]; exact he)
     rw [HS.out] at hbad
     obtain rfl : EE = (effS S x').1 := by rw [HP.out, hbad]
     generalize effS S x' = r at *
     have he1 : (r.1 != 0) = true := by simpa using he
     have he2 : (r.1 == 0) = false := by simpa using he
     clear hst hbad hfx hfn
     go_wp2_with (first
      | (at_lookup; refine wpList_look_any _ rfl _ _ 87 false rfl 90 89 keyed90 Try.underlying87 (zero89 _) eb NE fE (by rfl) (by exact Hmr.out.keep (by go_grown)) _ _ rfl Hkey.out ?_; rw [Hfx.out]; simp only [Bool.false_eq_true, if_false, Option.getD_some])
      | (refine (heff _ (by go_grown)).mono ?_; rintro e w3 ⟨rfl, hf3, hd3⟩; have hD3 := (hf3.block _ hD0 (by omega) (by omega)).trans (heap_past HDr.out); have hDl3 := heap_lt hD3; have d30 : w3.cell? ⟨w.heap.size, 0, none⟩ = some (.slice none 0 0) := cell_heap hD3 (o := 0) rfl; have d31 : w3.cell? ⟨w.heap.size, 1, none⟩ = some (.slice none 0 0) := cell_heap hD3 (o := 1) rfl; have d32 : w3.cell? ⟨w.heap.size, 2, none⟩ = some (.bool false) := cell_heap hD3 (o := 2) rfl; have q30 := frozen_heap hD3 (o := 0); have q31 := frozen_heap hD3 (o := 1); have q32 := frozen_heap hD3 (o := 2)))
     refine bodyPost_ret (v := .tuple #[.agg #[.slice none 0 0, .slice none 0 0, .bool false], .int .i64 (r.1)]) (by simp [results, Try.results14, go_sem, *]) rfl ⟨?_, .inl ⟨?_, ?_⟩⟩
     ·exact ((((Hkr.out.alloc Hkr.out.size _).trans (hf3.low (B := w.heap.size) (by omega) (by omega) (by omega))).setCell (p := ⟨w.heap.size, 0, none⟩) (Nat.le_refl _) _).setCell (p := ⟨w.heap.size, 1, none⟩) (Nat.le_refl _) _).setCell (p := ⟨w.heap.size, 2, none⟩) (Nat.le_refl _) _
     ·exact he
     ·rfl
  ·have hik : i = k := by have := Hi.out; omega
   subst hik
   have htk : l.take i = l := by rw [← Hk.out]; exact List.take_length
   have hrun : runS l rs0 = (0, S) := by
    have h1 := h0.out
    have h2 := HS.out
    rw [htk] at h1 h2
    rw [← h1, ← h2]
   have hps : parseS l = (endS S, S) := by unfold parseS; rw [hrun, if_neg (by simp)]
   obtain rfl : MM = S := by rw [HM.out, hps]
   have hEE : EE = endS MM := by rw [HP.out, hps]
   have HEE := hide hEE
   have hge : (i : Int) ≤ (i : Int) := Int.le_refl _
   have gI : wr.cell? ⟨m + 1, 10, none⟩ = some (.int .i64 MM.opn) := cell_heap hr.box (o := 10) rfl
   have u6 : wr.cell? ⟨m + 1, 6, none⟩ = some vs := cell_heap hr.box (o := 6) rfl
   have eG : wr.cell? ⟨m + 1, 14, none⟩ = some (.bool MM.numbered) := cell_heap hr.box (o := 14) rfl
   have gJ : wr.cell? ⟨m + 1, 12, none⟩ = some vf := cell_heap hr.box (o := 12) rfl
   obtain ⟨As, cs, rfl, hs1, hs2⟩ := hr.st.isSlice
   obtain ⟨Af, cf, rfl, hf1, hf2⟩ := hr.fs.isSlice
   have hfl := HSf.out.fields.1
   have hca : ∀ w' : World, Kept wr w' → Calls Try.prog 29 #[.slice Af MM.fields.length cf, .func (.func 30) #[] #[]] w' fun e w'' => e = .returned (.bool (MM.fields.any (fun f => f.report == 0))) ∧ Kept w' w'' :=
    fun w' hk => contains29 Af _ cf MM.fields w' hfl ((hr.fs.kept hk).sl).off
   have hdp := HSf.out.depth
   obtain ⟨ns, hns⟩ : ∃ ns, MM.stack.length = ns := ⟨_, rfl⟩
   rw [hns] at u6 hdp
   have Hns := hide hns
   have HRR := hide hr
   obtain ⟨anyB, hany⟩ : ∃ b, MM.fields.any (fun f => f.report == 0) = b := ⟨_, rfl⟩
   rw [hany] at hca
   have Hany := hide hany
   obtain ⟨nb, hnb⟩ : ∃ b, MM.numbered = b := ⟨_, rfl⟩
   rw [hnb] at eG
   have Hnb := hide hnb
   clear hr htk hrun hps hEE hns hany hnb hs2 hf2 hD0
   by_cases ho : 0 ≤ MM.opn
   ·have e1 : EE = 4 := by rw [HEE.out]; unfold endS; rw [if_pos (.inl ho)]
    subst e1
    have ho1 : decide (0 ≤ MM.opn) = true := decide_eq_true ho
    go_wp2_with fail
    refine bodyPost_ret (v := .tuple #[.agg #[.slice none 0 0, .slice none 0 0, .bool false], .int .i64 (4)]) (by simp [results, Try.results14, go_sem, *]) rfl ⟨?_, .inl ⟨?_, ?_⟩⟩
    ·exact ((Hkr.out.setCell (p := ⟨w.heap.size, 0, none⟩) (Nat.le_refl _) _).setCell (p := ⟨w.heap.size, 1, none⟩) (Nat.le_refl _) _).setCell (p := ⟨w.heap.size, 2, none⟩) (Nat.le_refl _) _
    ·decide
    ·rfl
   ·have ho1 : decide (0 ≤ MM.opn) = false := decide_eq_false ho
    have ho2 : MM.opn < 0 := by omega
    by_cases hst : ns = 0
    ·subst hst
     have hnil : MM.stack = [] := List.eq_nil_of_length_eq_zero Hns.out
     have Hnil := hide hnil
     clear hnil
     cases nb with
     | false =>
      have e1 : EE = 0 := by
       rw [HEE.out]; unfold endS
       rw [if_neg]
       rintro (h | h | h)
       ·exact ho h
       ·exact h Hnil.out
       ·rw [Hnb.out] at h; cases h.1
      subst e1
      go_upto_region 20 with (fail)
      refine parse_end HRR.out Hkr.out HSf.out HDr.out (Nat.le_refl _) (by omega) _ ?_
      assumption
     | true =>
      cases anyB with
      | true =>
       have e1 : EE = 4 := by rw [HEE.out]; unfold endS; rw [if_pos (.inr (.inr ⟨Hnb.out, Hany.out⟩))]
       subst e1
       go_wp2_with (go_at_call 29; refine (hca _ (Below.refl _ _)).mono ?_; rintro e w3 ⟨rfl, hk3⟩; have hD3 := heap_kept hk3 HDr.out; have hDl3 := heap_lt hD3; have d30 : w3.cell? ⟨w.heap.size, 0, none⟩ = some (.slice none 0 0) := cell_heap hD3 (o := 0) rfl; have d31 : w3.cell? ⟨w.heap.size, 1, none⟩ = some (.slice none 0 0) := cell_heap hD3 (o := 1) rfl; have d32 : w3.cell? ⟨w.heap.size, 2, none⟩ = some (.bool false) := cell_heap hD3 (o := 2) rfl; have q30 := frozen_heap hD3 (o := 0); have q31 := frozen_heap hD3 (o := 1); have q32 := frozen_heap hD3 (o := 2))
       refine bodyPost_ret (v := .tuple #[.agg #[.slice none 0 0, .slice none 0 0, .bool false], .int .i64 (4)]) (by simp [results, Try.results14, go_sem, *]) rfl ⟨?_, .inl ⟨?_, ?_⟩⟩
       ·exact (((Hkr.out.trans (hk3.mono Hkr.out.size)).setCell (p := ⟨w.heap.size, 0, none⟩) (Nat.le_refl _) _).setCell (p := ⟨w.heap.size, 1, none⟩) (Nat.le_refl _) _).setCell (p := ⟨w.heap.size, 2, none⟩) (Nat.le_refl _) _
       ·decide
       ·rfl
      | false =>
       have e1 : EE = 0 := by
        rw [HEE.out]; unfold endS
        rw [if_neg]
        rintro (h | h | h)
        ·exact ho h
        ·exact h Hnil.out
        ·rw [Hany.out] at h; cases h.2
       subst e1
       go_upto_region 20 with (go_at_call 29; refine (hca _ (Below.refl _ _)).mono ?_; rintro e w3 ⟨rfl, hk3⟩)
       refine parse_end (HRR.out.kept hk3) (Hkr.out.trans (hk3.mono Hkr.out.size)) HSf.out (heap_kept hk3 HDr.out) (Nat.le_refl _) (by omega) _ ?_
       assumption
    ·have e1 : EE = 4 := by
      rw [HEE.out]; unfold endS
      rw [if_pos (.inr (.inl (fun h => hst (by rw [← Hns.out, h]; rfl))))]
     subst e1
     have hs3 : (0 : Int) < (ns : Int) := by omega
     have hs4 : decide ((0 : Int) < (ns : Int)) = true := decide_eq_true hs3
     go_wp2_with fail
     refine bodyPost_ret (v := .tuple #[.agg #[.slice none 0 0, .slice none 0 0, .bool false], .int .i64 (4)]) (by simp [results, Try.results14, go_sem, *]) rfl ⟨?_, .inl ⟨?_, ?_⟩⟩
     ·exact ((Hkr.out.setCell (p := ⟨w.heap.size, 0, none⟩) (Nat.le_refl _) _).setCell (p := ⟨w.heap.size, 1, none⟩) (Nat.le_refl _) _).setCell (p := ⟨w.heap.size, 2, none⟩) (Nat.le_refl _) _
     ·decide
     ·rfl
theorem parse_any (A : Option Addr) (n c : Nat) (bs : List Int) (w : World) (hnc : n ≤ c) (hc : c ≤ maxLen) (hl : Sl u8T w (low w.heap.size) A n bs) :
  Calls Try.prog 14 #[.slice A n c] w (ParsePost w (parseE bs) (parseM bs)) := by
 by_cases hE : itemsE bs = 0
 ·exact parse_yes A n c bs w hnc hc hl hE
 ·exact parse_no A n c bs w hnc hc hl hE
end Go.Proofs.Ytegdigfcgeoboaa
