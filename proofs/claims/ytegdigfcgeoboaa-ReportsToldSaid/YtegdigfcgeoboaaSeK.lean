/- Items. The slice reads as bytes. -/
import Derived.Test.YtegdigfcgeoboaaChecked
import Derived.Deep.RegionHeld3
import Derived.Deep.DrawnRows
import Derived.Deep.DeepCutAuto
import Derived.Deep.LoopGhost
import Derived.Outline
import Derived.Handy
import Derived.Test.YtegdigfcgeoboaaSdK
import Derived.Test.YtegdigfcgeoboaaN1
set_option linter.unusedVariables false
set_option linter.unusedSimpArgs false
set_option linter.unusedSectionVars false
namespace Go.Proofs.Ytegdigfcgeoboaa
open Go.RowKit Go.Shelf
attribute [local go_sem] Oper.semAt_some

def itCs (l : List It) : List Value := l.flatMap It.cells
theorem itCs_snoc (l : List It) (x : It) : itCs (l ++ [x]) = itCs l ++ x.cells := by simp [itCs]
theorem itCs_at : ∀ (l : List It) (i : Nat) (x : It), l[i]? = some x → ((itCs l).drop (i * 4)).take 4 = x.cells
  | [], i, x, h => by simp at h
  | y :: l, 0, x, h => by
    simp at h; subst h
    show (List.drop 0 (y.cells ++ itCs l)).take 4 = y.cells
    rfl
  | y :: l, i + 1, x, h => by
    rw [List.getElem?_cons_succ] at h
    rw [← itCs_at l i x h]
    show ((y.cells ++ itCs l).drop ((i + 1) * 4)).take 4 = _
    rw [show (i + 1) * 4 = 4 + i * 4 by omega, ← List.drop_drop]
    rfl
theorem own_its {w : World} {base n : Nat} {v : Value} {l : List It} (h : w.ownsRow base 29 4 v n (itCs l)) (hn : l.length = n) (hok : ∀ x ∈ l, x.ok) : Own itT 29 base w v n l :=
  ⟨hn, itCs l, h, fun i x hx => ⟨itCs_at l i x hx, hok x (List.mem_of_getElem? hx)⟩⟩
theorem all26 (A : Option Addr) (n c : Nat) (w : World) : Calls Try.prog 26 #[.slice A n c] w fun e w' => e = .returned (.func (.func 37) #[] #[.pointer (some ⟨w.heap.size, 0, none⟩)]) ∧ w' = w.alloc (.cells #[.slice A n c] 23) := by
  go_enter Try.func26, Try.ntmps26
  go_wp2_with fail
  go_ret
  exact ⟨rfl, rfl⟩
theorem cells_new4 (W : World) (a b c d : Value) (ty : TypeId) : ∀ (j : Nat) (u : Value), [a, b, c, d][j]? = some u → (W.alloc (.cells #[a, b, c, d] ty)).cell? ((⟨W.heap.size, 0, none⟩ : Addr).add j) = some u := fun j u h => by
  match j, h with
  | 0, h => exact cell_heap (heap_at _ rfl) h
  | 1, h => exact cell_heap (heap_at _ rfl) h
  | 2, h => exact cell_heap (heap_at _ rfl) h
  | 3, h => exact cell_heap (heap_at _ rfl) h
/-- between two rounds of Items -/
def Got (w1 : World) (O Bb : Nat) (pre : List It) (W : World) : Prop :=
  (∃ v, Boxed W O 22 v ∧ W.ownsRow O 29 4 v pre.length (itCs pre) ∧ True) ∧ (∃ u, Boxed W Bb 23 u) ∧ Below O w1 W ∧ ∀ x ∈ pre, 0 ≤ x.size
/-- behind a round that returned -/
def Left (w : World) (R1 R2 : Nat) (pre : List It) (W : World) : Prop :=
  W.heap[R1]? = some (.cells #[.slice none 0 0] 22 (0, 0)) ∧ W.heap[R2]? = some (.cells #[.int .i64 4] 25 (0, 0)) ∧ Kept w W ∧ ∃ x ∈ pre, x.size < 0
theorem boxed_not {W : World} {B : Nat} {t : TypeId} {v : Value} (h : Boxed W B t v) {row : Option Nat} (hr : ∀ r, row = some r → ∃ o : Obj, W.heap[r]? = some o ∧ o.isCells = false) : some B ≠ row := by
  intro e
  obtain ⟨o, ho, hc⟩ := hr B e.symm
  rw [show W.heap[B]? = _ from h] at ho
  cases ho; cases hc
theorem got_own (w1 : World) (O Bb B : Nat) (hB : O ≤ B) (hO : O ≤ w1.heap.size) : OwnFrom B (Got w1 O Bb) := by
  rintro s X Y row ⟨⟨v, hv, hr, _⟩, ⟨u, hu⟩, hb, hg⟩ hgr hrow
  have hrow2 : ∀ r, row = some r → ∃ o : Obj, X.heap[r]? = some o ∧ o.isCells = false := fun r e => (hrow r e).2
  refine ⟨⟨v, hv.kept hgr (boxed_not hv hrow2), hr.kept hgr ?_, trivial⟩, ⟨u, hu.kept hgr (boxed_not hu hrow2)⟩, hb.grown hgr (Nat.le_trans hO hb.size) (fun k e => Nat.le_trans hB (hrow k e).1), hg⟩
  rcases hr.2 with ⟨rfl, _⟩ | ⟨g, cap, cur, rfl, _, hgb, _⟩
  · exact .inl rfl
  · refine .inr (fun e => ?_)
    obtain ⟨o, ho, hc⟩ := hrow2 g e.symm
    rw [hgb] at ho
    cases ho; cases hc
theorem left_own (w : World) (R1 R2 B : Nat) (hB : w.heap.size ≤ B) : OwnFrom B (Left w R1 R2) := by
  rintro s X Y row ⟨h1, h2, hk, hx⟩ hgr hrow
  have hrow2 : ∀ r, row = some r → ∃ o : Obj, X.heap[r]? = some o ∧ o.isCells = false := fun r e => (hrow r e).2
  exact ⟨Boxed.kept (t := 22) h1 hgr (boxed_not (t := 22) h1 hrow2), Boxed.kept (t := 25) h2 hgr (boxed_not (t := 25) h2 hrow2), hk.grown hgr hk.size (fun k e => Nat.le_trans hB (hrow k e).1), hx⟩
theorem got_step (w1 : World) (O Bb : Nat) (hO : O ≠ Bb) (hOb : O ≤ Bb) : ∀ pre A v, Got w1 O Bb pre A → Got w1 O Bb pre (A.setCell ⟨Bb, 0, none⟩ v) := by
  rintro pre A v ⟨⟨u, hu, hr, _⟩, ⟨u2, hu2⟩, hb, hg⟩
  refine ⟨⟨u, heap_other hu hO, ?_, trivial⟩, ⟨v, hu2.set v⟩, hb.setCell hOb (p := ⟨Bb, 0, none⟩) v, hg⟩
  have hne := hu2.not_row (by decide) hr
  exact hr.kept (row := some Bb) (grown_at grown_self 0 v) (by
    cases h : u.ownBlock with
    | none => exact .inl rfl
    | some g => exact .inr (fun e => hne (by rw [h, e])))
def itemsE (bs : List Int) : Int := if 4096 < bs.length then 3 else if goodB bs then 0 else 4
set_option maxRecDepth 100000 in
set_option maxHeartbeats 4000000 in
theorem items_any (A : Option Addr) (n c : Nat) (bs : List Int) (w : World) (hnc : n ≤ c) (hc : c ≤ maxLen) (hl : Sl u8T w (low w.heap.size) A n bs) :
    Calls Try.prog 12 #[.slice A n c] w fun e w' => (itemsE bs ≠ 0 ∧ e = .returned (.tuple #[.slice none 0 0, .int .i64 (itemsE bs)]) ∧ Kept w w') ∨
      (itemsE bs = 0 ∧ ∃ A', e = .returned (.tuple #[.slice A' (items bs).length (items bs).length, .int .i64 (0)]) ∧ Sl itT w' (fun b => w.heap.size ≤ b ∧ b < w'.heap.size) A' (items bs).length (items bs) ∧ Kept w w') := by
  obtain ⟨i29, hi29, hz0, hz1, hz2⟩ := info_parts info29
  have hbl := hl.1
  by_cases h4 : 4096 < n
  · have h4' : (4096 : Int) < (n : Int) := by omega
    have hE : itemsE bs = 3 := by unfold itemsE; rw [if_pos (by omega)]
    go_enter Try.func12, Try.ntmps12
    go_wp2_with fail
    refine bodyPost_ret (v := .tuple #[.slice none 0 0, .int .i64 (3)]) (by simp [results, Try.results12, go_sem]) rfl ?_
    exact .inl ⟨by rw [hE]; decide, by rw [hE], by go_grown⟩
  · have h4' : (n : Int) ≤ 4096 := by omega
    refine callsIn_wide (n := 5).1 (callsIn_of_wp_marks Try.func12 rfl trivial ?_ rfl)
    (simp only [Try.ntmps12, List.size_toArray, List.length_cons, List.length_nil, Nat.reduceAdd, Nat.reduceSub, Array.replicate_succ, Array.replicate_zero, List.push_toArray, List.append_toArray, List.nil_append, List.cons_append])
    gi_wp2_with (refine ⟨trivial, ?_⟩; gi_at_call 26; refine (callsIn_wide.2 (all26 A n c _)).mono ?_; rintro e w4 ⟨rfl, rfl⟩)
    refine wpIn_at (fun W => Boxed W w.heap.size 22 (.slice none 0 0) ∧ Boxed W (w.heap.size + 1) 25 (.int .i64 0) ∧ Boxed W (w.heap.size + 1 + 1) 22 (.slice none 0 0) ∧ Boxed W (w.heap.size + 1 + 1 + 1) 23 (.slice A n c) ∧ Kept w W ∧ W.heap.size = w.heap.size + 1 + 1 + 1 + 1) ⟨?_, ?_, ?_, ?_, ?_, ?_⟩ (fun W hW => ?_)
    · exact heap_past (heap_past (heap_past (heap_at _ rfl)))
    · exact heap_past (heap_past (heap_at _ (by simp)))
    · exact heap_past (heap_at _ (by simp))
    · exact heap_at _ (by simp)
    · go_grown
    · simp
    obtain ⟨b1, b2, bO, bB, hkW, hsz⟩ := hW
    have hst := stepper_any 4 (by decide) A n c bs w.heap.size (w.heap.size + 1 + 1 + 1) W hnc hc (by omega) bB (hl.below hkW)
    have hu := hl.u8
    have hits := items_ok bs.length bs (Nat.le_refl _) hu
    refine range_items (L := items bs) (B0 := w.heap.size) (Bb := w.heap.size + 1 + 1 + 1) rfl hst (by omega) (by omega) (Got W (w.heap.size + 1 + 1) (w.heap.size + 1 + 1 + 1)) (Left w w.heap.size (w.heap.size + 1)) (got_own _ _ _ _ (by omega) (by omega)) (left_own _ _ _ _ (by omega)) (got_step _ _ _ (by omega) (by omega))
      ⟨⟨_, bO, World.ownsRow_nil _ _ _ _, trivial⟩, ⟨_, bB⟩, Below.refl _ _, fun x hx => by cases hx⟩
      (fun x X => { tmps := #[.slice A n c, undef, .pointer (some ⟨w.heap.size, 0, none⟩), .pointer (some ⟨w.heap.size + 1, 0, none⟩), .pointer (some ⟨w.heap.size + 1 + 1, 0, none⟩), .pointer (some ⟨X, 0, none⟩), .slice A n c, .int .i64 n, .bool (decide (4096 < (n : Int))), .slice A n c, .func (.func 37) #[] #[.pointer (some ⟨w.heap.size + 1 + 1 + 1, 0, none⟩)], itV x, undef, undef, undef, undef, undef, undef, undef, undef, undef], defers := [] }) ?assign ?body ?done ?stop
    case assign =>
      intro l x W2 K hK
      unfold itV
      gi_wp2
      exact hK
    case body =>
      rintro l pre x W₀ W2 hW₀ _ ⟨⟨v, hv, hrow, _⟩, ⟨u, hu2⟩, hB, hg⟩ hbx hpre
      have hxi : x ∈ items bs := hpre.subset (by simp)
      have hxok := hits x hxi
      have hplen : pre.length ≤ 4096 := by
        have h1 := hpre.length_le
        have h2 := items_len bs.length bs (Nat.le_refl _)
        rw [List.length_append] at h1
        omega
      have hbx' : W2.heap[W₀.heap.size]? = some (.cells #[.int .u8 x.ty, .int .u8 x.tg, .int .i64 x.size, .int .u32 x.data] 29 (0, 0)) := hbx
      have x0 := cell_heap hbx' (o := 0) rfl
      have x1 := cell_heap hbx' (o := 1) rfl
      have x2 := cell_heap hbx' (o := 2) rfl
      have x3 := cell_heap hbx' (o := 3) rfl
      have hxl := heap_lt hbx'
      have hc0 := hv.cell
      have hf0 := hv.frozen
      have hvl := hv.lt
      have hBs := hB.size
      by_cases hneg : x.size < 0
      · have hr1 : Boxed W2 w.heap.size 22 (.slice none 0 0) := (hB.block _ (by omega)).trans b1
        have hr2 : Boxed W2 (w.heap.size + 1) 25 (.int .i64 0) := (hB.block _ (by omega)).trans b2
        have c1 := hr1.cell
        have c2 := hr2.cell
        have f1 := hr1.frozen
        have f2 := hr2.frozen
        have l1 := hr1.lt
        have l2 := hr2.lt
        have hk02 : Kept w W2 := Below.trans hkW (hB.mono (by omega))
        gi_wp2
        refine ⟨((KeepsOthers.setCell _ _ _).trans (KeepsOthers.setCell _ _ _)).from _, ?_, ?_, ?_, x, by simp, hneg⟩
        · exact heap_other (hr1.set _) (by show w.heap.size ≠ w.heap.size + 1; omega)
        · exact Boxed.set (t := 25) _ (heap_other hr2 (by show w.heap.size + 1 ≠ w.heap.size; omega))
        · exact (hk02.setCell (Nat.le_refl _) (p := ⟨w.heap.size, 0, none⟩) _).setCell (by show w.heap.size ≤ w.heap.size + 1; omega) (p := ⟨w.heap.size + 1, 0, none⟩) _
      · have hneg' : 0 ≤ x.size := by omega
        gi_wp2_with (gi_at_builtin; refine wpListIn_append_own_at _ rfl _ _ 22 rfl (w.heap.size + 1 + 1) 29 i29 _ 4 24 Try.underlying22 hi29 hz0 hz1 hz2 rfl (by decide) _ _ _ rfl (hrow.alloc _) ⟨W2.heap.size, 0, none⟩ 1 1 [.int .u8 x.ty, .int .u8 x.tg, .int .i64 x.size, .int .u32 x.data] rfl rfl (cells_new4 _ _ _ _ _ _) (by simp [Value.oneCell']) (by unfold maxLen; omega) (by omega) (by simp; omega) ?_; intro v' w4 hown' hgrow _ hat; obtain ⟨g', cap', rfl⟩ := ownsRow_succ hown'; obtain ⟨hv1, hv2, hr2, hk2, hb2⟩ := hv.appended (by decide) hrow (by omega) (Nat.le_refl _) hown' hgrow; have hc1 := hv1.cell; have hf1 := hv1.frozen)
        have hne := hu2.not_row (by decide) hrow
        have hbu : Boxed (w4.setCell ⟨w.heap.size + 1 + 1, 0, none⟩ (.slice (some ⟨g', 0, none⟩) (pre.length + 1) cap')) (w.heap.size + 1 + 1 + 1) 23 u := heap_other ((hu2.alloc _).kept hgrow hne) (by show w.heap.size + 1 + 1 + 1 ≠ w.heap.size + 1 + 1; omega)
        refine ⟨hk2.from _, ⟨hb2.mono (by omega), hbu.trans hu2.symm⟩, ⟨_, hv2, ?_, trivial⟩, ⟨u, hbu⟩, hB.trans hb2, fun y hy => ?_⟩
        · rw [itCs_snoc, List.length_append]
          exact hr2
        · rcases List.mem_append.1 hy with h | h
          · exact hg y h
          · rw [List.mem_singleton.1 h]; exact hneg'
    case done =>
      rintro D W2 hD ⟨⟨v, hv, hrow, _⟩, ⟨u, hu2⟩, hB, hg⟩ hK
      have hr1 : Boxed W2 w.heap.size 22 (.slice none 0 0) := (hB.block _ (by omega)).trans b1
      have hr2 : Boxed W2 (w.heap.size + 1) 25 (.int .i64 0) := (hB.block _ (by omega)).trans b2
      have c1 := hr1.cell
      have c2 := hr2.cell
      have f1 := hr1.frozen
      have f2 := hr2.frozen
      have l1 := hr1.lt
      have l2 := hr2.lt
      have hc0 := hv.cell
      have hvl := hv.lt
      have hown := own_its hrow rfl (fun x hx => hits x hx)
      obtain ⟨A5, c5, rfl, h51, h52⟩ := hown.isSlice
      have hE : itemsE bs = 0 := by
        unfold itemsE
        have hgb : goodB bs = true := List.all_eq_true.2 (fun x hx => by simpa using hg x hx)
        rw [if_neg (by omega), if_pos hgb]
      have hk02 : Kept w W2 := Below.trans hkW (hB.mono (by omega))
      have Hrow := hide hrow
      clear hown hrow
      have HN := hide (show (items bs).length = (items bs).length from rfl)
      gi_wp2_with (refine ⟨trivial, ?_⟩; gi_at_call 27; refine (callsIn_wide.2 (clip27 A5 _ c5 h51 h52 _)).mono ?_; rintro e w9 ⟨rfl, rfl⟩)
      have hK3 : ((W2.setCell ⟨w.heap.size, 0, none⟩ (.slice A5 (items bs).length (items bs).length)).setCell ⟨w.heap.size + 1, 0, none⟩ (.int .i64 0)).heap[D]? = some (.deferred (some [])) := heap_other (heap_other hK (by show D ≠ w.heap.size; omega)) (by show D ≠ w.heap.size + 1; omega)
      refine ⟨by simp, .inl ⟨_, _, rfl, run_takeDeferred hK3, ?_⟩⟩
      have g1 : Boxed (((W2.setCell ⟨w.heap.size, 0, none⟩ (.slice A5 (items bs).length (items bs).length)).setCell ⟨w.heap.size + 1, 0, none⟩ (.int .i64 0)).putObj D (.deferred none)) w.heap.size 22 (.slice A5 (items bs).length (items bs).length) := (World.putObj_heap_other (by omega)).trans (heap_other (hr1.set _) (by show w.heap.size ≠ w.heap.size + 1; omega))
      have g2 : Boxed (((W2.setCell ⟨w.heap.size, 0, none⟩ (.slice A5 (items bs).length (items bs).length)).setCell ⟨w.heap.size + 1, 0, none⟩ (.int .i64 0)).putObj D (.deferred none)) (w.heap.size + 1) 25 (.int .i64 0) := (World.putObj_heap_other (by omega)).trans (Boxed.set (t := 25) _ (heap_other hr2 (by show w.heap.size + 1 ≠ w.heap.size; omega)))
      have c1 := g1.cell
      have c2 := g2.cell
      have hrow3 := ownsRow_putObj (ownsRow_setCell_below (a := ⟨w.heap.size + 1, 0, none⟩) (ownsRow_setCell_below (a := ⟨w.heap.size, 0, none⟩) Hrow.out (by show w.heap.size < _; omega) (Value.slice A5 (items bs).length (items bs).length)) (by show w.heap.size + 1 < _; omega) (Value.int .i64 0)) (.deferred none) hK3 rfl
      have hown3 := own_its hrow3 rfl (fun x hx => hits x hx)
      have hk3 := (hk02.setCell (Nat.le_refl _) (p := ⟨w.heap.size, 0, none⟩) (Value.slice A5 (items bs).length (items bs).length)).setCell (by show w.heap.size ≤ w.heap.size + 1; omega) (p := ⟨w.heap.size + 1, 0, none⟩) (Value.int .i64 0)
      refine ⟨.tuple #[.slice A5 (items bs).length (items bs).length, .int .i64 (0)], by simp [results, Try.results12, go_sem, c1, c2], .inr ⟨hE, A5, rfl, ?_, ?_⟩⟩
      · exact (Own.sl_of (n := (items bs).length) (m := (items bs).length) (c := c5) hown3 (fun b => w.heap.size ≤ b ∧ b < _) (fun g h1 h2 => ⟨by omega, h2⟩) (fun _ _ h => h))
      · exact hk3.trans (belowK_b (w := w) (Nat.le_refl _) _ D _ (.deferred none) (by omega) hK3 rfl rfl)
    case stop =>
      rintro D pre W2 hD hpre ⟨h1, h2, hk, x, hx, hneg⟩ hK
      have hE : itemsE bs = 4 := by
        unfold itemsE
        rw [if_neg (by omega), if_neg]
        intro hall
        unfold goodB at hall
        have := List.all_eq_true.1 hall x (hpre.subset hx)
        simp at this
        omega
      gi_wp2
      refine ⟨by simp, .inl ⟨_, _, rfl, run_takeDeferred hK, ?_⟩⟩
      have g1 : Boxed (W2.putObj D (.deferred none)) w.heap.size 22 (.slice none 0 0) := (World.putObj_heap_other (by omega)).trans h1
      have g2 : Boxed (W2.putObj D (.deferred none)) (w.heap.size + 1) 25 (.int .i64 4) := (World.putObj_heap_other (by omega)).trans h2
      have c1 := g1.cell
      have c2 := g2.cell
      refine ⟨.tuple #[.slice none 0 0, .int .i64 (4)], by simp [results, Try.results12, go_sem, c1, c2], .inl ⟨by rw [hE]; decide, by rw [hE], ?_⟩⟩
      exact hk.trans (belowK_b (w := w) (Nat.le_refl _) _ D _ (.deferred none) (by omega) hK rfl rfl)
end Go.Proofs.Ytegdigfcgeoboaa
