/- A setting altered. -/
import Derived.Test.YtjgncofhobhjdaaDoorChecked
import Derived.Deep.RegionHeld3
import Derived.Deep.DrawnRows
import Derived.Deep.DeepCutAuto
import Derived.Deep.LoopGhost
import Derived.Outline
import Derived.Handy
import Derived.OwnWalk
import Derived.BigQuiet
import Derived.Test.YtjgncofhobhjdaaDoorN13
import Derived.Test.YtjgncofhobhjdaaDoorN14
set_option linter.unusedVariables false
set_option linter.unusedSimpArgs false
set_option linter.unusedSectionVars false
/- A configuration whose rows are the call's own: one setting altered in place. No condition but those named. -/
namespace Go.Proofs.YtjgncofhobhjdaaDoor
open Go.RowKit

theorem Own.same {α : Type} {t : Ty α} {e : TypeId} {w w' : World} {base n : Nat} {v : Value} {xs : List α} (h : Own t e base w v n xs) (ht : Flat t) (hb : ∀ k, v.ownBlock = some k → w'.heap[k]? = w.heap[k]?) : Own t e base w' v n xs := by
  obtain ⟨h1, cells, ⟨h2, h2'⟩, h3⟩ := h
  refine ⟨h1, cells, ⟨h2, ?_⟩, fun i x hx => ht (h3 i x hx)⟩
  rcases h2' with h | ⟨g, cap, cur, hv, hg, hh, r⟩
  · exact .inl h
  · exact .inr ⟨g, cap, cur, hv, hg, by rw [hb g (by rw [hv]; rfl)]; exact hh, r⟩
/-- one cell of an element written -/
theorem Own.setEl {α : Type} {t : Ty α} {e : TypeId} {w : World} {base n : Nat} {v : Value} {xs : List α} (h : Own t e base w v n xs) (ht : Flat t) {g j o : Nat} {x x' : α} {u : Value} (hg : v.ownBlock = some g) (hx : xs[j]? = some x) (ho : o < t.size)
    (hr : ∀ W F cs, t.rel W F x cs → t.rel W F x' (cs.set o u)) : Own t e base (w.setCell ⟨g, j * t.size + o, none⟩ u) v n (xs.set j x') := by
  obtain ⟨h1, cells, ⟨h2, h2'⟩, h3⟩ := h
  obtain ⟨hj, hxx⟩ := List.getElem?_eq_some_iff.1 hx
  have hjn : (j + 1) * t.size ≤ n * t.size := Nat.mul_le_mul_right _ (by omega)
  rw [Nat.succ_mul] at hjn
  rcases h2' with ⟨hv, _⟩ | ⟨g', cap, cur, hv, hgb, hh, hn, hm, hc, htk⟩
  · rw [hv] at hg; cases hg
  · obtain rfl : g' = g := by rw [hv] at hg; simpa [Value.ownBlock] using hg
    have hlen : j * t.size + o < cells.length := by omega
    refine ⟨by rw [List.length_set]; exact h1, cells.set (j * t.size + o) u, ⟨by rw [List.length_set]; exact h2, .inr ⟨g', cap, cur.setIfInBounds (j * t.size + o) u, hv, hgb, heap_store hh u, hn, hm, by simpa using hc, ?_⟩⟩, fun i y hy => ?_⟩
    · rw [Array.toList_setIfInBounds, List.take_set, htk]
    · rw [List.getElem?_set] at hy
      by_cases hij : j = i
      · subst hij
        rw [if_pos rfl, if_pos hj] at hy
        have hy' : x' = y := by simpa using hy
        subst hy'
        have h4 := hr _ _ _ (h3 j x hx)
        have e1 : ((cells.set (j * t.size + o) u).drop (j * t.size)).take t.size = ((cells.drop (j * t.size)).take t.size).set o u := by
          rw [List.drop_set, if_neg (by omega), List.take_set, show j * t.size + o - j * t.size = o by omega]
        rw [e1]
        exact ht h4
      · rw [if_neg hij] at hy
        have h4 := h3 i y hy
        have hi : i < n := by rw [← h1]; exact (List.getElem?_eq_some_iff.1 hy).1
        have e1 : ((cells.set (j * t.size + o) u).drop (i * t.size)).take t.size = (cells.drop (i * t.size)).take t.size := by
          rcases Nat.lt_or_gt_of_ne hij with hlt | hgt
          · have : (j + 1) * t.size ≤ i * t.size := Nat.mul_le_mul_right _ hlt
            rw [Nat.succ_mul] at this
            rw [List.drop_set, if_pos (by omega)]
          · have : (i + 1) * t.size ≤ j * t.size := Nat.mul_le_mul_right _ hgt
            rw [Nat.succ_mul] at this
            rw [List.drop_set, if_neg (by omega), List.take_set, List.set_eq_of_length_le (by rw [List.length_take]; omega)]
        rw [e1]
        exact ht h4
theorem pairwise_set {α : Type} {R : α → α → Prop} : ∀ {l : List α} {i : Nat} {x x' : α}, l[i]? = some x → (∀ z ∈ l, R x z → R x' z) → (∀ z ∈ l, R z x → R z x') → l.Pairwise R → (l.set i x').Pairwise R
  | [], i, x, x', h, _, _, _ => by simp at h
  | y :: l, 0, x, x', h, h1, h2, hp => by
    have e : y = x := by simpa using h
    subst e
    rw [List.pairwise_cons] at hp
    rw [List.set_cons_zero, List.pairwise_cons]
    exact ⟨fun z hz => h1 z (List.mem_cons_of_mem _ hz) (hp.1 z hz), hp.2⟩
  | y :: l, i + 1, x, x', h, h1, h2, hp => by
    rw [List.pairwise_cons] at hp
    have h' : l[i]? = some x := by simpa using h
    rw [List.set_cons_succ, List.pairwise_cons]
    refine ⟨fun z hz => ?_, pairwise_set h' (fun z hz => h1 z (List.mem_cons_of_mem _ hz)) (fun z hz => h2 z (List.mem_cons_of_mem _ hz)) hp.2⟩
    rcases List.mem_or_eq_of_mem_set hz with hz | rfl
    · exact hp.1 z hz
    · exact h2 y List.mem_cons_self (hp.1 x (List.mem_of_getElem? h'))
/-- of two places of a list that lie apart -/
theorem pairwise_two {α : Type} {R : α → α → Prop} (hs : ∀ a b, R a b → R b a) {l : List α} (h : l.Pairwise R) {i k : Nat} {x y : α} (hx : l[i]? = some x) (hy : l[k]? = some y) (hne : i ≠ k) : R x y := by
  obtain ⟨h1, rfl⟩ := List.getElem?_eq_some_iff.1 hx
  obtain ⟨h2, rfl⟩ := List.getElem?_eq_some_iff.1 hy
  rw [List.pairwise_iff_getElem] at h
  rcases Nat.lt_or_gt_of_ne hne with h3 | h3
  · exact h i k h1 h2 h3
  · exact hs _ _ (h k i h2 h1 h3)
theorem LF.apart_symm (a b : LF) (h : a.apart b) : b.apart a := fun g e e' => h g e' e
theorem LA.apart_symm (a b : LA) (h : a.apart b) : b.apart a := fun g => ⟨fun e e' => (h g).1 e' e, fun e e' => (h g).2 e' e⟩
/-- a row is where it was, or in a new block -/
def Moved (w : World) (v v' : Value) : Prop := v'.ownBlock = v.ownBlock ∨ ∃ k, v'.ownBlock = some k ∧ w.heap.size ≤ k
theorem LA.apart_moved {base : Nat} {w : World} {p p' q : LA} (hX : Moved w p.X p'.X) (hE : Moved w p.E p'.E) (hq : q.rows base w) (h : p.apart q) : p'.apart q := by
  intro g
  refine ⟨fun e e' => ?_, fun e e' => ?_⟩
  · rcases hX with h1 | ⟨k, h1, h2⟩
    · exact (h g).1 (h1 ▸ e) e'
    · have := (hq.1.lt e').2
      rw [h1] at e
      injection e with e
      omega
  · rcases hE with h1 | ⟨k, h1, h2⟩
    · exact (h g).2 (h1 ▸ e) e'
    · have := (hq.2.lt e').2
      rw [h1] at e
      injection e with e
      omega
/-- one setting altered: what lies elsewhere is as it was -/
theorem LIs.alter {base : Nat} {w w' : World} {v : Value} {L : List LF} (h : LIs base w v L) {i j : Nat} {y : LF} {p p' : LA} (hy : L[i]? = some y) (hp : y.alts[j]? = some p)
    (hrow : Own laT 56 base w' y.v (y.alts.set j p').length (y.alts.set j p')) (hpr : p'.rows base w') (hX : Moved w p.X p'.X) (hE : Moved w p.E p'.E)
    (hsame : ∀ k, k < w.heap.size → y.v.ownBlock ≠ some k → p.X.ownBlock ≠ some k → p.E.ownBlock ≠ some k → w'.heap[k]? = w.heap[k]?) :
    LIs base w' v (L.set i ⟨y.alts.set j p', y.v⟩) := by
  have hym := List.mem_of_getElem? hy
  have hpm := List.mem_of_getElem? hp
  have hyr := h.rows y hym
  have hprw := hyr.2 p hpm
  have hapA := h.apA
  rw [List.pairwise_flatMap] at hapA
  obtain ⟨ha1, ha2⟩ := hapA
  have hs2 : ∀ a b : LF, (∀ x ∈ a.alts, ∀ z ∈ b.alts, x.apart z) → ∀ x ∈ b.alts, ∀ z ∈ a.alts, x.apart z := fun a b hh x hx z hz => LA.apart_symm _ _ (hh z hz x hx)
  -- rows of settings elsewhere
  have hla : ∀ q : LA, q.rows base w → q.apart p → q.rows base w' := fun q hq hqp => by
    refine ⟨hq.1.same flat_u8 fun k hk => ?_, hq.2.same flat_ep fun k hk => ?_⟩
    · refine hsame k (hq.1.lt hk).2 (fun e => ?_) (fun e => (hqp k).1 hk e) (fun e => ?_)
      · rcases rows_apart hq.1 hyr.1 (by decide) with h1 | h1
        · rw [h1] at hk; cases hk
        · exact h1 (hk.trans e.symm)
      · rcases rows_apart hq.1 hprw.2 (by decide) with h1 | h1
        · rw [h1] at hk; cases hk
        · exact h1 (hk.trans e.symm)
    · refine hsame k (hq.2.lt hk).2 (fun e => ?_) (fun e => ?_) (fun e => (hqp k).2 hk e)
      · rcases rows_apart hq.2 hyr.1 (by decide) with h1 | h1
        · rw [h1] at hk; cases hk
        · exact h1 (hk.trans e.symm)
      · rcases rows_apart hq.2 hprw.1 (by decide) with h1 | h1
        · rw [h1] at hk; cases hk
        · exact h1 (hk.trans e.symm)
  refine ⟨?_, fun z hz => ?_, ?_, ?_⟩
  · -- the row of the interfaces
    have ho := h.own.same (w' := w') flat_lf (fun k hk => by
      refine hsame k (h.own.lt hk).2 (fun e => ?_) (fun e => ?_) (fun e => ?_)
      · rcases rows_apart h.own hyr.1 (by decide) with h1 | h1
        · rw [h1] at hk; cases hk
        · exact h1 (hk.trans e.symm)
      · rcases rows_apart h.own hprw.1 (by decide) with h1 | h1
        · rw [h1] at hk; cases hk
        · exact h1 (hk.trans e.symm)
      · rcases rows_apart h.own hprw.2 (by decide) with h1 | h1
        · rw [h1] at hk; cases hk
        · exact h1 (hk.trans e.symm))
    obtain ⟨o1, cells, o2, o3⟩ := ho
    refine ⟨by rw [List.length_set], cells, by rw [List.length_set]; exact o2, fun k x hx => ?_⟩
    rw [List.getElem?_set] at hx
    by_cases hik : i = k
    · subst hik
      rw [if_pos rfl, if_pos (List.getElem?_eq_some_iff.1 hy).1] at hx
      have hx' : (⟨y.alts.set j p', y.v⟩ : LF) = x := by simpa using hx
      rw [← hx']
      exact ⟨(o3 i y hy).1, trivial⟩
    · rw [if_neg hik] at hx
      exact o3 k x hx
  · obtain ⟨k, hk⟩ := List.getElem?_of_mem hz
    rw [List.getElem?_set] at hk
    by_cases hik : i = k
    · subst hik
      rw [if_pos rfl, if_pos (List.getElem?_eq_some_iff.1 hy).1] at hk
      have hx' : (⟨y.alts.set j p', y.v⟩ : LF) = z := by simpa using hk
      rw [← hx']
      refine ⟨hrow, fun q hq => ?_⟩
      obtain ⟨m, hm⟩ := List.getElem?_of_mem hq
      have hm' : (y.alts.set j p')[m]? = some q := hm
      rw [List.getElem?_set] at hm'
      by_cases hjm : j = m
      · subst hjm
        rw [if_pos rfl, if_pos (List.getElem?_eq_some_iff.1 hp).1] at hm'
        have hq' : p' = q := by simpa using hm'
        rw [← hq']
        exact hpr
      · rw [if_neg hjm] at hm'
        exact hla q (hyr.2 q (List.mem_of_getElem? hm')) (pairwise_two LA.apart_symm (ha1 y hym) hm' hp (fun e => hjm e.symm))
    · rw [if_neg hik] at hk
      have hzm := List.mem_of_getElem? hk
      have hzr := h.rows z hzm
      refine ⟨hzr.1.same flat_la fun k2 hk2 => ?_, fun q hq => hla q (hzr.2 q hq) (pairwise_two hs2 ha2 hk hy (fun e => hik e.symm) q hq p hpm)⟩
      refine hsame k2 (hzr.1.lt hk2).2 (fun e => (pairwise_two LF.apart_symm h.apI hk hy (fun e => hik e.symm)) k2 hk2 e) (fun e => ?_) (fun e => ?_)
      · rcases rows_apart hzr.1 hprw.1 (by decide) with h1 | h1
        · rw [h1] at hk2; cases hk2
        · exact h1 (hk2.trans e.symm)
      · rcases rows_apart hzr.1 hprw.2 (by decide) with h1 | h1
        · rw [h1] at hk2; cases hk2
        · exact h1 (hk2.trans e.symm)
  · exact pairwise_set hy (fun z _ hr => hr) (fun z _ hr => hr) h.apI
  · rw [List.pairwise_flatMap]
    have hmoved : ∀ q : LA, q.rows base w → p.apart q → p'.apart q := fun q hq hh => LA.apart_moved hX hE hq hh
    have hset : ∀ q ∈ y.alts.set j p', q = p' ∨ q ∈ y.alts := fun q hq => (List.mem_or_eq_of_mem_set hq).symm
    refine ⟨fun z hz => ?_, ?_⟩
    · rcases List.mem_or_eq_of_mem_set hz with hz | rfl
      · exact ha1 z hz
      · exact pairwise_set hp (fun q hq hh => hmoved q (hyr.2 q hq) hh) (fun q hq hh => LA.apart_symm _ _ (hmoved q (hyr.2 q hq) (LA.apart_symm _ _ hh))) (ha1 y hym)
    · refine pairwise_set hy (fun z hz hh q hq r hr => ?_) (fun z hz hh q hq r hr => ?_) ha2
      · rcases hset q hq with rfl | hq
        · exact hmoved r ((h.rows z hz).2 r hr) (hh p hpm r hr)
        · exact hh q hq r hr
      · rcases hset r hr with rfl | hr
        · exact LA.apart_symm _ _ (hmoved q ((h.rows z hz).2 q hq) (LA.apart_symm _ _ (hh q hq p hpm)))
        · exact hh q hq r hr
end Go.Proofs.YtjgncofhobhjdaaDoor
/- A setting altered: one field; its vendors' bytes grown; its endpoints grown; a setting put behind. No condition but those named. -/
namespace Go.Proofs.YtjgncofhobhjdaaDoor
open Go.RowKit

theorem ownBlock_heap {α : Type} {t : Ty α} {e : TypeId} {w : World} {base n g : Nat} {v : Value} {xs : List α} (h : Own t e base w v n xs) (hg : v.ownBlock = some g) : ∃ cap cur, v = .slice (some ⟨g, 0, none⟩) n cap ∧ w.heap[g]? = some (.cells cur e (0, 0)) := by
  obtain ⟨_, cells, ⟨_, h2⟩, _⟩ := h
  rcases h2 with ⟨rfl, _⟩ | ⟨g', cap, cur, rfl, _, hh, _⟩
  · cases hg
  · obtain rfl : g' = g := by simpa [Value.ownBlock] using hg
    exact ⟨cap, cur, rfl, hh⟩
section
variable {base : Nat} {w w1 : World} {v : Value} {L : List LF} {i j g : Nat} {y : LF} {p : LA}
theorem alts_len {y : LF} {j : Nat} {p : LA} : (y.alts.set j p).length = y.alts.length := List.length_set
/-- one field of a setting written -/
theorem LIs.field (h : LIs base w v L) (hy : L[i]? = some y) (hp : y.alts[j]? = some p) (hg : y.v.ownBlock = some g) {d' : IfD} {o : Nat} {u : Value} (ho : o < 7) (hd : d'.cells = p.a.d.cells.set o u) (hok : d'.ok) :
    LIs base (w.setCell ⟨g, j * 9 + o, none⟩ u) v (L.set i ⟨y.alts.set j ⟨{ p.a with d := d' }, p.X, p.E⟩, y.v⟩) := by
  have hyr := h.rows y (List.mem_of_getElem? hy)
  have hpr := hyr.2 p (List.mem_of_getElem? hp)
  have hne : ∀ k, y.v.ownBlock ≠ some k → k ≠ g := fun k hk e => hk (e ▸ hg)
  have hoth : ∀ k, k ≠ g → (w.setCell ⟨g, j * 9 + o, none⟩ u).heap[k]? = w.heap[k]? := fun k hk => heap_setCell_other _ _ _ _ hk
  refine h.alter hy hp ?_ ⟨?_, ?_⟩ (.inl rfl) (.inl rfl) (fun k _ h1 _ _ => hoth k (hne k h1))
  · rw [alts_len]
    refine hyr.1.setEl flat_la hg hp (show o < 9 by omega) (fun W F cs hr => ⟨?_, hok⟩)
    obtain ⟨rfl, _⟩ : cs = p.cells ∧ p.a.d.ok := hr
    unfold LA.cells
    simp only
    rw [hd, List.set_append_left _ _ (by show o < 7; exact ho)]
  · refine hpr.1.same flat_u8 (fun k hk => hoth k fun e => ?_)
    rcases rows_apart hpr.1 hyr.1 (by decide) with h1 | h1
    · rw [h1] at hk; cases hk
    · exact h1 (hk.trans (by rw [e]; exact hg.symm))
  · refine hpr.2.same flat_ep (fun k hk => hoth k fun e => ?_)
    rcases rows_apart hpr.2 hyr.1 (by decide) with h1 | h1
    · rw [h1] at hk; cases hk
    · exact h1 (hk.trans (by rw [e]; exact hg.symm))
/-- the vendors' bytes of a setting have grown, and their header is stored -/
theorem LIs.extra (h : LIs base w v L) (hy : L[i]? = some y) (hp : y.alts[j]? = some p) (hg : y.v.ownBlock = some g) (hd : p.a.d.ok) {X' : Value} {ex' : List Int} (hgr : w.grownBy w1 p.X.ownBlock) (ho : Own u8T 5 base w1 X' ex'.length ex') (hm : Moved w p.X X') :
    LIs base (w1.setCell ⟨g, j * 9 + 7, none⟩ X') v (L.set i ⟨y.alts.set j ⟨{ p.a with extra := ex' }, X', p.E⟩, y.v⟩) := by
  have hyr := h.rows y (List.mem_of_getElem? hy)
  have hpr := hyr.2 p (List.mem_of_getElem? hp)
  have hoth : ∀ k, k ≠ g → (w1.setCell ⟨g, j * 9 + 7, none⟩ X').heap[k]? = w1.heap[k]? := fun k hk => heap_setCell_other _ _ _ _ hk
  have hrow1 := hyr.1.grownF (w' := w1) flat_la hgr (rows_apart hyr.1 hpr.1 (by decide))
  refine h.alter hy hp ?_ ⟨?_, ?_⟩ hm (.inl rfl) (fun k hk h1 h2 _ => (hoth k (fun e => h1 (e ▸ hg))).trans (hgr.block k hk (fun e => h2 e.symm)))
  · rw [alts_len]
    refine hrow1.setEl flat_la hg hp (show 7 < 9 by omega) (fun W F cs hr => ⟨?_, hd⟩)
    obtain ⟨rfl, _⟩ : cs = p.cells ∧ p.a.d.ok := hr
    rfl
  · refine ho.same flat_u8 (fun k hk => hoth k fun e => ?_)
    rcases rows_apart ho hrow1 (by decide) with h1 | h1
    · rw [h1] at hk; cases hk
    · exact h1 (hk.trans (by rw [e]; exact hg.symm))
  · have he1 := hpr.2.grownF (w' := w1) flat_ep hgr (rows_apart hpr.2 hpr.1 (by decide))
    refine he1.same flat_ep (fun k hk => hoth k fun e => ?_)
    rcases rows_apart he1 hrow1 (by decide) with h1 | h1
    · rw [h1] at hk; cases hk
    · exact h1 (hk.trans (by rw [e]; exact hg.symm))
/-- the endpoints of a setting have grown, and their header is stored -/
theorem LIs.eps (h : LIs base w v L) (hy : L[i]? = some y) (hp : y.alts[j]? = some p) (hg : y.v.ownBlock = some g) (hd : p.a.d.ok) {E' : Value} {es' : List EpD} (hgr : w.grownBy w1 p.E.ownBlock) (ho : Own epT 59 base w1 E' es'.length es') (hm : Moved w p.E E') :
    LIs base (w1.setCell ⟨g, j * 9 + 8, none⟩ E') v (L.set i ⟨y.alts.set j ⟨{ p.a with eps := es' }, p.X, E'⟩, y.v⟩) := by
  have hyr := h.rows y (List.mem_of_getElem? hy)
  have hpr := hyr.2 p (List.mem_of_getElem? hp)
  have hoth : ∀ k, k ≠ g → (w1.setCell ⟨g, j * 9 + 8, none⟩ E').heap[k]? = w1.heap[k]? := fun k hk => heap_setCell_other _ _ _ _ hk
  have hrow1 := hyr.1.grownF (w' := w1) flat_la hgr (rows_apart hyr.1 hpr.2 (by decide))
  refine h.alter hy hp ?_ ⟨?_, ?_⟩ (.inl rfl) hm (fun k hk h1 _ h2 => (hoth k (fun e => h1 (e ▸ hg))).trans (hgr.block k hk (fun e => h2 e.symm)))
  · rw [alts_len]
    refine hrow1.setEl flat_la hg hp (show 8 < 9 by omega) (fun W F cs hr => ⟨?_, hd⟩)
    obtain ⟨rfl, _⟩ : cs = p.cells ∧ p.a.d.ok := hr
    rfl
  · have he1 := hpr.1.grownF (w' := w1) flat_u8 hgr (rows_apart hpr.1 hpr.2 (by decide))
    refine he1.same flat_u8 (fun k hk => hoth k fun e => ?_)
    rcases rows_apart he1 hrow1 (by decide) with h1 | h1
    · rw [h1] at hk; cases hk
    · exact h1 (hk.trans (by rw [e]; exact hg.symm))
  · refine ho.same flat_ep (fun k hk => hoth k fun e => ?_)
    rcases rows_apart ho hrow1 (by decide) with h1 | h1
    · rw [h1] at hk; cases hk
    · exact h1 (hk.trans (by rw [e]; exact hg.symm))
end
theorem plainL_set {L : List LF} {i j : Nat} {y : LF} {p' : LA} {l : List Alt} (hy : (plainL L)[i]? = some l) (hl : l = y.alts.map LA.a) : plainL (L.set i ⟨y.alts.set j p', y.v⟩) = (plainL L).set i (l.set j p'.a) := by
  unfold plainL
  rw [List.map_set, hl, List.map_set]
theorem plainL_at {L : List LF} {i : Nat} {l : List Alt} (h : (plainL L)[i]? = some l) : ∃ y, L[i]? = some y ∧ l = y.alts.map LA.a := by
  unfold plainL at h
  rw [List.getElem?_map] at h
  obtain ⟨y, hy, rfl⟩ := Option.map_eq_some_iff.1 h
  exact ⟨y, hy, rfl⟩
theorem alts_at {y : LF} {j : Nat} {a : Alt} (h : (y.alts.map LA.a)[j]? = some a) : ∃ p, y.alts[j]? = some p ∧ p.a = a := by
  rw [List.getElem?_map] at h
  obtain ⟨p, hp, rfl⟩ := Option.map_eq_some_iff.1 h
  exact ⟨p, hp, rfl⟩
/-- read alone: the rows need not lie apart -/
structure LRd (base : Nat) (w : World) (v : Value) (L : List LF) : Prop where
  own : Own lfT 50 base w v L.length L
  rows : ∀ y ∈ L, y.rows base w
theorem LIs.rd {base : Nat} {w : World} {v : Value} {L : List LF} (h : LIs base w v L) : LRd base w v L := ⟨h.own, h.rows⟩
theorem LRd.sl {base : Nat} {w : World} {A : Option Addr} {n cap : Nat} {L : List LF} (h : LRd base w (.slice A n cap) L) (hn : L.length = n) : Sl ifT w (fun b => base ≤ b ∧ b < w.heap.size) A n (plainL L) := by
  have h1 := h.own
  rw [hn] at h1
  have h2 := own_flat_new flat_lf h1
  refine ⟨by unfold plainL; rw [List.length_map, h2.1], fun j x hx => ?_⟩
  unfold plainL at hx
  rw [List.getElem?_map] at hx
  obtain ⟨y, hy, rfl⟩ := Option.map_eq_some_iff.1 hx
  obtain ⟨b, off, cs, e, hb, ⟨rfl, _⟩, hc⟩ := h2.2 j y hy
  exact ⟨b, off, [y.v], e, hb, lf_if (h.rows y (List.mem_of_getElem? hy)), hc⟩
/-- a setting put behind the others of an interface (it may be one of them), and the header of their row stored -/
theorem LIs.behind {base : Nat} {w w1 : World} {v : Value} {L : List LF} {i g : Nat} {y : LF} {p : LA} (h : LIs base w v L) (hy : L[i]? = some y) (hg : v.ownBlock = some g) (hp : p.rows base w) {v' : Value} (hgr : w.grownBy w1 y.v.ownBlock) (ho : Own laT 56 base w1 v' (y.alts ++ [p]).length (y.alts ++ [p])) :
    LRd base (w1.setCell ⟨g, i, none⟩ v') v (L.set i ⟨y.alts ++ [p], v'⟩) := by
  have hyr := h.rows y (List.mem_of_getElem? hy)
  have hoth : ∀ k, k ≠ g → (w1.setCell ⟨g, i, none⟩ v').heap[k]? = w1.heap[k]? := fun k hk => heap_setCell_other _ _ _ _ hk
  have hrow1 := h.own.grownF (w' := w1) flat_lf hgr (rows_apart h.own hyr.1 (by decide))
  have hneA : ∀ {t : Nat} {α : Type} {T : Ty α} {e : TypeId} {u : Value} {m : Nat} {xs : List α} (hq : Own T e t w1 u m xs), e ≠ 50 → ∀ k, u.ownBlock = some k → k ≠ g := fun hq he k hk e => by
    rcases rows_apart hq hrow1 he with h1 | h1
    · rw [h1] at hk; cases hk
    · exact h1 (hk.trans (by rw [e]; exact hg.symm))
  have hla : ∀ q : LA, q.rows base w → q.rows base (w1.setCell ⟨g, i, none⟩ v') := fun q hq => by
    have h1 := hq.grownA (w' := w1) hyr.1 hgr
    exact ⟨h1.1.same flat_u8 (fun k hk => hoth k (hneA h1.1 (by decide) k hk)), h1.2.same flat_ep (fun k hk => hoth k (hneA h1.2 (by decide) k hk))⟩
  refine ⟨?_, fun z hz => ?_⟩
  · rw [List.length_set]
    have h2 := hrow1.setEl (o := 0) (x' := (⟨y.alts ++ [p], v'⟩ : LF)) (u := v') flat_lf hg hy (by exact Nat.one_pos) (fun W F cs hr => ⟨by obtain ⟨rfl, _⟩ : cs = [y.v] ∧ True := hr; rfl, trivial⟩)
    have e : i * lfT.size + 0 = i := by show i * 1 + 0 = i; omega
    rw [e] at h2
    exact h2
  · obtain ⟨k, hk⟩ := List.getElem?_of_mem hz
    rw [List.getElem?_set] at hk
    by_cases hik : i = k
    · subst hik
      rw [if_pos rfl, if_pos (List.getElem?_eq_some_iff.1 hy).1] at hk
      have hx' : (⟨y.alts ++ [p], v'⟩ : LF) = z := by simpa using hk
      rw [← hx']
      refine ⟨ho.same flat_la (fun k2 hk2 => hoth k2 (hneA ho (by decide) k2 hk2)), fun q hq => ?_⟩
      rcases List.mem_append.1 hq with hq | hq
      · exact hla q (hyr.2 q hq)
      · have : q = p := by simpa using hq
        rw [this]; exact hla p hp
    · rw [if_neg hik] at hk
      have hzm := List.mem_of_getElem? hk
      have hzr := h.rows z hzm
      have hz1 := hzr.1.grownF (w' := w1) flat_la hgr (by
        by_cases hzz : z.v.ownBlock = none
        · exact .inl hzz
        · refine .inr (fun e => ?_)
          obtain ⟨b, hb⟩ := Option.ne_none_iff_exists'.1 hzz
          exact (pairwise_two LF.apart_symm h.apI hk hy (fun e => hik e.symm)) b hb (e ▸ hb))
      exact ⟨hz1.same flat_la (fun k2 hk2 => hoth k2 (hneA hz1 (by decide) k2 hk2)), fun q hq => hla q (hzr.2 q hq)⟩
end Go.Proofs.YtjgncofhobhjdaaDoor
