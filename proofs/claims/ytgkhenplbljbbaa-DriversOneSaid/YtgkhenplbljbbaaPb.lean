/- General lemmas on worlds, ranges of cells and slices that read as lists. No condition; nothing of the program. -/
import Derived.WalkKit
import Derived.Below
import Derived.KernelRfl
import Derived.Laws.OwnMore
import Derived.Laws.Rows
import Derived.Maps.AppendAt
import Derived.Deep.AppendLies
import Derived.Deep.Draws
import Derived.Deep.MidRow
import Derived.Lib.Hide
set_option linter.unusedVariables false
set_option linter.unusedSimpArgs false
set_option linter.unusedSectionVars false
namespace Go.Proofs.Ytgkhenplbljbbaa
open Go.RowKit

/-- at any statement: the world gets a name, with what is known of it -/
theorem wp_at {P : Program} {c : Code} {Q : Exit → Act → World → Prop} {a : Act} {w : World} (S : World → Prop) (hS : S w) (h : ∀ W, S W → c.wp P Q a W) : c.wp P Q a w := h w hS

/-- at any statement: the world gets a name; the walk knows its cells and its size alone -/
theorem wp_name {P : Program} {c : Code} {Q : Exit → Act → World → Prop} {a : Act} {w w0 : World} {B : Nat} (hk : Below B w0 w)
    (h : ∀ W, (∀ b o, W.cell? ⟨b, o, none⟩ = w.cell? ⟨b, o, none⟩) → (∀ b o, W.frozen? ⟨b, o, none⟩ = w.frozen? ⟨b, o, none⟩) → W.heap.size = w.heap.size → Below B w0 W → c.wp P Q a W) : c.wp P Q a w :=
  h w (fun _ _ => rfl) (fun _ _ => rfl) rfl hk

theorem hide {p : Prop} (h : p) : Hid p := h

theorem bcell {W w1 : World} {B : Nat} (hb : Below B W w1) : (∀ b o, b < B → w1.cell? ⟨b, o, none⟩ = W.cell? ⟨b, o, none⟩) ∧ (∀ b o, b < B → w1.frozen? ⟨b, o, none⟩ = W.frozen? ⟨b, o, none⟩) :=
  ⟨fun b o h => hb.cell (p := ⟨b, o, none⟩) h, fun b o h => hb.frozen (p := ⟨b, o, none⟩) h⟩

/-- the same behind a draw -/
theorem bcellD {W w1 : World} (hb : Below W.drew.heap.size W.drew w1) : (∀ b o, b < W.heap.size → w1.cell? ⟨b, o, none⟩ = W.cell? ⟨b, o, none⟩) ∧ (∀ b o, b < W.heap.size → w1.frozen? ⟨b, o, none⟩ = W.frozen? ⟨b, o, none⟩) := ⟨(bcell hb).1, (bcell hb).2⟩

theorem of_drew {B : Nat} {w w1 : World} (h : Below B w.drew w1) : Below B w w1 := ⟨h.os, h.tape, h.output, h.size, h.block⟩
theorem below_drewN {B : Nat} {a w : World} (h : Below B a w) (n : Nat) : Below B a (w.drewN n) := ⟨h.os, h.tape, h.output, h.size, h.block⟩

/-- all that was there is as it was -/
abbrev Kept (w w' : World) : Prop := Below w.heap.size w w'

theorem Kept.trans' {a b c : World} (h : Kept a b) (k : Kept b c) : Kept a c := h.trans (k.mono h.size)
theorem Kept.thenB {a b c : World} {B : Nat} (h : Below B a b) (k : Kept b c) (hB : B ≤ b.heap.size) : Below B a c := h.trans (k.mono hB)

/-- for a region that draws its order: what is known of the world is handed on behind a call that leaves what was there -/
theorem since_keep {N : Nat} {W w' w1 : World} (h : (∀ b o, b < N → w'.cell? ⟨b, o, none⟩ = W.cell? ⟨b, o, none⟩) ∧ Below N W w') (hN : N ≤ W.heap.size) (hk : Kept w' w1) :
    (∀ b o, b < N → w1.cell? ⟨b, o, none⟩ = W.cell? ⟨b, o, none⟩) ∧ Below N W w1 := by
  have hs := h.2.size
  exact ⟨fun b o hb => (hk.cell (p := ⟨b, o, none⟩) (by show b < _; omega)).trans (h.1 b o hb), h.2.trans (hk.mono (by omega))⟩
theorem since_start {N : Nat} {W : World} : (∀ b o, b < N → W.drew.cell? ⟨b, o, none⟩ = W.cell? ⟨b, o, none⟩) ∧ Below N W W.drew := ⟨fun _ _ _ => rfl, (Below.refl _ _).drew⟩

theorem since_kept {B : Nat} {w W w1 : World} (h0 : Below B w W) (h : (∀ b o, b < W.heap.size → w1.cell? ⟨b, o, none⟩ = W.cell? ⟨b, o, none⟩) ∧ Below W.heap.size W w1) (hB : B ≤ w.heap.size) : Below B w w1 :=
  h0.trans (h.2.mono (Nat.le_trans hB h0.size))

section ranges
variable {w w' : World} {b o B : Nat} {cs : List Value}
theorem range_below (h : w.rangeAt b o cs) (hb : Below B w w') (hlt : b < B) : w'.rangeAt b o cs := fun j v hv => (hb.cell (p := ⟨b, o + j, none⟩) hlt).trans (h j v hv)
theorem range_cell (h : w.rangeAt b o cs) (j : Nat) {v : Value} (hv : cs[j]? = some v) : w.cell? ⟨b, o + j, none⟩ = some v := h j v hv
theorem range_lt (h : w.rangeAt b o cs) (hc : 0 < cs.length) : b < w.heap.size := World.block_lt_of_cell? w _ (h 0 _ (List.getElem?_eq_getElem hc))
theorem range_new (w : World) (t : TypeId) (cs : Array Value) : (w.alloc (.cells cs t)).rangeAt w.heap.size 0 cs.toList := fun j v hv => by
  have := cell_of_row (w.alloc (.cells cs t)) w.heap.size (0 + j) cs t (0, 0) (heap_alloc_new w _)
  rw [this]; simpa using hv
theorem range_nil : w.rangeAt b o [] := fun j v h => by simp at h
theorem range_cons {v : Value} (h : w.cell? ⟨b, o, none⟩ = some v) (h' : w.rangeAt b (o + 1) cs) : w.rangeAt b o (v :: cs) := fun j u hu => by
  cases j with
  | zero => simpa using (by simpa using hu : v = u) ▸ h
  | succ j => rw [show o + (j + 1) = o + 1 + j by omega]; exact h' j u (by simpa using hu)
theorem range_setCell {p : Addr} (h : w.rangeAt b o cs) (hne : b ≠ p.block) (u : Value) : (w.setCell p u).rangeAt b o cs := fun j v hv =>
  (World.cell?_setCell_other w p ⟨b, o + j, none⟩ u (fun e => hne (by rw [e]))).trans (h j v hv)
theorem range_of_heap {t : TypeId} {fr : Nat × Nat} {cs : Array Value} (h : w.heap[b]? = some (.cells cs t fr)) : w.rangeAt b 0 cs.toList := fun j v hv => by
  rw [cell_of_row w b (0 + j) cs t fr h]; simpa using hv
theorem heap_at {w : World} {n : Nat} (o : Obj) (hn : n = w.heap.size) : (w.alloc o).heap[n]? = some o := by subst hn; exact heap_alloc_new w o
theorem heap_past {w : World} {n : Nat} {o u : Obj} (h : w.heap[n]? = some u) : (w.alloc o).heap[n]? = some u := (Below.heap_alloc w o n (Array.getElem?_eq_some_iff.1 h).1).trans h
theorem heap_drew {w : World} {n : Nat} {u : Obj} (h : w.heap[n]? = some u) : w.drew.heap[n]? = some u := h
theorem heap_kept {w w' : World} {n : Nat} {u : Obj} (hk : Kept w w') (h : w.heap[n]? = some u) : w'.heap[n]? = some u := (hk.block n (Array.getElem?_eq_some_iff.1 h).1).trans h
theorem heap_row {w : World} {n : Nat} {c c' : Array Value} {t : TypeId} {fr : Nat × Nat} (h : w.heap[n]? = some (.cells c t fr)) : (w.setRow n c').heap[n]? = some (.cells c' t fr) := by
  simp [World.setRow, Array.getElem?_modify, h]
theorem heap_row_other {w : World} {n m : Nat} {c' : Array Value} {u : Obj} (hne : n ≠ m) (h : w.heap[m]? = some u) : (w.setRow n c').heap[m]? = some u := by
  simp [World.setRow, Array.getElem?_modify, h, hne]
theorem size_setRow {w : World} {n : Nat} {c' : Array Value} : (w.setRow n c').heap.size = w.heap.size := by simp [World.setRow]
theorem below_row {B n : Nat} {w0 w : World} (hb : Below B w0 w) (hBg : B ≤ n) (cs : Array Value) : Below B w0 (w.setRow n cs) :=
  hb.trans ⟨rfl, rfl, rfl, by rw [size_setRow]; exact Nat.le_refl _, fun k hk => by simp [World.setRow, Array.getElem?_modify, show n ≠ k by omega]⟩
end ranges

/-- the blocks below B -/
abbrev low (B : Nat) : Nat → Prop := fun b => b < B
/-- the blocks of a world that are not the row of v -/
abbrev apart (w : World) (v : Value) : Nat → Prop := fun b => b < w.heap.size ∧ v.ownBlock ≠ some b

/-- How a Go type's cells read as Lean data: 'rel w F x cs': the cells cs are x in world w, whatever they lead to lies in blocks of F. -/
structure Ty (α : Type) where
  size : Nat
  rel : World → (Nat → Prop) → α → List Value → Prop
  len : ∀ {w F x cs}, rel w F x cs → cs.length = size
  keep : ∀ {w w' F F' x cs}, rel w F x cs → (∀ b, F b → F' b) → (∀ b o, F b → w'.cell? ⟨b, o, none⟩ = w.cell? ⟨b, o, none⟩) → rel w' F' x cs

/-- a type whose values are their cells -/
def Ty.flat {α : Type} (size : Nat) (f : α → List Value) (ok : α → Prop) (h : ∀ x, (f x).length = size) : Ty α :=
  ⟨size, fun _ _ x cs => cs = f x ∧ ok x, fun {_ _ x _} hr => by rw [hr.1]; exact h x, fun hr _ _ => hr⟩

/-- the slice at A of n elements reads as xs -/
def Sl {α : Type} (t : Ty α) (w : World) (F : Nat → Prop) (A : Option Addr) (n : Nat) (xs : List α) : Prop :=
  xs.length = n ∧ ∀ i x, xs[i]? = some x → ∃ b off cs, A = some ⟨b, off, none⟩ ∧ F b ∧ t.rel w F x cs ∧ w.rangeAt b (off + i * t.size) cs

section slices
variable {α : Type} {t : Ty α} {w w' : World} {B B' n : Nat} {F F' : Nat → Prop} {A : Option Addr} {xs : List α}
theorem Sl.nil (t : Ty α) (w : World) (F : Nat → Prop) (A : Option Addr) : Sl t w F A 0 [] := ⟨rfl, fun i x h => by simp at h⟩
theorem Sl.keep (h : Sl t w F A n xs) (hF : ∀ b, F b → F' b) (hk : ∀ b o, F b → w'.cell? ⟨b, o, none⟩ = w.cell? ⟨b, o, none⟩) : Sl t w' F' A n xs :=
  ⟨h.1, fun i x hx => by
    obtain ⟨b, off, cs, e, hb, hr, hc⟩ := h.2 i x hx
    exact ⟨b, off, cs, e, hF b hb, t.keep hr hF hk, fun j v hv => (hk _ _ hb).trans (hc j v hv)⟩⟩
theorem Sl.below (h : Sl t w (low B) A n xs) (hb : Below B w w') : Sl t w' (low B) A n xs := h.keep (fun _ hb => hb) fun b o hlt => hb.cell (p := ⟨b, o, none⟩) hlt
theorem Sl.more (h : Sl t w (low B) A n xs) (hB : B ≤ B') : Sl t w (low B') A n xs := h.keep (fun _ hb => Nat.lt_of_lt_of_le hb hB) fun _ _ _ => rfl
theorem Sl.kept (h : Sl t w (low w.heap.size) A n xs) (hb : Kept w w') : Sl t w' (low w'.heap.size) A n xs := (h.below hb).more hb.size
theorem Sl.one {b off : Nat} {x : α} {cs : List Value} (hb : F b) (hr : t.rel w F x cs) (hc : w.rangeAt b off cs) : Sl t w F (some ⟨b, off, none⟩) 1 [x] :=
  ⟨rfl, fun i y hy => by
    have hi : i = 0 := by have := (List.getElem?_eq_some_iff.1 hy).1; simp at this; exact this
    subst hi
    have e : x = y := by simpa using hy
    subst e
    exact ⟨b, off, cs, rfl, hb, hr, by simpa using hc⟩⟩
theorem Sl.cons {b off n : Nat} {x : α} {xs : List α} {cs : List Value} (hb : F b) (hr : t.rel w F x cs) (hc : w.rangeAt b off cs) (h : Sl t w F (some ⟨b, off + t.size, none⟩) n xs) : Sl t w F (some ⟨b, off, none⟩) (n + 1) (x :: xs) :=
  ⟨by simp [h.1], fun i y hy => by
    cases i with
    | zero =>
      have e : x = y := by simpa using hy
      subst e
      exact ⟨b, off, cs, rfl, hb, hr, by simpa using hc⟩
    | succ i =>
      obtain ⟨b', off', cs', e, hb', hr', hc'⟩ := h.2 i y (by simpa using hy)
      injection e with e
      injection e with e1 e2 _
      subst e1 e2
      exact ⟨_, off, cs', rfl, hb', hr', by rw [Nat.succ_mul, show off + (i * t.size + t.size) = off + t.size + i * t.size by omega]; exact hc'⟩⟩
theorem Sl.at {k : Nat} (h : Sl t w F A n xs) (hk : k < n) : ∃ x b off cs, xs[k]? = some x ∧ A = some ⟨b, off, none⟩ ∧ F b ∧ t.rel w F x cs ∧ w.rangeAt b (off + k * t.size) cs := by
  have hl : k < xs.length := by rw [h.1]; exact hk
  obtain ⟨b, off, cs, e, hb, hr, hc⟩ := h.2 k xs[k] (List.getElem?_eq_getElem hl)
  exact ⟨xs[k], b, off, cs, List.getElem?_eq_getElem hl, e, hb, hr, hc⟩
end slices

theorem grown_of_kept {w w' : World} (h : Kept w w') (row : Option Nat) : w.grownBy w' row := ⟨h.os, h.tape, h.output, h.size, fun k hk _ => h.block k hk⟩
theorem own_kept {w w' : World} {base : Nat} {e : TypeId} {size n : Nat} {v : Value} {xs : List Value} (h : w.ownsRow base e size v n xs) (hk : Kept w w') : w'.ownsRow base e size v n xs :=
  h.kept (grown_of_kept hk none) (by cases hv : v.ownBlock <;> simp)

/-- the slice value v, a row of the call's own from block base on, reads as xs -/
def Own {α : Type} (t : Ty α) (e : TypeId) (base : Nat) (w : World) (v : Value) (n : Nat) (xs : List α) : Prop :=
  xs.length = n ∧ ∃ cells, w.ownsRow base e t.size v n cells ∧ ∀ i x, xs[i]? = some x → t.rel w (apart w v) x ((cells.drop (i * t.size)).take t.size)

section own
variable {α : Type} {t : Ty α} {e : TypeId} {w w' : World} {base base' n : Nat} {v : Value} {xs : List α}
theorem Own.nil (t : Ty α) (e : TypeId) (base : Nat) (w : World) : Own t e base w (.slice none 0 0) 0 [] :=
  ⟨rfl, [], World.ownsRow_nil w base e t.size, fun i x h => by simp at h⟩
theorem Own.kept (h : Own t e base w v n xs) (hk : Kept w w') : Own t e base w' v n xs := by
  obtain ⟨h1, cells, h2, h3⟩ := h
  refine ⟨h1, cells, own_kept h2 hk, fun i x hx => t.keep (h3 i x hx) (fun b hb => ⟨Nat.lt_of_lt_of_le hb.1 hk.size, hb.2⟩) fun b o hb => hk.cell (p := ⟨b, o, none⟩) hb.1⟩
theorem Own.drew (h : Own t e base w v n xs) : Own t e base w.drew v n xs := h.kept ((Below.refl _ _).drew)
theorem Own.alloc (h : Own t e base w v n xs) (o : Obj) : Own t e base (w.alloc o) v n xs := h.kept ((Below.refl _ _).alloc (Nat.le_refl _) o)
theorem Own.lower (h : Own t e base w v n xs) (hb : base' ≤ base) : Own t e base' w v n xs := by
  obtain ⟨h1, cells, h2, h3⟩ := h
  refine ⟨h1, cells, ⟨h2.1, ?_⟩, h3⟩
  rcases h2.2 with h | ⟨g, cap, cur, hv, hg, r⟩
  · exact .inl h
  · exact .inr ⟨g, cap, cur, hv, by omega, r⟩
theorem Own.lt (h : Own t e base w v n xs) {g : Nat} (hg : v.ownBlock = some g) : base ≤ g ∧ g < w.heap.size := by
  obtain ⟨_, cells, h2, _⟩ := h
  exact h2.lt g hg
theorem Own.form (h : Own t e base w v n xs) : (v = .slice none 0 0 ∧ n = 0) ∨ ∃ g cap, v = .slice (some ⟨g, 0, none⟩) n cap ∧ base ≤ g ∧ g < w.heap.size ∧ n ≤ cap ∧ cap ≤ maxLen := by
  obtain ⟨_, cells, h2, _⟩ := h
  rcases h2.2 with h | ⟨g, cap, cur, hv, hg, hh, hn, hc, _⟩
  · exact .inl h
  · exact .inr ⟨g, cap, hv, hg, (Array.getElem?_eq_some_iff.1 hh).1, hn, hc⟩
/-- what the call owns reads as a list -/
theorem Own.sl {A : Option Addr} {m c : Nat} (h : Own t e base w (.slice A m c) n xs) : Sl t w (low w.heap.size) A n xs := by
  obtain ⟨h1, cells, h2, h3⟩ := h
  refine ⟨h1, fun i x hx => ?_⟩
  have hi : i < n := by rw [← h1]; exact (List.getElem?_eq_some_iff.1 hx).1
  rcases h2.2 with ⟨_, h0⟩ | ⟨g, cap, cur, hv, hg, hh, _, _, _, htk⟩
  · omega
  · injection hv with hA _ _
    have hlt := (Array.getElem?_eq_some_iff.1 hh).1
    have hr := h3 i x hx
    refine ⟨g, 0, _, hA, hlt, t.keep hr (fun b hb => hb.1) (fun _ _ _ => rfl), fun j u hu => ?_⟩
    have hj : j < t.size := by rw [← t.len hr]; exact (List.getElem?_eq_some_iff.1 hu).1
    rw [List.getElem?_take_of_lt hj, List.getElem?_drop] at hu
    rw [← h2.cells (g := g) (by rw [hA]; rfl) _ _ hu, Addr.add_mid]; simp
/-- the same, with the blocks in which it lies told more closely -/
theorem Own.sl_of {A : Option Addr} {m c : Nat} (h : Own t e base w (.slice A m c) n xs) (F : Nat → Prop) (hF : ∀ g, base ≤ g → g < w.heap.size → F g)
    (hrel : ∀ x cs, t.rel w (apart w (.slice A m c)) x cs → t.rel w F x cs) : Sl t w F A n xs := by
  obtain ⟨h1, cells, h2, h3⟩ := h
  refine ⟨h1, fun i x hx => ?_⟩
  have hi : i < n := by rw [← h1]; exact (List.getElem?_eq_some_iff.1 hx).1
  rcases h2.2 with ⟨_, h0⟩ | ⟨g, cap, cur, hv, hg, hh, _, _, _, htk⟩
  · omega
  · injection hv with hA _ _
    have hlt := (Array.getElem?_eq_some_iff.1 hh).1
    have hr := h3 i x hx
    refine ⟨g, 0, _, hA, hF g hg hlt, hrel _ _ hr, fun j u hu => ?_⟩
    have hj : j < t.size := by rw [← t.len hr]; exact (List.getElem?_eq_some_iff.1 hu).1
    rw [List.getElem?_take_of_lt hj, List.getElem?_drop] at hu
    rw [← h2.cells (g := g) (by rw [hA]; rfl) _ _ hu, Addr.add_mid]; simp
/-- a type whose cells lead nowhere -/
def Flat (t : Ty α) : Prop := ∀ {w w' F F' x cs}, t.rel w F x cs → t.rel w' F' x cs
theorem Own.setCell (h : Own t e base w v n xs) (ht : Flat t) {p : Addr} (hp : p.block < base) (u : Value) : Own t e base (w.setCell p u) v n xs := by
  obtain ⟨h1, cells, h2, h3⟩ := h
  exact ⟨h1, cells, ownsRow_setCell_below h2 hp u, fun i x hx => ht (h3 i x hx)⟩
theorem Own.isSlice (h : Own t e base w v n xs) : ∃ A c, v = .slice A n c ∧ n ≤ c ∧ c ≤ maxLen := by
  rcases h.form with ⟨rfl, rfl⟩ | ⟨g, cap, rfl, _, _, h1, h2⟩
  · exact ⟨none, 0, rfl, Nat.le_refl _, by decide⟩
  · exact ⟨_, cap, rfl, h1, h2⟩
theorem Own.nil_len (h : Own t e base w (.slice none 0 0) n xs) : n = 0 := by
  obtain ⟨_, cells, h2, _⟩ := h
  rcases h2.2 with ⟨_, h0⟩ | ⟨g, cap, cur, hv, _⟩
  · exact h0
  · injection hv with hA; cases hA
end own

/-- append of one element that lies in a block of its own: at the operation -/
theorem wp_append_el {α : Type} {T : Ty α} {P : Program} {W : World} {o : Oper} {a : Act} {K : Act → World → Prop} {Q : Exit → Act → World → Prop} (s x : Operand) (t : TypeId)
    (ho : o.op = .call { callee := .builtin .append, args := #[s, x], argTypes := #[t, t] })
    (base : Nat) (e : TypeId) (i : TypeInfo) (z : Value) (bytes : Nat) (ht : P.underlying t = some (.slice e)) (hi : P.info? e = some i) (hz : i.zero = some z)
    (hsize : i.size = T.size) (hby : i.bytes = bytes) (hzs : z.cells.size = T.size) (hsz : 0 < T.size)
    (v : Value) (n : Nat) (xs : List α) (hs : a.eval s = v) (hown : Own T e base W v n xs)
    (gb : Nat) (cs : Array Value) (te : TypeId) (el : α) (hx : a.eval x = .slice (some ⟨gb, 0, none⟩) 1 1) (hblk : W.heap[gb]? = some (.cells cs te (0, 0)))
    (hrel : T.rel W (apart W v) el cs.toList) (h1 : ∀ u ∈ cs.toList, u.oneCell' = true)
    (h63 : n + 1 ≤ maxLen) (hbytes : (n + 1) * bytes ≤ 140737488355328) (hbase : base ≤ W.heap.size)
    (h : ∀ g cap w', Own T e base w' (.slice (some ⟨g, 0, none⟩) (n + 1) cap) (n + 1) (xs ++ [el]) → W.grownBy w' v.ownBlock → Below base W w' → (v.ownBlock = some g ∨ g = W.heap.size) → g < w'.heap.size →
      K (a.put o.dst (.slice (some ⟨g, 0, none⟩) (n + 1) cap)) w') : o.wp P a W K Q := by
  obtain ⟨hl, cells, h2, h3⟩ := hown
  refine wp_append_lies W s x t ho base e i z T.size bytes ht hi hz hsize hby hzs hsz v n cells hs h2 ⟨gb, 0, none⟩ 1 1 cs.toList hx (by rw [T.len hrel]; omega) (World.news_of_block hblk) h1 (by omega) h63 hbytes hbase W.heap.size rfl ?_
  intro g cap w' ho' hg hat hlt
  have hc : cells.length = n * T.size := h2.1
  refine h g cap w' ⟨by simp [hl], cells ++ cs.toList, ho', fun j y hy => ?_⟩ hg ((Below.refl _ _).grown hg hbase (fun k hk => (h2.lt k hk).1)) hat hlt
  have hk : ∀ b o, apart W v b → w'.cell? ⟨b, o, none⟩ = W.cell? ⟨b, o, none⟩ := fun b o hb => World.cell?_of_block (a := ⟨b, o, none⟩) (hg.block b hb.1 (fun e => hb.2 e.symm))
  have hF : ∀ b, apart W v b → apart w' (.slice (some ⟨g, 0, none⟩) (n + 1) cap) b := fun b hb => ⟨Nat.lt_of_lt_of_le hb.1 hg.size, fun e => by
    have e' : g = b := by simpa [Value.ownBlock] using e
    rcases hat with h | h
    · exact hb.2 (by rw [h, e'])
    · have := hb.1; omega⟩
  by_cases hj : j < n
  · rw [List.getElem?_append_left (by omega)] at hy
    have h4 := h3 j y hy
    have hle : (j + 1) * T.size ≤ n * T.size := Nat.mul_le_mul_right _ hj
    rw [Nat.succ_mul] at hle
    have e1 : ((cells ++ cs.toList).drop (j * T.size)).take T.size = (cells.drop (j * T.size)).take T.size := by
      rw [List.drop_append_of_le_length (by omega), List.take_append_of_le_length (by simp; omega)]
    rw [e1]
    exact T.keep h4 hF hk
  · have hjn : j = n := by
      have := (List.getElem?_eq_some_iff.1 hy).1
      simp at this; omega
    subst hjn
    rw [List.getElem?_append_right (by omega), hl, Nat.sub_self] at hy
    have ey : el = y := by simpa using hy
    rw [← ey, ← hc, List.drop_left, ← T.len hrel, List.take_length]
    exact T.keep hrel hF hk

theorem wpList_append_el {α : Type} {T : Ty α} {P : Program} {W : World} {ops : Array Oper} {rest : List Oper} {o : Oper} {a : Act} {Q : Exit → Act → World → Prop} (hgd : o.guard = none) (s x : Operand) (t : TypeId)
    (ho : o.op = .call { callee := .builtin .append, args := #[s, x], argTypes := #[t, t] })
    (base : Nat) (e : TypeId) (i : TypeInfo) (z : Value) (bytes : Nat) (ht : P.underlying t = some (.slice e)) (hi : P.info? e = some i) (hz : i.zero = some z)
    (hsize : i.size = T.size) (hby : i.bytes = bytes) (hzs : z.cells.size = T.size) (hsz : 0 < T.size)
    (v : Value) (n : Nat) (xs : List α) (hs : a.eval s = v) (hown : Own T e base W v n xs)
    (gb : Nat) (cs : Array Value) (te : TypeId) (el : α) (hx : a.eval x = .slice (some ⟨gb, 0, none⟩) 1 1) (hblk : W.heap[gb]? = some (.cells cs te (0, 0)))
    (hrel : T.rel W (apart W v) el cs.toList) (h1 : ∀ u ∈ cs.toList, u.oneCell' = true)
    (h63 : n + 1 ≤ maxLen) (hbytes : (n + 1) * bytes ≤ 140737488355328) (hbase : base ≤ W.heap.size)
    (h : ∀ g cap w', Own T e base w' (.slice (some ⟨g, 0, none⟩) (n + 1) cap) (n + 1) (xs ++ [el]) → W.grownBy w' v.ownBlock → Below base W w' → (v.ownBlock = some g ∨ g = W.heap.size) → g < w'.heap.size →
      wpList P ops Q rest (a.put o.dst (.slice (some ⟨g, 0, none⟩) (n + 1) cap)) w') : wpList P ops Q (o :: rest) a W :=
  wpList_plain hgd fun _ hK => wp_append_el s x t ho base e i z bytes ht hi hz hsize hby hzs hsz v n xs hs hown gb cs te el hx hblk hrel h1 h63 hbytes hbase fun g cap w' h1 h2 h3 h4 h5 => hK _ _ (h g cap w' h1 h2 h3 h4 h5)

theorem step_append_el {α : Type} {T : Ty α} {P : Program} {W : World} {ops : Array Oper} {o : Oper} {a : Act} {K : Act → World → Prop} {Q : Exit → Act → World → Prop} {E : Prop} (hgd : o.guard = none) (s x : Operand) (t : TypeId)
    (ho : o.op = .call { callee := .builtin .append, args := #[s, x], argTypes := #[t, t] })
    (base : Nat) (e : TypeId) (i : TypeInfo) (z : Value) (bytes : Nat) (ht : P.underlying t = some (.slice e)) (hi : P.info? e = some i) (hz : i.zero = some z)
    (hsize : i.size = T.size) (hby : i.bytes = bytes) (hzs : z.cells.size = T.size) (hsz : 0 < T.size)
    (v : Value) (n : Nat) (xs : List α) (hs : a.eval s = v) (hown : Own T e base W v n xs)
    (gb : Nat) (cs : Array Value) (te : TypeId) (el : α) (hx : a.eval x = .slice (some ⟨gb, 0, none⟩) 1 1) (hblk : W.heap[gb]? = some (.cells cs te (0, 0)))
    (hrel : T.rel W (apart W v) el cs.toList) (h1 : ∀ u ∈ cs.toList, u.oneCell' = true)
    (h63 : n + 1 ≤ maxLen) (hbytes : (n + 1) * bytes ≤ 140737488355328) (hbase : base ≤ W.heap.size)
    (h : ∀ g cap w', Own T e base w' (.slice (some ⟨g, 0, none⟩) (n + 1) cap) (n + 1) (xs ++ [el]) → W.grownBy w' v.ownBlock → Below base W w' → (v.ownBlock = some g ∨ g = W.heap.size) → g < w'.heap.size →
      K (a.put o.dst (.slice (some ⟨g, 0, none⟩) (n + 1) cap)) w') : if Region.wanted o (yielded ops a.tmps) = true then Oper.wp P o a W K Q else E := by
  have hw : Region.wanted o (yielded ops a.tmps) = true := by simp [Region.wanted, hgd]
  rw [if_pos hw]
  exact wp_append_el s x t ho base e i z bytes ht hi hz hsize hby hzs hsz v n xs hs hown gb cs te el hx hblk hrel h1 h63 hbytes hbase h

/-- a slice as a part of other data: one cell -/
def Ty.slice {α : Type} (t : Ty α) : Ty (List α) :=
  ⟨1, fun w F xs cs => ∃ A c, cs = [.slice A xs.length c] ∧ xs.length ≤ c ∧ c ≤ maxLen ∧ Sl t w F A xs.length xs,
   fun {_ _ _ _} ⟨_, _, e, _⟩ => by rw [e]; rfl,
   fun {_ _ _ _ _ _} ⟨A, c, e, h1, h2, h⟩ hF hk => ⟨A, c, e, h1, h2, h.keep hF hk⟩⟩
theorem slice_at {α : Type} {t : Ty α} {w w' : World} {B n k : Nat} {A : Option Addr} {l : List (List α)} (h : Sl t.slice w (low B) A n l) (hb : Below B w w') (hk : k < n) :
    ∃ xs b off A' c', l[k]? = some xs ∧ A = some ⟨b, off, none⟩ ∧ b < B ∧ b < w'.heap.size ∧ xs.length ≤ c' ∧ c' ≤ maxLen ∧ w'.cell? ⟨b, off + k, none⟩ = some (.slice A' xs.length c') ∧ Sl t w (low B) A' xs.length xs := by
  obtain ⟨xs, b, off, cs, hx, hA, hbb, ⟨A', c', rfl, h1, h2, hs⟩, hc⟩ := h.at hk
  have hc' := range_below hc hb hbb
  have h0 := hc' 0 _ rfl
  simp only [Ty.slice, Nat.mul_one, Nat.add_zero] at h0
  exact ⟨xs, b, off, A', c', hx, hA, hbb, World.block_lt_of_cell? w' _ h0, h1, h2, h0, hs⟩

/-- a counted loop, as a function -/
def upTo {α : Type} (f : Nat → α → α) (a : α) : Nat → α
  | 0 => a
  | k + 1 => f k (upTo f a k)
theorem upTo_succ {α : Type} (f : Nat → α → α) (a : α) (k : Nat) : upTo f a (k + 1) = f k (upTo f a k) := rfl
theorem upTo_inv {α : Type} {f : Nat → α → α} {a : α} (I : Nat → α → Prop) (h0 : I 0 a) (n : Nat) (hs : ∀ k x, k < n → I k x → I (k + 1) (f k x)) : I n (upTo f a n) := by
  suffices h : ∀ k, k ≤ n → I k (upTo f a k) from h n (Nat.le_refl _)
  intro k
  induction k with
  | zero => intro _; exact h0
  | succ k ih => intro hk; exact hs k _ (by omega) (ih (by omega))

theorem map_take_succ {α β : Type} {l : List α} {j : Nat} {x : α} {f : α → β} (h : l[j]? = some x) : (l.take (j + 1)).map f = (l.take j).map f ++ [f x] := by
  obtain ⟨hj, e⟩ := List.getElem?_eq_some_iff.1 h
  rw [List.take_succ_eq_append_getElem hj, List.map_append, e]; rfl
theorem mapIdx_take_succ {α β : Type} {l : List α} {j : Nat} {x : α} {f : Nat → α → β} (h : l[j]? = some x) : (l.take (j + 1)).mapIdx f = (l.take j).mapIdx f ++ [f j x] := by
  obtain ⟨hj, e⟩ := List.getElem?_eq_some_iff.1 h
  rw [List.take_succ_eq_append_getElem hj, List.mapIdx_append, e]; simp [Nat.min_eq_left (Nat.le_of_lt hj)]

theorem bytes_empty {s : ByteArray} (h : s.size = 0) : s.toList = [] := by
  rw [ByteArray.toList_eq]
  exact List.eq_nil_of_length_eq_zero (by simpa using h)
theorem bytes_some {s : ByteArray} (h : s.size ≠ 0) : ¬ s.toList = [] ∧ s.toList.isEmpty = false := by
  have h1 : ¬ s.toList = [] := by
    rw [ByteArray.toList_eq]
    intro e
    exact h (by have := congrArg List.length e; simpa using this)
  exact ⟨h1, by simpa using h1⟩
theorem byte_at {s : ByteArray} {k : Nat} (h : k < s.size) : s.data.toList[k]? = some s[k] := by
  rw [List.getElem?_eq_getElem (by simpa using h)]; rfl

/-- the same bytes -/
def sameB (x y : ByteArray) : Bool := x.data.toList == y.data.toList
theorem str_inj {a b : ByteArray} (h : a.data.toList = b.data.toList) : a = b := by
  cases a with | mk a => cases b with | mk b => congr 1; exact Array.toList_inj.1 h
theorem sameB_iff {x y : ByteArray} : sameB x y = true ↔ x = y := ⟨fun h => str_inj (by simpa [sameB] using h), fun h => by simp [sameB, h]⟩

theorem ret_int {k : IntKind} {a b : Int} (h : a = b) : Ending.returned (.int k a) = .returned (.int k b) := by rw [h]
theorem ret_bool {a b : Bool} (h : a = b) : Ending.returned (.bool a) = .returned (.bool b) := by rw [h]
theorem ret_int2 {k l : IntKind} {a b c d : Int} (h : a = c) (h' : b = d) : Ending.returned (.tuple #[.int k a, .int l b]) = .returned (.tuple #[.int k c, .int l d]) := by rw [h, h']

end Go.Proofs.Ytgkhenplbljbbaa
