/- General lemmas. -/
import Derived.WalkKit
import Derived.Below
import Derived.KernelRfl
import Derived.Laws.OwnMore
import Derived.Laws.Rows
import Derived.Maps.AppendAt
import Derived.Deep.AppendLies
import Derived.Deep.Draws
import Derived.Deep.MidRow
import Derived.Lib.Hide
import Derived.ProofKit
import Derived.OpenShut
import Derived.ShutString
import Derived.ChangeOld
import Derived.Deep.Slices
import Derived.Deep.Fields
import Derived.ChangeSame
import Derived.Maps.Views
import Derived.Maps.OwnOps
import Derived.Maps.OwnSet
import Derived.StringKeys
set_option linter.unusedVariables false
set_option linter.unusedSimpArgs false
set_option linter.unusedSectionVars false
/- General lemmas on worlds, ranges of cells and slices that read as lists. No condition; nothing of the program. -/
namespace Go.Proofs.Ytegdigfcgeoboaa
open Go.RowKit

/-- at any statement: the world gets a name, with what is known of it -/
theorem wp_at {P : Program} {c : Code} {Q : Exit → Act → World → Prop} {a : Act} {w : World} (S : World → Prop) (hS : S w) (h : ∀ W, S W → c.wp P Q a W) : c.wp P Q a w := h w hS

/-- at any statement: the world gets a name; the walk knows its cells and its size alone -/
theorem wp_name {P : Program} {c : Code} {Q : Exit → Act → World → Prop} {a : Act} {w w0 : World} {B : Nat} (hk : Below B w0 w)
    (h : ∀ W, (∀ b o, W.cell? ⟨b, o, none⟩ = w.cell? ⟨b, o, none⟩) → (∀ b o, W.frozen? ⟨b, o, none⟩ = w.frozen? ⟨b, o, none⟩) → W.heap.size = w.heap.size → Below B w0 W → c.wp P Q a W) : c.wp P Q a w :=
  h w (fun _ _ => rfl) (fun _ _ => rfl) rfl hk

theorem hide {p : Prop} (h : p) : Hid p := h

theorem bcell {W w1 : World} {B : Nat} (hb : Below B W w1) : (∀ b o, b < B → w1.cell? ⟨b, o, none⟩ = W.cell? ⟨b, o, none⟩) ∧ (∀ b o, b < B → w1.frozen? ⟨b, o, none⟩ = W.frozen? ⟨b, o, none⟩) :=
  ⟨fun b o h => hb.cell (p := ⟨b, o, none⟩) h, fun b o h => hb.frozen (p := ⟨b, o, none⟩) h⟩

/-- the same behind a draw -/
theorem bcellD {W w1 : World} (hb : Below W.drew.heap.size W.drew w1) : (∀ b o, b < W.heap.size → w1.cell? ⟨b, o, none⟩ = W.cell? ⟨b, o, none⟩) ∧ (∀ b o, b < W.heap.size → w1.frozen? ⟨b, o, none⟩ = W.frozen? ⟨b, o, none⟩) := ⟨(bcell hb).1, (bcell hb).2⟩

theorem of_drew {B : Nat} {w w1 : World} (h : Below B w.drew w1) : Below B w w1 := ⟨h.os, h.tape, h.output, h.size, h.block⟩
theorem below_drewN {B : Nat} {a w : World} (h : Below B a w) (n : Nat) : Below B a (w.drewN n) := ⟨h.os, h.tape, h.output, h.size, h.block⟩

/-- all that was there is as it was -/
abbrev Kept (w w' : World) : Prop := Below w.heap.size w w'

theorem Kept.trans' {a b c : World} (h : Kept a b) (k : Kept b c) : Kept a c := h.trans (k.mono h.size)
theorem Kept.thenB {a b c : World} {B : Nat} (h : Below B a b) (k : Kept b c) (hB : B ≤ b.heap.size) : Below B a c := h.trans (k.mono hB)

/-- for a region that draws its order: what is known of the world is handed on behind a call that leaves what was there -/
theorem since_keep {N : Nat} {W w' w1 : World} (h : (∀ b o, b < N → w'.cell? ⟨b, o, none⟩ = W.cell? ⟨b, o, none⟩) ∧ Below N W w') (hN : N ≤ W.heap.size) (hk : Kept w' w1) :
    (∀ b o, b < N → w1.cell? ⟨b, o, none⟩ = W.cell? ⟨b, o, none⟩) ∧ Below N W w1 := by
  have hs := h.2.size
  exact ⟨fun b o hb => (hk.cell (p := ⟨b, o, none⟩) (by show b < _; omega)).trans (h.1 b o hb), h.2.trans (hk.mono (by omega))⟩
theorem since_start {N : Nat} {W : World} : (∀ b o, b < N → W.drew.cell? ⟨b, o, none⟩ = W.cell? ⟨b, o, none⟩) ∧ Below N W W.drew := ⟨fun _ _ _ => rfl, (Below.refl _ _).drew⟩

theorem since_kept {B : Nat} {w W w1 : World} (h0 : Below B w W) (h : (∀ b o, b < W.heap.size → w1.cell? ⟨b, o, none⟩ = W.cell? ⟨b, o, none⟩) ∧ Below W.heap.size W w1) (hB : B ≤ w.heap.size) : Below B w w1 :=
  h0.trans (h.2.mono (Nat.le_trans hB h0.size))

section ranges
variable {w w' : World} {b o B : Nat} {cs : List Value}
theorem range_below (h : w.rangeAt b o cs) (hb : Below B w w') (hlt : b < B) : w'.rangeAt b o cs := fun j v hv => (hb.cell (p := ⟨b, o + j, none⟩) hlt).trans (h j v hv)
theorem range_cell (h : w.rangeAt b o cs) (j : Nat) {v : Value} (hv : cs[j]? = some v) : w.cell? ⟨b, o + j, none⟩ = some v := h j v hv
theorem range_lt (h : w.rangeAt b o cs) (hc : 0 < cs.length) : b < w.heap.size := World.block_lt_of_cell? w _ (h 0 _ (List.getElem?_eq_getElem hc))
theorem range_new (w : World) (t : TypeId) (cs : Array Value) : (w.alloc (.cells cs t)).rangeAt w.heap.size 0 cs.toList := fun j v hv => by
  have := cell_of_row (w.alloc (.cells cs t)) w.heap.size (0 + j) cs t (0, 0) (heap_alloc_new w _)
  rw [this]; simpa using hv
theorem range_nil : w.rangeAt b o [] := fun j v h => by simp at h
theorem range_cons {v : Value} (h : w.cell? ⟨b, o, none⟩ = some v) (h' : w.rangeAt b (o + 1) cs) : w.rangeAt b o (v :: cs) := fun j u hu => by
  cases j with
  | zero => simpa using (by simpa using hu : v = u) ▸ h
  | succ j => rw [show o + (j + 1) = o + 1 + j by omega]; exact h' j u (by simpa using hu)
theorem range_setCell {p : Addr} (h : w.rangeAt b o cs) (hne : b ≠ p.block) (u : Value) : (w.setCell p u).rangeAt b o cs := fun j v hv =>
  (World.cell?_setCell_other w p ⟨b, o + j, none⟩ u (fun e => hne (by rw [e]))).trans (h j v hv)
theorem range_of_heap {t : TypeId} {fr : Nat × Nat} {cs : Array Value} (h : w.heap[b]? = some (.cells cs t fr)) : w.rangeAt b 0 cs.toList := fun j v hv => by
  rw [cell_of_row w b (0 + j) cs t fr h]; simpa using hv
theorem heap_at {w : World} {n : Nat} (o : Obj) (hn : n = w.heap.size) : (w.alloc o).heap[n]? = some o := by subst hn; exact heap_alloc_new w o
theorem heap_past {w : World} {n : Nat} {o u : Obj} (h : w.heap[n]? = some u) : (w.alloc o).heap[n]? = some u := (Below.heap_alloc w o n (Array.getElem?_eq_some_iff.1 h).1).trans h
theorem heap_drew {w : World} {n : Nat} {u : Obj} (h : w.heap[n]? = some u) : w.drew.heap[n]? = some u := h
theorem heap_kept {w w' : World} {n : Nat} {u : Obj} (hk : Kept w w') (h : w.heap[n]? = some u) : w'.heap[n]? = some u := (hk.block n (Array.getElem?_eq_some_iff.1 h).1).trans h
theorem heap_row {w : World} {n : Nat} {c c' : Array Value} {t : TypeId} {fr : Nat × Nat} (h : w.heap[n]? = some (.cells c t fr)) : (w.setRow n c').heap[n]? = some (.cells c' t fr) := by
  simp [World.setRow, Array.getElem?_modify, h]
theorem heap_row_other {w : World} {n m : Nat} {c' : Array Value} {u : Obj} (hne : n ≠ m) (h : w.heap[m]? = some u) : (w.setRow n c').heap[m]? = some u := by
  simp [World.setRow, Array.getElem?_modify, h, hne]
theorem size_setRow {w : World} {n : Nat} {c' : Array Value} : (w.setRow n c').heap.size = w.heap.size := by simp [World.setRow]
theorem below_row {B n : Nat} {w0 w : World} (hb : Below B w0 w) (hBg : B ≤ n) (cs : Array Value) : Below B w0 (w.setRow n cs) :=
  hb.trans ⟨rfl, rfl, rfl, by rw [size_setRow]; exact Nat.le_refl _, fun k hk => by simp [World.setRow, Array.getElem?_modify, show n ≠ k by omega]⟩
end ranges

/-- the blocks below B -/
abbrev low (B : Nat) : Nat → Prop := fun b => b < B
/-- the blocks of a world that are not the row of v -/
abbrev apart (w : World) (v : Value) : Nat → Prop := fun b => b < w.heap.size ∧ v.ownBlock ≠ some b

/-- How a Go type's cells read as Lean data: 'rel w F x cs': the cells cs are x in world w, whatever they lead to lies in blocks of F. -/
structure Ty (α : Type) where
  size : Nat
  rel : World → (Nat → Prop) → α → List Value → Prop
  len : ∀ {w F x cs}, rel w F x cs → cs.length = size
  keep : ∀ {w w' F F' x cs}, rel w F x cs → (∀ b, F b → F' b) → (∀ b o, F b → w'.cell? ⟨b, o, none⟩ = w.cell? ⟨b, o, none⟩) → rel w' F' x cs

/-- a type whose values are their cells -/
def Ty.flat {α : Type} (size : Nat) (f : α → List Value) (ok : α → Prop) (h : ∀ x, (f x).length = size) : Ty α :=
  ⟨size, fun _ _ x cs => cs = f x ∧ ok x, fun {_ _ x _} hr => by rw [hr.1]; exact h x, fun hr _ _ => hr⟩

/-- the slice at A of n elements reads as xs -/
def Sl {α : Type} (t : Ty α) (w : World) (F : Nat → Prop) (A : Option Addr) (n : Nat) (xs : List α) : Prop :=
  xs.length = n ∧ ∀ i x, xs[i]? = some x → ∃ b off cs, A = some ⟨b, off, none⟩ ∧ F b ∧ t.rel w F x cs ∧ w.rangeAt b (off + i * t.size) cs

section slices
variable {α : Type} {t : Ty α} {w w' : World} {B B' n : Nat} {F F' : Nat → Prop} {A : Option Addr} {xs : List α}
theorem Sl.nil (t : Ty α) (w : World) (F : Nat → Prop) (A : Option Addr) : Sl t w F A 0 [] := ⟨rfl, fun i x h => by simp at h⟩
theorem Sl.keep (h : Sl t w F A n xs) (hF : ∀ b, F b → F' b) (hk : ∀ b o, F b → w'.cell? ⟨b, o, none⟩ = w.cell? ⟨b, o, none⟩) : Sl t w' F' A n xs :=
  ⟨h.1, fun i x hx => by
    obtain ⟨b, off, cs, e, hb, hr, hc⟩ := h.2 i x hx
    exact ⟨b, off, cs, e, hF b hb, t.keep hr hF hk, fun j v hv => (hk _ _ hb).trans (hc j v hv)⟩⟩
theorem Sl.below (h : Sl t w (low B) A n xs) (hb : Below B w w') : Sl t w' (low B) A n xs := h.keep (fun _ hb => hb) fun b o hlt => hb.cell (p := ⟨b, o, none⟩) hlt
theorem Sl.more (h : Sl t w (low B) A n xs) (hB : B ≤ B') : Sl t w (low B') A n xs := h.keep (fun _ hb => Nat.lt_of_lt_of_le hb hB) fun _ _ _ => rfl
theorem Sl.kept (h : Sl t w (low w.heap.size) A n xs) (hb : Kept w w') : Sl t w' (low w'.heap.size) A n xs := (h.below hb).more hb.size
theorem Sl.one {b off : Nat} {x : α} {cs : List Value} (hb : F b) (hr : t.rel w F x cs) (hc : w.rangeAt b off cs) : Sl t w F (some ⟨b, off, none⟩) 1 [x] :=
  ⟨rfl, fun i y hy => by
    have hi : i = 0 := by have := (List.getElem?_eq_some_iff.1 hy).1; simp at this; exact this
    subst hi
    have e : x = y := by simpa using hy
    subst e
    exact ⟨b, off, cs, rfl, hb, hr, by simpa using hc⟩⟩
theorem Sl.cons {b off n : Nat} {x : α} {xs : List α} {cs : List Value} (hb : F b) (hr : t.rel w F x cs) (hc : w.rangeAt b off cs) (h : Sl t w F (some ⟨b, off + t.size, none⟩) n xs) : Sl t w F (some ⟨b, off, none⟩) (n + 1) (x :: xs) :=
  ⟨by simp [h.1], fun i y hy => by
    cases i with
    | zero =>
      have e : x = y := by simpa using hy
      subst e
      exact ⟨b, off, cs, rfl, hb, hr, by simpa using hc⟩
    | succ i =>
      obtain ⟨b', off', cs', e, hb', hr', hc'⟩ := h.2 i y (by simpa using hy)
      injection e with e
      injection e with e1 e2 _
      subst e1 e2
      exact ⟨_, off, cs', rfl, hb', hr', by rw [Nat.succ_mul, show off + (i * t.size + t.size) = off + t.size + i * t.size by omega]; exact hc'⟩⟩
theorem Sl.at {k : Nat} (h : Sl t w F A n xs) (hk : k < n) : ∃ x b off cs, xs[k]? = some x ∧ A = some ⟨b, off, none⟩ ∧ F b ∧ t.rel w F x cs ∧ w.rangeAt b (off + k * t.size) cs := by
  have hl : k < xs.length := by rw [h.1]; exact hk
  obtain ⟨b, off, cs, e, hb, hr, hc⟩ := h.2 k xs[k] (List.getElem?_eq_getElem hl)
  exact ⟨xs[k], b, off, cs, List.getElem?_eq_getElem hl, e, hb, hr, hc⟩
end slices

theorem grown_of_kept {w w' : World} (h : Kept w w') (row : Option Nat) : w.grownBy w' row := ⟨h.os, h.tape, h.output, h.size, fun k hk _ => h.block k hk⟩
theorem own_kept {w w' : World} {base : Nat} {e : TypeId} {size n : Nat} {v : Value} {xs : List Value} (h : w.ownsRow base e size v n xs) (hk : Kept w w') : w'.ownsRow base e size v n xs :=
  h.kept (grown_of_kept hk none) (by cases hv : v.ownBlock <;> simp)

/-- the slice value v, a row of the call's own from block base on, reads as xs -/
def Own {α : Type} (t : Ty α) (e : TypeId) (base : Nat) (w : World) (v : Value) (n : Nat) (xs : List α) : Prop :=
  xs.length = n ∧ ∃ cells, w.ownsRow base e t.size v n cells ∧ ∀ i x, xs[i]? = some x → t.rel w (apart w v) x ((cells.drop (i * t.size)).take t.size)

section own
variable {α : Type} {t : Ty α} {e : TypeId} {w w' : World} {base base' n : Nat} {v : Value} {xs : List α}
theorem Own.nil (t : Ty α) (e : TypeId) (base : Nat) (w : World) : Own t e base w (.slice none 0 0) 0 [] :=
  ⟨rfl, [], World.ownsRow_nil w base e t.size, fun i x h => by simp at h⟩
theorem Own.kept (h : Own t e base w v n xs) (hk : Kept w w') : Own t e base w' v n xs := by
  obtain ⟨h1, cells, h2, h3⟩ := h
  refine ⟨h1, cells, own_kept h2 hk, fun i x hx => t.keep (h3 i x hx) (fun b hb => ⟨Nat.lt_of_lt_of_le hb.1 hk.size, hb.2⟩) fun b o hb => hk.cell (p := ⟨b, o, none⟩) hb.1⟩
theorem Own.drew (h : Own t e base w v n xs) : Own t e base w.drew v n xs := h.kept ((Below.refl _ _).drew)
theorem Own.alloc (h : Own t e base w v n xs) (o : Obj) : Own t e base (w.alloc o) v n xs := h.kept ((Below.refl _ _).alloc (Nat.le_refl _) o)
theorem Own.lower (h : Own t e base w v n xs) (hb : base' ≤ base) : Own t e base' w v n xs := by
  obtain ⟨h1, cells, h2, h3⟩ := h
  refine ⟨h1, cells, ⟨h2.1, ?_⟩, h3⟩
  rcases h2.2 with h | ⟨g, cap, cur, hv, hg, r⟩
  · exact .inl h
  · exact .inr ⟨g, cap, cur, hv, by omega, r⟩
theorem Own.lt (h : Own t e base w v n xs) {g : Nat} (hg : v.ownBlock = some g) : base ≤ g ∧ g < w.heap.size := by
  obtain ⟨_, cells, h2, _⟩ := h
  exact h2.lt g hg
theorem Own.form (h : Own t e base w v n xs) : (v = .slice none 0 0 ∧ n = 0) ∨ ∃ g cap, v = .slice (some ⟨g, 0, none⟩) n cap ∧ base ≤ g ∧ g < w.heap.size ∧ n ≤ cap ∧ cap ≤ maxLen := by
  obtain ⟨_, cells, h2, _⟩ := h
  rcases h2.2 with h | ⟨g, cap, cur, hv, hg, hh, hn, hc, _⟩
  · exact .inl h
  · exact .inr ⟨g, cap, hv, hg, (Array.getElem?_eq_some_iff.1 hh).1, hn, hc⟩
/-- what the call owns reads as a list -/
theorem Own.sl {A : Option Addr} {m c : Nat} (h : Own t e base w (.slice A m c) n xs) : Sl t w (low w.heap.size) A n xs := by
  obtain ⟨h1, cells, h2, h3⟩ := h
  refine ⟨h1, fun i x hx => ?_⟩
  have hi : i < n := by rw [← h1]; exact (List.getElem?_eq_some_iff.1 hx).1
  rcases h2.2 with ⟨_, h0⟩ | ⟨g, cap, cur, hv, hg, hh, _, _, _, htk⟩
  · omega
  · injection hv with hA _ _
    have hlt := (Array.getElem?_eq_some_iff.1 hh).1
    have hr := h3 i x hx
    refine ⟨g, 0, _, hA, hlt, t.keep hr (fun b hb => hb.1) (fun _ _ _ => rfl), fun j u hu => ?_⟩
    have hj : j < t.size := by rw [← t.len hr]; exact (List.getElem?_eq_some_iff.1 hu).1
    rw [List.getElem?_take_of_lt hj, List.getElem?_drop] at hu
    rw [← h2.cells (g := g) (by rw [hA]; rfl) _ _ hu, Addr.add_mid]; simp
/-- the same, with the blocks in which it lies told more closely -/
theorem Own.sl_of {A : Option Addr} {m c : Nat} (h : Own t e base w (.slice A m c) n xs) (F : Nat → Prop) (hF : ∀ g, base ≤ g → g < w.heap.size → F g)
    (hrel : ∀ x cs, t.rel w (apart w (.slice A m c)) x cs → t.rel w F x cs) : Sl t w F A n xs := by
  obtain ⟨h1, cells, h2, h3⟩ := h
  refine ⟨h1, fun i x hx => ?_⟩
  have hi : i < n := by rw [← h1]; exact (List.getElem?_eq_some_iff.1 hx).1
  rcases h2.2 with ⟨_, h0⟩ | ⟨g, cap, cur, hv, hg, hh, _, _, _, htk⟩
  · omega
  · injection hv with hA _ _
    have hlt := (Array.getElem?_eq_some_iff.1 hh).1
    have hr := h3 i x hx
    refine ⟨g, 0, _, hA, hF g hg hlt, hrel _ _ hr, fun j u hu => ?_⟩
    have hj : j < t.size := by rw [← t.len hr]; exact (List.getElem?_eq_some_iff.1 hu).1
    rw [List.getElem?_take_of_lt hj, List.getElem?_drop] at hu
    rw [← h2.cells (g := g) (by rw [hA]; rfl) _ _ hu, Addr.add_mid]; simp
/-- a type whose cells lead nowhere -/
def Flat (t : Ty α) : Prop := ∀ {w w' F F' x cs}, t.rel w F x cs → t.rel w' F' x cs
theorem Own.setCell (h : Own t e base w v n xs) (ht : Flat t) {p : Addr} (hp : p.block < base) (u : Value) : Own t e base (w.setCell p u) v n xs := by
  obtain ⟨h1, cells, h2, h3⟩ := h
  exact ⟨h1, cells, ownsRow_setCell_below h2 hp u, fun i x hx => ht (h3 i x hx)⟩
theorem Own.isSlice (h : Own t e base w v n xs) : ∃ A c, v = .slice A n c ∧ n ≤ c ∧ c ≤ maxLen := by
  rcases h.form with ⟨rfl, rfl⟩ | ⟨g, cap, rfl, _, _, h1, h2⟩
  · exact ⟨none, 0, rfl, Nat.le_refl _, by decide⟩
  · exact ⟨_, cap, rfl, h1, h2⟩
theorem Own.nil_len (h : Own t e base w (.slice none 0 0) n xs) : n = 0 := by
  obtain ⟨_, cells, h2, _⟩ := h
  rcases h2.2 with ⟨_, h0⟩ | ⟨g, cap, cur, hv, _⟩
  · exact h0
  · injection hv with hA; cases hA
end own

/-- append of one element that lies in a block of its own: at the operation -/
theorem wp_append_el {α : Type} {T : Ty α} {P : Program} {W : World} {o : Oper} {a : Act} {K : Act → World → Prop} {Q : Exit → Act → World → Prop} (s x : Operand) (t : TypeId)
    (ho : o.op = .call { callee := .builtin .append, args := #[s, x], argTypes := #[t, t] })
    (base : Nat) (e : TypeId) (i : TypeInfo) (z : Value) (bytes : Nat) (ht : P.underlying t = some (.slice e)) (hi : P.info? e = some i) (hz : i.zero = some z)
    (hsize : i.size = T.size) (hby : i.bytes = bytes) (hzs : z.cells.size = T.size) (hsz : 0 < T.size)
    (v : Value) (n : Nat) (xs : List α) (hs : a.eval s = v) (hown : Own T e base W v n xs)
    (gb : Nat) (cs : Array Value) (te : TypeId) (el : α) (hx : a.eval x = .slice (some ⟨gb, 0, none⟩) 1 1) (hblk : W.heap[gb]? = some (.cells cs te (0, 0)))
    (hrel : T.rel W (apart W v) el cs.toList) (h1 : ∀ u ∈ cs.toList, u.oneCell' = true)
    (h63 : n + 1 ≤ maxLen) (hbytes : (n + 1) * bytes ≤ 140737488355328) (hbase : base ≤ W.heap.size)
    (h : ∀ g cap w', Own T e base w' (.slice (some ⟨g, 0, none⟩) (n + 1) cap) (n + 1) (xs ++ [el]) → W.grownBy w' v.ownBlock → Below base W w' → (v.ownBlock = some g ∨ g = W.heap.size) → g < w'.heap.size →
      K (a.put o.dst (.slice (some ⟨g, 0, none⟩) (n + 1) cap)) w') : o.wp P a W K Q := by
  obtain ⟨hl, cells, h2, h3⟩ := hown
  refine wp_append_lies W s x t ho base e i z T.size bytes ht hi hz hsize hby hzs hsz v n cells hs h2 ⟨gb, 0, none⟩ 1 1 cs.toList hx (by rw [T.len hrel]; omega) (World.news_of_block hblk) h1 (by omega) h63 hbytes hbase W.heap.size rfl ?_
  intro g cap w' ho' hg hat hlt
  have hc : cells.length = n * T.size := h2.1
  refine h g cap w' ⟨by simp [hl], cells ++ cs.toList, ho', fun j y hy => ?_⟩ hg ((Below.refl _ _).grown hg hbase (fun k hk => (h2.lt k hk).1)) hat hlt
  have hk : ∀ b o, apart W v b → w'.cell? ⟨b, o, none⟩ = W.cell? ⟨b, o, none⟩ := fun b o hb => World.cell?_of_block (a := ⟨b, o, none⟩) (hg.block b hb.1 (fun e => hb.2 e.symm))
  have hF : ∀ b, apart W v b → apart w' (.slice (some ⟨g, 0, none⟩) (n + 1) cap) b := fun b hb => ⟨Nat.lt_of_lt_of_le hb.1 hg.size, fun e => by
    have e' : g = b := by simpa [Value.ownBlock] using e
    rcases hat with h | h
    · exact hb.2 (by rw [h, e'])
    · have := hb.1; omega⟩
  by_cases hj : j < n
  · rw [List.getElem?_append_left (by omega)] at hy
    have h4 := h3 j y hy
    have hle : (j + 1) * T.size ≤ n * T.size := Nat.mul_le_mul_right _ hj
    rw [Nat.succ_mul] at hle
    have e1 : ((cells ++ cs.toList).drop (j * T.size)).take T.size = (cells.drop (j * T.size)).take T.size := by
      rw [List.drop_append_of_le_length (by omega), List.take_append_of_le_length (by simp; omega)]
    rw [e1]
    exact T.keep h4 hF hk
  · have hjn : j = n := by
      have := (List.getElem?_eq_some_iff.1 hy).1
      simp at this; omega
    subst hjn
    rw [List.getElem?_append_right (by omega), hl, Nat.sub_self] at hy
    have ey : el = y := by simpa using hy
    rw [← ey, ← hc, List.drop_left, ← T.len hrel, List.take_length]
    exact T.keep hrel hF hk

theorem wpList_append_el {α : Type} {T : Ty α} {P : Program} {W : World} {ops : Array Oper} {rest : List Oper} {o : Oper} {a : Act} {Q : Exit → Act → World → Prop} (hgd : o.guard = none) (s x : Operand) (t : TypeId)
    (ho : o.op = .call { callee := .builtin .append, args := #[s, x], argTypes := #[t, t] })
    (base : Nat) (e : TypeId) (i : TypeInfo) (z : Value) (bytes : Nat) (ht : P.underlying t = some (.slice e)) (hi : P.info? e = some i) (hz : i.zero = some z)
    (hsize : i.size = T.size) (hby : i.bytes = bytes) (hzs : z.cells.size = T.size) (hsz : 0 < T.size)
    (v : Value) (n : Nat) (xs : List α) (hs : a.eval s = v) (hown : Own T e base W v n xs)
    (gb : Nat) (cs : Array Value) (te : TypeId) (el : α) (hx : a.eval x = .slice (some ⟨gb, 0, none⟩) 1 1) (hblk : W.heap[gb]? = some (.cells cs te (0, 0)))
    (hrel : T.rel W (apart W v) el cs.toList) (h1 : ∀ u ∈ cs.toList, u.oneCell' = true)
    (h63 : n + 1 ≤ maxLen) (hbytes : (n + 1) * bytes ≤ 140737488355328) (hbase : base ≤ W.heap.size)
    (h : ∀ g cap w', Own T e base w' (.slice (some ⟨g, 0, none⟩) (n + 1) cap) (n + 1) (xs ++ [el]) → W.grownBy w' v.ownBlock → Below base W w' → (v.ownBlock = some g ∨ g = W.heap.size) → g < w'.heap.size →
      wpList P ops Q rest (a.put o.dst (.slice (some ⟨g, 0, none⟩) (n + 1) cap)) w') : wpList P ops Q (o :: rest) a W :=
  wpList_plain hgd fun _ hK => wp_append_el s x t ho base e i z bytes ht hi hz hsize hby hzs hsz v n xs hs hown gb cs te el hx hblk hrel h1 h63 hbytes hbase fun g cap w' h1 h2 h3 h4 h5 => hK _ _ (h g cap w' h1 h2 h3 h4 h5)

theorem step_append_el {α : Type} {T : Ty α} {P : Program} {W : World} {ops : Array Oper} {o : Oper} {a : Act} {K : Act → World → Prop} {Q : Exit → Act → World → Prop} {E : Prop} (hgd : o.guard = none) (s x : Operand) (t : TypeId)
    (ho : o.op = .call { callee := .builtin .append, args := #[s, x], argTypes := #[t, t] })
    (base : Nat) (e : TypeId) (i : TypeInfo) (z : Value) (bytes : Nat) (ht : P.underlying t = some (.slice e)) (hi : P.info? e = some i) (hz : i.zero = some z)
    (hsize : i.size = T.size) (hby : i.bytes = bytes) (hzs : z.cells.size = T.size) (hsz : 0 < T.size)
    (v : Value) (n : Nat) (xs : List α) (hs : a.eval s = v) (hown : Own T e base W v n xs)
    (gb : Nat) (cs : Array Value) (te : TypeId) (el : α) (hx : a.eval x = .slice (some ⟨gb, 0, none⟩) 1 1) (hblk : W.heap[gb]? = some (.cells cs te (0, 0)))
    (hrel : T.rel W (apart W v) el cs.toList) (h1 : ∀ u ∈ cs.toList, u.oneCell' = true)
    (h63 : n + 1 ≤ maxLen) (hbytes : (n + 1) * bytes ≤ 140737488355328) (hbase : base ≤ W.heap.size)
    (h : ∀ g cap w', Own T e base w' (.slice (some ⟨g, 0, none⟩) (n + 1) cap) (n + 1) (xs ++ [el]) → W.grownBy w' v.ownBlock → Below base W w' → (v.ownBlock = some g ∨ g = W.heap.size) → g < w'.heap.size →
      K (a.put o.dst (.slice (some ⟨g, 0, none⟩) (n + 1) cap)) w') : if Region.wanted o (yielded ops a.tmps) = true then Oper.wp P o a W K Q else E := by
  have hw : Region.wanted o (yielded ops a.tmps) = true := by simp [Region.wanted, hgd]
  rw [if_pos hw]
  exact wp_append_el s x t ho base e i z bytes ht hi hz hsize hby hzs hsz v n xs hs hown gb cs te el hx hblk hrel h1 h63 hbytes hbase h

/-- a slice as a part of other data: one cell -/
def Ty.slice {α : Type} (t : Ty α) : Ty (List α) :=
  ⟨1, fun w F xs cs => ∃ A c, cs = [.slice A xs.length c] ∧ xs.length ≤ c ∧ c ≤ maxLen ∧ Sl t w F A xs.length xs,
   fun {_ _ _ _} ⟨_, _, e, _⟩ => by rw [e]; rfl,
   fun {_ _ _ _ _ _} ⟨A, c, e, h1, h2, h⟩ hF hk => ⟨A, c, e, h1, h2, h.keep hF hk⟩⟩
theorem slice_at {α : Type} {t : Ty α} {w w' : World} {B n k : Nat} {A : Option Addr} {l : List (List α)} (h : Sl t.slice w (low B) A n l) (hb : Below B w w') (hk : k < n) :
    ∃ xs b off A' c', l[k]? = some xs ∧ A = some ⟨b, off, none⟩ ∧ b < B ∧ b < w'.heap.size ∧ xs.length ≤ c' ∧ c' ≤ maxLen ∧ w'.cell? ⟨b, off + k, none⟩ = some (.slice A' xs.length c') ∧ Sl t w (low B) A' xs.length xs := by
  obtain ⟨xs, b, off, cs, hx, hA, hbb, ⟨A', c', rfl, h1, h2, hs⟩, hc⟩ := h.at hk
  have hc' := range_below hc hb hbb
  have h0 := hc' 0 _ rfl
  simp only [Ty.slice, Nat.mul_one, Nat.add_zero] at h0
  exact ⟨xs, b, off, A', c', hx, hA, hbb, World.block_lt_of_cell? w' _ h0, h1, h2, h0, hs⟩

/-- a counted loop, as a function -/
def upTo {α : Type} (f : Nat → α → α) (a : α) : Nat → α
  | 0 => a
  | k + 1 => f k (upTo f a k)
theorem upTo_succ {α : Type} (f : Nat → α → α) (a : α) (k : Nat) : upTo f a (k + 1) = f k (upTo f a k) := rfl
theorem upTo_inv {α : Type} {f : Nat → α → α} {a : α} (I : Nat → α → Prop) (h0 : I 0 a) (n : Nat) (hs : ∀ k x, k < n → I k x → I (k + 1) (f k x)) : I n (upTo f a n) := by
  suffices h : ∀ k, k ≤ n → I k (upTo f a k) from h n (Nat.le_refl _)
  intro k
  induction k with
  | zero => intro _; exact h0
  | succ k ih => intro hk; exact hs k _ (by omega) (ih (by omega))

theorem map_take_succ {α β : Type} {l : List α} {j : Nat} {x : α} {f : α → β} (h : l[j]? = some x) : (l.take (j + 1)).map f = (l.take j).map f ++ [f x] := by
  obtain ⟨hj, e⟩ := List.getElem?_eq_some_iff.1 h
  rw [List.take_succ_eq_append_getElem hj, List.map_append, e]; rfl
theorem mapIdx_take_succ {α β : Type} {l : List α} {j : Nat} {x : α} {f : Nat → α → β} (h : l[j]? = some x) : (l.take (j + 1)).mapIdx f = (l.take j).mapIdx f ++ [f j x] := by
  obtain ⟨hj, e⟩ := List.getElem?_eq_some_iff.1 h
  rw [List.take_succ_eq_append_getElem hj, List.mapIdx_append, e]; simp [Nat.min_eq_left (Nat.le_of_lt hj)]

theorem bytes_empty {s : ByteArray} (h : s.size = 0) : s.toList = [] := by
  rw [ByteArray.toList_eq]
  exact List.eq_nil_of_length_eq_zero (by simpa using h)
theorem bytes_some {s : ByteArray} (h : s.size ≠ 0) : ¬ s.toList = [] ∧ s.toList.isEmpty = false := by
  have h1 : ¬ s.toList = [] := by
    rw [ByteArray.toList_eq]
    intro e
    exact h (by have := congrArg List.length e; simpa using this)
  exact ⟨h1, by simpa using h1⟩
theorem byte_at {s : ByteArray} {k : Nat} (h : k < s.size) : s.data.toList[k]? = some s[k] := by
  rw [List.getElem?_eq_getElem (by simpa using h)]; rfl

/-- the same bytes -/
def sameB (x y : ByteArray) : Bool := x.data.toList == y.data.toList
theorem str_inj {a b : ByteArray} (h : a.data.toList = b.data.toList) : a = b := by
  cases a with | mk a => cases b with | mk b => congr 1; exact Array.toList_inj.1 h
theorem sameB_iff {x y : ByteArray} : sameB x y = true ↔ x = y := ⟨fun h => str_inj (by simpa [sameB] using h), fun h => by simp [sameB, h]⟩

theorem ret_int {k : IntKind} {a b : Int} (h : a = b) : Ending.returned (.int k a) = .returned (.int k b) := by rw [h]
theorem ret_bool {a b : Bool} (h : a = b) : Ending.returned (.bool a) = .returned (.bool b) := by rw [h]
theorem ret_int2 {k l : IntKind} {a b c d : Int} (h : a = c) (h' : b = d) : Ending.returned (.tuple #[.int k a, .int l b]) = .returned (.tuple #[.int k c, .int l d]) := by rw [h, h']

end Go.Proofs.Ytegdigfcgeoboaa
/- More general lemmas: appending a whole slice; regions that draw their order. No condition; nothing of the program. -/
namespace Go.Proofs.Ytegdigfcgeoboaa
open Go.RowKit

theorem since_below {N : Nat} {W w' w1 : World} (h : (∀ b o, b < N → w'.cell? ⟨b, o, none⟩ = W.cell? ⟨b, o, none⟩) ∧ Below N W w') (hb : Below N w' w1) :
    (∀ b o, b < N → w1.cell? ⟨b, o, none⟩ = W.cell? ⟨b, o, none⟩) ∧ Below N W w1 :=
  ⟨fun b o hlt => (hb.cell (p := ⟨b, o, none⟩) hlt).trans (h.1 b o hlt), h.2.trans hb⟩
theorem since_alloc {N : Nat} {W w' : World} {x : Obj} (h : (∀ b o, b < N → w'.cell? ⟨b, o, none⟩ = W.cell? ⟨b, o, none⟩) ∧ Below N W w') (hN : N ≤ W.heap.size) :
    (∀ b o, b < N → (w'.alloc x).cell? ⟨b, o, none⟩ = W.cell? ⟨b, o, none⟩) ∧ Below N W (w'.alloc x) :=
  since_below h ((Below.refl _ _).alloc (Nat.le_trans hN h.2.size) x)

theorem flat_take {size : Nat} : ∀ (css : List (List Value)) (i : Nat) (c : List Value), (∀ c ∈ css, c.length = size) → css[i]? = some c → (css.flatten.drop (i * size)).take size = c
  | [], i, c, _, h => by simp at h
  | x :: r, 0, c, hs, h => by
    have e : x = c := by simpa using h
    subst e
    have hl := hs x (by simp)
    simp [List.flatten_cons, ← hl]
  | x :: r, i + 1, c, hs, h => by
    have hl := hs x (by simp)
    have ih := flat_take r i c (fun c hc => hs c (by simp [hc])) (by simpa using h)
    rw [List.flatten_cons, Nat.succ_mul, Nat.add_comm, List.drop_append, hl, Nat.add_sub_cancel_left]
    rw [List.drop_of_length_le (by omega), List.nil_append]
    exact ih
theorem flat_len {size : Nat} : ∀ (css : List (List Value)), (∀ c ∈ css, c.length = size) → css.flatten.length = css.length * size
  | [], _ => by simp
  | x :: r, hs => by
    rw [List.flatten_cons, List.length_append, flat_len r (fun c hc => hs c (by simp [hc])), hs x (by simp), List.length_cons, Nat.succ_mul, Nat.add_comm]
theorem flat_range {size : Nat} {w : World} {b : Nat} : ∀ (css : List (List Value)) (off : Nat), (∀ c ∈ css, c.length = size) → (∀ i c, css[i]? = some c → w.rangeAt b (off + i * size) c) → w.rangeAt b off css.flatten
  | [], _, _, _ => range_nil
  | x :: r, off, hs, h => by
    have hl := hs x (by simp)
    have ih := flat_range r (off + size) (fun c hc => hs c (by simp [hc])) (fun i c hc => by
      have := h (i + 1) c (by simpa using hc)
      rwa [Nat.succ_mul, show off + (i * size + size) = off + size + i * size by omega] at this)
    intro j v hv
    rw [List.flatten_cons] at hv
    by_cases hj : j < x.length
    · rw [List.getElem?_append_left hj] at hv
      have := h 0 x (by simp) j v hv
      simpa using this
    · rw [List.getElem?_append_right (by omega)] at hv
      have := ih (j - x.length) v hv
      rwa [show off + size + (j - x.length) = off + j by omega] at this

theorem list_of' {α : Type} {Q : Nat → α → Prop} : ∀ (n : Nat), (∀ i, i < n → ∃ a, Q i a) → ∃ xs : List α, xs.length = n ∧ ∀ i x, xs[i]? = some x → Q i x
  | 0, _ => ⟨[], rfl, fun i x h => by simp at h⟩
  | n + 1, h => by
    obtain ⟨xs, hl, hq⟩ := list_of' n (fun i hi => h i (by omega))
    obtain ⟨a, ha⟩ := h n (by omega)
    refine ⟨xs ++ [a], by simp [hl], fun i x hx => ?_⟩
    by_cases hi : i < n
    · rw [List.getElem?_append_left (by omega)] at hx; exact hq i x hx
    · have : i = n := by have := (List.getElem?_eq_some_iff.1 hx).1; simp at this; omega
      subst this
      rw [List.getElem?_append_right (by omega), hl, Nat.sub_self] at hx
      have e : a = x := by simpa using hx
      rw [← e]; exact ha

/-- the cells of a slice that reads as a list -/
theorem Sl.cells {α : Type} {t : Ty α} {w : World} {F : Nat → Prop} {A : Option Addr} {n : Nat} {xs : List α} (h : Sl t w F A n xs) : ∃ news : List Value, news.length = n * t.size ∧
    (0 < n → ∃ b off, A = some ⟨b, off, none⟩ ∧ F b ∧ w.rangeAt b off news) ∧ ∀ i x, xs[i]? = some x → t.rel w F x ((news.drop (i * t.size)).take t.size) := by
  by_cases hn : n = 0
  · subst hn
    refine ⟨[], by simp, fun h => absurd h (by omega), fun i x hx => ?_⟩
    rw [List.eq_nil_of_length_eq_zero h.1] at hx; simp at hx
  · obtain ⟨x0, b, off, cs0, _, hA, hb, _, _⟩ := h.at (k := 0) (by omega)
    have hq : ∀ i, i < n → ∃ c : List Value, (∃ x, xs[i]? = some x ∧ t.rel w F x c) ∧ w.rangeAt b (off + i * t.size) c := by
      intro i hi
      obtain ⟨x, b', off', cs, hx, hA', _, hr, hc⟩ := h.at hi
      rw [hA] at hA'
      injection hA' with e
      injection e with e1 e2
      subst e1 e2
      exact ⟨cs, ⟨x, hx, hr⟩, hc⟩
    obtain ⟨css, hl, hcs⟩ := list_of' (Q := fun i c => (∃ x, xs[i]? = some x ∧ t.rel w F x c) ∧ w.rangeAt b (off + i * t.size) c) n hq
    have hs : ∀ c ∈ css, c.length = t.size := fun c hc => by
      obtain ⟨i, hi, e⟩ := List.getElem_of_mem hc
      obtain ⟨⟨x, _, hr⟩, _⟩ := hcs i c (by rw [List.getElem?_eq_getElem hi, e])
      exact t.len hr
    refine ⟨css.flatten, by rw [flat_len css hs, hl], fun _ => ⟨b, off, hA, hb, flat_range css off hs (fun i c hc => (hcs i c hc).2)⟩, fun i x hx => ?_⟩
    have hi : i < css.length := by rw [hl, ← h.1]; exact (List.getElem?_eq_some_iff.1 hx).1
    obtain ⟨⟨y, hy, hr⟩, _⟩ := hcs i css[i] (List.getElem?_eq_getElem hi)
    rw [flat_take css i css[i] hs (List.getElem?_eq_getElem hi)]
    rw [hx] at hy; injection hy with e; rw [e]; exact hr

/-- append of a slice of nil: nothing happens -/
theorem run_append_nil {P : Program} (w : World) (base : Nat) (t ty e : TypeId) (i : TypeInfo) (size : Nat) (ht : P.underlying t = some (.slice e)) (hi : P.info? e = some i)
    (v : Value) (n : Nat) (xs : List Value) (hown : w.ownsRow base e size v n xs) (c : Nat) : (Builtin.append_ #[t, t] ty #[v, .slice none 0 c]).run P w = .ok v w := by
  rcases hown.2 with ⟨rfl, rfl⟩ | ⟨g, cap, cur, rfl, _, _, hnc, _⟩
  · simp [Builtin.append_, run_underlying ht, sizeOf, typeInfo, hi, Builtin.lenOf, Builtin.firstCells]
  · simp [Builtin.append_, run_underlying ht, sizeOf, typeInfo, hi, Builtin.lenOf, Builtin.firstCells, hnc, storeCells]

/-- append of a whole slice: the run -/
theorem run_append_sl {α : Type} {T : Ty α} {P : Program} {W : World} (t ty : TypeId)
    (base : Nat) (e : TypeId) (i : TypeInfo) (z : Value) (bytes : Nat) (ht : P.underlying t = some (.slice e)) (hi : P.info? e = some i) (hz : i.zero = some z)
    (hsize : i.size = T.size) (hby : i.bytes = bytes) (hzs : z.cells.size = T.size) (hsz : 0 < T.size)
    (v : Value) (n : Nat) (xs : List α) (hown : Own T e base W v n xs)
    (A : Option Addr) (m c : Nat) (ys : List α) (hsl : Sl T W (apart W v) A m ys) (h1 : ∀ x cs, T.rel W (apart W v) x cs → ∀ u ∈ cs, u.oneCell' = true)
    (h63 : n + m ≤ maxLen) (hbytes : (n + m) * bytes ≤ 140737488355328) (hbase : base ≤ W.heap.size) :
    ∃ v' w', (Builtin.append_ #[t, t] ty #[v, .slice A m c]).run P W = .ok v' w' ∧ Own T e base w' v' (n + m) (xs ++ ys) ∧ W.grownBy w' v.ownBlock ∧ Below base W w' ∧ (v'.ownBlock = v.ownBlock ∨ v'.ownBlock = some W.heap.size) := by
  obtain ⟨hl, cells, h2, h3⟩ := hown
  obtain ⟨news, hnl, hnc, hnr⟩ := hsl.cells
  have hone : ∀ u ∈ news, u.oneCell' = true := by
    intro u hu
    obtain ⟨k, hk, e⟩ := List.getElem_of_mem hu
    have hq : k / T.size < m := by rw [Nat.div_lt_iff_lt_mul hsz]; omega
    obtain ⟨y, _, _, _, hy, _⟩ := hsl.at hq
    refine h1 y _ (hnr _ y hy) u ?_
    have hmod := Nat.mod_lt k hsz
    have hdm := Nat.div_add_mod k T.size
    rw [List.mem_iff_getElem?]
    refine ⟨k % T.size, ?_⟩
    rw [List.getElem?_take_of_lt hmod, List.getElem?_drop, Nat.mul_comm, hdm, ← e]
    exact List.getElem?_eq_getElem _
  have hrun : ∃ v' w', (Builtin.append_ #[t, t] ty #[v, .slice A m c]).run P W = .ok v' w' ∧ w'.ownsRow base e T.size v' (n + m) (cells ++ news) ∧ W.grownBy w' v.ownBlock ∧ (v'.ownBlock = v.ownBlock ∨ v'.ownBlock = some W.heap.size) := by
    by_cases hm : m = 0
    · subst hm
      have hnil : news = [] := List.eq_nil_of_length_eq_zero (by simpa using hnl)
      subst hnil
      cases A with
      | none => exact ⟨v, W, run_append_nil W base t ty e i T.size ht hi v n cells h2 c, by simpa using h2, World.grownBy.refl W _, .inl rfl⟩
      | some ad =>
        obtain ⟨v', w', hr, a1, a2, _, a4⟩ := run_append_own_at (P := P) W base t ty e i z T.size bytes ht hi hz hsize hby hzs hsz v n cells h2 ad 0 c [] (by simp) (fun j u h => by simp at h) (fun u h => by cases h) h63 hbytes hbase
        exact ⟨v', w', hr, a1, a2, a4⟩
    · obtain ⟨b, off, rfl, _, hra⟩ := hnc (by omega)
      obtain ⟨v', w', hr, a1, a2, _, a4⟩ := run_append_own_at (P := P) W base t ty e i z T.size bytes ht hi hz hsize hby hzs hsz v n cells h2 ⟨b, off, none⟩ m c news hnl (fun j u hu => by rw [Addr.add_mid]; exact hra j u hu) hone h63 hbytes hbase
      exact ⟨v', w', hr, a1, a2, a4⟩
  obtain ⟨v', w', hr, ho', hg, hat⟩ := hrun
  have hc : cells.length = n * T.size := h2.1
  have hys := hsl.1
  refine ⟨v', w', hr, ⟨by simp [hl, hys], cells ++ news, ho', fun j y hy => ?_⟩, hg, (Below.refl _ _).grown hg hbase (fun k hk => (h2.lt k hk).1), hat⟩
  have hk : ∀ b o, apart W v b → w'.cell? ⟨b, o, none⟩ = W.cell? ⟨b, o, none⟩ := fun b o hb => World.cell?_of_block (a := ⟨b, o, none⟩) (hg.block b hb.1 (fun e => hb.2 e.symm))
  have hF : ∀ b, apart W v b → apart w' v' b := fun b hb => ⟨Nat.lt_of_lt_of_le hb.1 hg.size, fun e => by
    rcases hat with h | h
    · exact hb.2 (by rw [← h, e])
    · rw [h] at e; injection e with e; have := hb.1; omega⟩
  by_cases hj : j < n
  · rw [List.getElem?_append_left (by omega)] at hy
    have hle : (j + 1) * T.size ≤ n * T.size := Nat.mul_le_mul_right _ hj
    rw [Nat.succ_mul] at hle
    have e1 : ((cells ++ news).drop (j * T.size)).take T.size = (cells.drop (j * T.size)).take T.size := by
      rw [List.drop_append_of_le_length (by omega), List.take_append_of_le_length (by simp; omega)]
    rw [e1]
    exact T.keep (h3 j y hy) hF hk
  · rw [List.getElem?_append_right (by omega)] at hy
    rw [hl] at hy
    have e2 : j * T.size = cells.length + (j - n) * T.size := by rw [hc, ← Nat.add_mul]; congr 1; omega
    rw [e2, List.drop_append, Nat.add_sub_cancel_left, List.drop_of_length_le (by omega), List.nil_append]
    exact T.keep (hnr _ y hy) hF hk

theorem wp_append_sl {α : Type} {T : Ty α} {P : Program} {W : World} {o : Oper} {a : Act} {K : Act → World → Prop} {Q : Exit → Act → World → Prop} (s x : Operand) (t : TypeId)
    (ho : o.op = .call { callee := .builtin .append, args := #[s, x], argTypes := #[t, t] })
    (base : Nat) (e : TypeId) (i : TypeInfo) (z : Value) (bytes : Nat) (ht : P.underlying t = some (.slice e)) (hi : P.info? e = some i) (hz : i.zero = some z)
    (hsize : i.size = T.size) (hby : i.bytes = bytes) (hzs : z.cells.size = T.size) (hsz : 0 < T.size)
    (v : Value) (n : Nat) (xs : List α) (hs : a.eval s = v) (hown : Own T e base W v n xs)
    (A : Option Addr) (m c : Nat) (ys : List α) (hx : a.eval x = .slice A m c) (hsl : Sl T W (apart W v) A m ys) (h1 : ∀ x cs, T.rel W (apart W v) x cs → ∀ u ∈ cs, u.oneCell' = true)
    (h63 : n + m ≤ maxLen) (hbytes : (n + m) * bytes ≤ 140737488355328) (hbase : base ≤ W.heap.size)
    (h : ∀ v' w', Own T e base w' v' (n + m) (xs ++ ys) → W.grownBy w' v.ownBlock → Below base W w' → (v'.ownBlock = v.ownBlock ∨ v'.ownBlock = some W.heap.size) → K (a.put o.dst v') w') : o.wp P a W K Q := by
  obtain ⟨v', w', hrun, h2, h3, h4, h5⟩ := run_append_sl (P := P) t o.type base e i z bytes ht hi hz hsize hby hzs hsz v n xs hown A m c ys hsl h1 h63 hbytes hbase
  unfold Oper.wp execOp
  simp only [ho, resolve, invoke, builtin, Sem.run_bind, Sem.run_pure, Result.andThen_ok, List.map_toArray, List.map_cons, List.map_nil, hs, hx, hrun]
  exact h v' w' h2 h3 h4 h5
theorem step_append_sl {α : Type} {T : Ty α} {P : Program} {W : World} {ops : Array Oper} {o : Oper} {a : Act} {K : Act → World → Prop} {Q : Exit → Act → World → Prop} {E : Prop} (hgd : o.guard = none) (s x : Operand) (t : TypeId)
    (ho : o.op = .call { callee := .builtin .append, args := #[s, x], argTypes := #[t, t] })
    (base : Nat) (e : TypeId) (i : TypeInfo) (z : Value) (bytes : Nat) (ht : P.underlying t = some (.slice e)) (hi : P.info? e = some i) (hz : i.zero = some z)
    (hsize : i.size = T.size) (hby : i.bytes = bytes) (hzs : z.cells.size = T.size) (hsz : 0 < T.size)
    (v : Value) (n : Nat) (xs : List α) (hs : a.eval s = v) (hown : Own T e base W v n xs)
    (A : Option Addr) (m c : Nat) (ys : List α) (hx : a.eval x = .slice A m c) (hsl : Sl T W (apart W v) A m ys) (h1 : ∀ x cs, T.rel W (apart W v) x cs → ∀ u ∈ cs, u.oneCell' = true)
    (h63 : n + m ≤ maxLen) (hbytes : (n + m) * bytes ≤ 140737488355328) (hbase : base ≤ W.heap.size)
    (h : ∀ v' w', Own T e base w' v' (n + m) (xs ++ ys) → W.grownBy w' v.ownBlock → Below base W w' → (v'.ownBlock = v.ownBlock ∨ v'.ownBlock = some W.heap.size) → K (a.put o.dst v') w') :
    if Region.wanted o (yielded ops a.tmps) = true then Oper.wp P o a W K Q else E := by
  have hw : Region.wanted o (yielded ops a.tmps) = true := by simp [Region.wanted, hgd]
  rw [if_pos hw]
  exact wp_append_sl s x t ho base e i z bytes ht hi hz hsize hby hzs hsz v n xs hs hown A m c ys hx hsl h1 h63 hbytes hbase h
theorem heap_grown {w w' : World} {n : Nat} {u : Obj} {row : Option Nat} (hg : w.grownBy w' row) (h : w.heap[n]? = some u) (hne : some n ≠ row) : w'.heap[n]? = some u := (hg.block n (Array.getElem?_eq_some_iff.1 h).1 hne).trans h
/-- a slice that was there reads so apart from a row of the call's own -/
theorem sl_apart {α : Type} {t : Ty α} {N n : Nat} {W W' : World} {A : Option Addr} {xs : List α} {v : Value} (h : Sl t W (low N) A n xs) (hS : (∀ b o, b < N → W'.cell? ⟨b, o, none⟩ = W.cell? ⟨b, o, none⟩) ∧ Below N W W') (hN : N ≤ W.heap.size)
    (hv : ∀ g, v.ownBlock = some g → N ≤ g) : Sl t W' (apart W' v) A n xs :=
  h.keep (fun b hb => ⟨Nat.lt_of_lt_of_le (Nat.lt_of_lt_of_le hb hN) hS.2.size, fun e => by have := hv b e; have : b < N := hb; omega⟩) (fun b o hb => hS.1 b o hb)
/-- an empty slice literal -/
theorem Own.lit0 {α : Type} (t : Ty α) (e : TypeId) (w : World) {base b : Nat} (hb : base ≤ b) (h : w.heap[b]? = some (.cells #[] e (0, 0))) : Own t e base w (.slice (some ⟨b, 0, none⟩) 0 0) 0 [] :=
  ⟨rfl, [], ⟨by simp, .inr ⟨b, 0, #[], rfl, hb, h, Nat.le_refl _, by decide, by simp, by simp⟩⟩, fun i x h => by simp at h⟩
end Go.Proofs.Ytegdigfcgeoboaa
/- More general lemmas: elements that lie from a block on; blocks behind a store. No condition; nothing of the program. -/
namespace Go.Proofs.Ytegdigfcgeoboaa
open Go.RowKit

/-- the same type, of which all lies in blocks from b0 on -/
def Ty.from {α : Type} (b0 : Nat) (t : Ty α) : Ty α :=
  ⟨t.size, fun w F x cs => t.rel w (fun b => F b ∧ b0 ≤ b) x cs, t.len, fun h hF hk => t.keep h (fun b hb => ⟨hF b hb.1, hb.2⟩) (fun b o hb => hk b o hb.1)⟩
section
variable {α : Type} {t : Ty α} {e : TypeId} {w w' : World} {base b0 n : Nat} {v : Value} {xs : List α}
theorem Own.setCellF (h : Own (t.from b0) e base w v n xs) {p : Addr} (hp : p.block < base) (hp0 : p.block < b0) (u : Value) : Own (t.from b0) e base (w.setCell p u) v n xs := by
  obtain ⟨h1, cells, h2, h3⟩ := h
  refine ⟨h1, cells, ownsRow_setCell_below h2 hp u, fun i x hx => t.keep (h3 i x hx) (fun b hb => ⟨⟨by simpa using hb.1.1, hb.1.2⟩, hb.2⟩) (fun b o hb => ?_)⟩
  exact World.cell?_setCell_other _ _ _ _ (fun e => by
    have := congrArg Addr.block e
    have h4 := hb.2
    simp only at this
    omega)
theorem Sl.unfrom {F : Nat → Prop} {A : Option Addr} (h : Sl (t.from b0) w F A n xs) : Sl t w F A n xs :=
  ⟨h.1, fun i x hx => by
    obtain ⟨b, off, cs, e, hb, hr, hc⟩ := h.2 i x hx
    exact ⟨b, off, cs, e, hb, t.keep hr (fun b hb => hb.1) (fun _ _ _ => rfl), hc⟩⟩
theorem Own.slF {A : Option Addr} {m c : Nat} (h : Own (t.from b0) e base w (.slice A m c) n xs) (F : Nat → Prop) (hF : ∀ g, base ≤ g → g < w.heap.size → F g) (hF2 : ∀ b, b0 ≤ b → b < w.heap.size → F b) : Sl t w F A n xs :=
  (h.sl_of F hF (fun _ _ hr => t.keep hr (fun b hb => ⟨hF2 b hb.2 hb.1.1, hb.2⟩) (fun _ _ _ => rfl))).unfrom
end
theorem heap_store {w : World} {g i : Nat} {cs : Array Value} {t : TypeId} (hg : w.heap[g]? = some (.cells cs t (0, 0))) (v : Value) : (w.setCell ⟨g, i, none⟩ v).heap[g]? = some (.cells (cs.setIfInBounds i v) t (0, 0)) := heap_setCell_same w g i cs t v hg
theorem heap_other {w : World} {a : Addr} {k : Nat} {v : Value} {u : Obj} (h : w.heap[k]? = some u) (hne : k ≠ a.block) : (w.setCell a v).heap[k]? = some u := (heap_setCell_other w a k v hne).trans h
theorem heap_below {w w' : World} {B n : Nat} {u : Obj} (hk : Below B w w') (h : w.heap[n]? = some u) (hn : n < B) : w'.heap[n]? = some u := (hk.block n hn).trans h
theorem cell_heap {w : World} {g o : Nat} {cs : Array Value} {t : TypeId} {v : Value} (h : w.heap[g]? = some (.cells cs t (0, 0))) (hv : cs[o]? = some v) : w.cell? ⟨g, o, none⟩ = some v := (cell_of_row _ _ _ _ _ _ h).trans hv
theorem frozen_heap {w : World} {g o : Nat} {cs : Array Value} {t : TypeId} (h : w.heap[g]? = some (.cells cs t (0, 0))) : w.frozen? ⟨g, o, none⟩ = false := frozen_of_row w g o cs t h
theorem heap_lt {w : World} {n : Nat} {u : Obj} (h : w.heap[n]? = some u) : n < w.heap.size := (Array.getElem?_eq_some_iff.1 h).1
end Go.Proofs.Ytegdigfcgeoboaa
/- Arguments of a law, read as data, give lists and structs of the lemmas on worlds. No condition; nothing of the program. -/
namespace Go.Proofs.Ytegdigfcgeoboaa
open Go.RowKit Go.ChangeShapes Go.WideShapes Go.Deep Go.ChangeAt

/-- whatever reads as data of type t is some value of T -/
def Opens {α : Type} (P : Program) (t : TypeId) (T : Ty α) (ok : α → Prop) : Prop :=
  ∀ {H : Type} {enc : TypeId × Value → H} {W : World} {fuel : Nat} {cs : List Value} {x : DataW H × List MemPlace}, DataW.trod enc P W 0 (fun _ => true) true fuel t cs = some x → ∃ a : α, T.rel W (low W.heap.size) a cs ∧ ok a

theorem list_of {α : Type} {Q : Nat → α → Prop} : ∀ (n : Nat), (∀ i, i < n → ∃ a, Q i a) → ∃ xs : List α, xs.length = n ∧ ∀ i x, xs[i]? = some x → Q i x
  | 0, _ => ⟨[], rfl, fun i x h => by simp at h⟩
  | n + 1, h => by
    obtain ⟨xs, hl, hq⟩ := list_of n (fun i hi => h i (by omega))
    obtain ⟨a, ha⟩ := h n (by omega)
    refine ⟨xs ++ [a], by simp [hl], fun i x hx => ?_⟩
    by_cases hi : i < n
    · rw [List.getElem?_append_left (by omega)] at hx; exact hq i x hx
    · have : i = n := by have := (List.getElem?_eq_some_iff.1 hx).1; simp at this; omega
      subst this
      rw [List.getElem?_append_right (by omega), hl, Nat.sub_self] at hx
      have e : a = x := by simpa using hx
      rw [← e]; exact ha

theorem opens_slice {α : Type} {P : Program} {t e : TypeId} {T : Ty α} {ok : α → Prop} (ht : P.underlying t = some (.slice e)) (hC : P.cellsOf e = T.size) (h0 : 0 < T.size) (h : Opens P e T ok) :
    Opens P t T.slice (fun xs => ∀ x ∈ xs, ok x) := by
  intro H enc W fuel cs x hx
  rcases open_slice ht hx with ⟨rfl, _⟩ | ⟨a, len, cap, m, n, D, Pl, rfl, _, hl, hm, hmm, _, hi⟩
  · exact ⟨[], ⟨none, 0, rfl, Nat.le_refl _, by decide, Sl.nil _ _ _ _⟩, fun x h => by cases h⟩
  · simp only [if_true] at hmm
    subst hmm
    have hq : ∀ i, i < len → ∃ y : α, (∃ b off cs, a = ⟨b, off, none⟩ ∧ b < W.heap.size ∧ T.rel W (low W.heap.size) y cs ∧ W.rangeAt b (off + i * T.size) cs) ∧ ok y := by
      intro i hil
      obtain ⟨cs', hc, ht'⟩ := hi i (by omega)
      rw [hC] at hc
      obtain ⟨_, hcl, hat⟩ := World.cells?_some hc
      obtain ⟨y, hy, hok⟩ := h ht'
      have h1 := hat 0 h0
      have e1 : cs'[0]? = some (cs'[0]'(by omega)) := List.getElem?_eq_getElem (by omega)
      rw [e1] at h1
      have hsp := World.cell?_spot h1
      have hlt := World.block_lt_of_cell? W _ h1
      obtain ⟨b, off, spot⟩ := a
      have hs0 : spot = none := by
        obtain ⟨cs0, hc0, _⟩ := hi 0 (by omega)
        rw [hC] at hc0
        obtain ⟨_, hcl0, hat0⟩ := World.cells?_some hc0
        have h2 := hat0 0 h0
        rw [List.getElem?_eq_getElem (by omega)] at h2
        simpa [Addr.add] using World.cell?_spot h2
      subst hs0
      rw [Addr.add_mid, Addr.add_mid] at hlt
      refine ⟨y, ⟨b, off, cs', rfl, hlt, hy, fun j v hv => ?_⟩, hok⟩
      have hj : j < T.size := by rw [← hcl]; exact (List.getElem?_eq_some_iff.1 hv).1
      have h3 := hat j hj
      rw [Addr.add_mid, Addr.add_mid] at h3
      rw [h3, hv]
    obtain ⟨xs, hxl, hxq⟩ := list_of (Q := fun i y => (∃ b off cs, a = ⟨b, off, none⟩ ∧ b < W.heap.size ∧ T.rel W (low W.heap.size) y cs ∧ W.rangeAt b (off + i * T.size) cs) ∧ ok y) len hq
    refine ⟨xs, ⟨some a, m, by rw [hxl], by omega, hm, rfl, fun i y hy => ?_⟩, fun y hy => ?_⟩
    · obtain ⟨⟨b, off, cs, e, hb, hr, hc⟩, _⟩ := hxq i y hy
      exact ⟨b, off, cs, by rw [e], hb, hr, hc⟩
    · obtain ⟨i, hi', e⟩ := List.getElem_of_mem hy
      exact (hxq i y (by rw [List.getElem?_eq_getElem hi', e])).2

/-- a field of an integer kind of a struct that was read -/
theorem field_int {H : Type} {enc : TypeId × Value → H} {P : Program} {W : World} {base : Nat} {sp : Nat → Bool} {hd : Bool} {fuel : Nat} {t : TypeId} {cs : List Value} {x : DataW H × List MemPlace} {fs : Array Field} {k : IntKind}
    (ht : P.underlying t = some (.struct fs)) (h : DataW.trod enc P W base sp hd fuel t cs = some x) (i : Nat) (f : Field) (hf : fs[i]? = some f) (hk : P.underlying f.type = some (.int k)) (h1 : P.cellsOf f.type = 1) :
    ∃ n, cs[f.offset]? = some (.int k n) ∧ (Lit.int k n).wf = true := by
  obtain ⟨xs, n, _, _, _, hl, hg⟩ := DataW.trod_struct ht h
  have hi : i < fs.size := (Array.getElem?_eq_some_iff.1 hf).1
  have h2 := hg i f hf
  rw [h1, List.getElem?_eq_getElem (by omega)] at h2
  obtain ⟨m, hm, _, hw⟩ := DataW.trod_int hk h2
  refine ⟨m, ?_, hw⟩
  have h3 := congrArg (fun l => l[0]?) hm
  simpa using h3
theorem u8_of {n : Int} (h : (Lit.int .u8 n).wf = true) : 0 ≤ n ∧ n < 256 := by
  have : 0 ≤ n ∧ n ≤ 255 := by simpa [Lit.wf, IntKind.min, IntKind.max, IntKind.signed, IntKind.bits] using h
  omega
theorem u16_of {n : Int} (h : (Lit.int .u16 n).wf = true) : 0 ≤ n ∧ n < 65536 := by
  have : 0 ≤ n ∧ n ≤ 65535 := by simpa [Lit.wf, IntKind.min, IntKind.max, IntKind.signed, IntKind.bits] using h
  omega
/-- an argument that is a slice -/
theorem arg_slice {α : Type} {P : Program} {t e : TypeId} {T : Ty α} {ok : List α → Prop} {H : Type} {enc : TypeId × Value → H} {W : World} {r : Reach} {b0 : Nat} {v : Value} {d : DataW H} {p : List MemPlace}
    (ht : P.underlying t = some (.slice e)) (ho : Opens P t T.slice ok) (hv : Value.okWide P W r b0 t v) (h : DataW.Trod enc P W 0 (fun _ => true) true t v d p) :
    ∃ (A : Option Addr) (n c : Nat) (xs : List α), v = .slice A n c ∧ n ≤ c ∧ c ≤ maxLen ∧ Sl T W (low W.heap.size) A n xs ∧ ok xs := by
  obtain ⟨A, n, c, rfl⟩ := okWide_slice ht hv
  obtain ⟨fuel, hf⟩ := h
  obtain ⟨xs, ⟨A', c', e, h1, h2, h3⟩, hok⟩ := ho hf
  have e' : Value.slice A n c = .slice A' xs.length c' := by simpa [Value.cells] using e
  injection e' with e1 e2 e3
  subst e1 e2 e3
  exact ⟨_, _, _, xs, rfl, h1, h2, h3, hok⟩
end Go.Proofs.Ytegdigfcgeoboaa
/- Maps from strings to bools that a call makes, as sets of strings. No condition beyond a key's size; nothing of the program. -/
namespace Go.Proofs.Ytegdigfcgeoboaa
open Go.RowKit Go.WideShapes Go.Maps

theorem plainElem_bool_inv {H : Type} {P : Program} {e : TypeId} (he : P.underlying e = some .bool) {v : Value} {z : DataW H × List MemPlace} (h : plainElem P e v = some z) : ∃ a, v = .bool a ∧ z = (.lit (.bool a), []) := by
  unfold plainElem at h
  rw [he] at h
  cases v <;> simp at h
  exact ⟨_, rfl, h.symm⟩

theorem wpList_lookup_own_bool {H : Type} {P : Program} (w : World) {ops : Array Oper} {rest : List Oper} {o : Oper} {a : Act} {Q : Exit → Act → World → Prop}
    (hg : o.guard = none) (m x : Operand) (t : TypeId) (hop : o.op = Op.lookup t m x false)
    (k e : TypeId) (K : Keyed P k) (ht : P.underlying t = some (.map k e)) (he : P.underlying e = some .bool) (hz : (zeroValue e).run P w = .ok (.bool false) w) (b n : Nat) (D : DataW H)
    (hm : a.eval m = .map (some b)) (hown : w.ownsMap P k (plainElem P e) b n D) (key : Value) (kl : Lit) (hx : a.eval x = key) (hkey : keyOf P k key = some kl)
    (hK : ∀ c : Bool, D.atKey kl (.lit (.bool false)) = .lit (.bool c) → wpList P ops Q rest (a.put o.dst (.bool c)) w) :
    wpList P ops Q (o :: rest) a w := by
  refine wpList_plain hg fun K' hK' => ?_
  obtain ⟨v, ps, hrun, hv⟩ := hown.lookup K ht hz (plainElem_bool he false) hkey
  obtain ⟨c, rfl, hc⟩ := plainElem_bool_inv he hv
  simp only [Prod.mk.injEq] at hc
  unfold Oper.wp
  simp [execOp, hop, hm, hx, hrun, Result.andThen]
  exact hK' _ _ (hK c hc.1)

/-- a set of strings, as a map of a row -/
def strSet (names : List ByteArray) : DataW Unit := setOf (.lit (.bool true)) (names.map fun s => Lit.string s.data.toList)
theorem strSet_nil : strSet [] = .map [] := rfl
theorem strSet_snoc (names : List ByteArray) (s : ByteArray) : strSet (names ++ [s]) = (strSet names).put (.string s.data.toList) (.lit (.bool true)) := by
  unfold strSet; rw [List.map_append]; exact setOf_snoc _ _ _
theorem strSet_isMap (names : List ByteArray) : IsMap (strSet names) := by
  unfold strSet setOf
  generalize (names.map fun s => Lit.string s.data.toList) = l
  suffices h : ∀ (l : List Lit) (m : DataW Unit), IsMap m → IsMap (l.foldl (fun m x => m.put x (.lit (.bool true))) m) from h l _ isMap_empty
  intro l
  induction l with
  | nil => intro m h; exact h
  | cons x r ih => intro m h; exact ih _ (h.put _ _)
theorem strSet_go (s : ByteArray) : ∀ (names : List ByteArray) (m : DataW Unit) (b : Bool), IsMap m → m.atKey (.string s.data.toList) (.lit (.bool false)) = .lit (.bool b) →
    ((names.map fun s => Lit.string s.data.toList).foldl (fun m x => m.put x (.lit (.bool true))) m).atKey (.string s.data.toList) (.lit (.bool false)) = .lit (.bool (b || names.any (fun x => sameB x s)))
  | [], m, b, _, h => by simpa using h
  | x :: r, m, b, hm, h => by
    rw [List.map_cons, List.foldl_cons]
    by_cases e : x = s
    · subst e
      have : sameB x x = true := by unfold sameB; simp
      rw [strSet_go x r _ true (hm.put _ _) (atKey_put_same hm (by exact trivial) _ _)]
      simp [this]
    · have hne : (Lit.string s.data.toList) ≠ (Lit.string x.data.toList) := fun h => e (by injection h with h; exact (str_inj h).symm)
      rw [strSet_go s r _ b (hm.put _ _) (by rw [atKey_put_other hne]; exact h)]
      have : sameB x s = false := by
        unfold sameB
        simpa using fun h => e (str_inj h)
      simp [this]
theorem strSet_at (names : List ByteArray) (s : ByteArray) : (strSet names).atKey (.string s.data.toList) (.lit (.bool false)) = .lit (.bool (names.any (fun x => sameB x s))) := by
  have := strSet_go s names (.map []) false isMap_empty rfl
  simpa [strSet, setOf] using this
end Go.Proofs.Ytegdigfcgeoboaa
/- Maps whose elements are any values: what stands at a key, as a function of the key. No condition; nothing of the program. -/
namespace Go.Proofs.Ytegdigfcgeoboaa
open Go.RowKit Go.WideShapes Go.Maps

/-- an element reads as itself -/
def anyR (v : Value) : Option (DataW Value × List MemPlace) := some (.held v, [])
def heldO : Option Value → DataW Value | some v => .held v | none => .nil
/-- block b is a map of at most n entries; f says what stands at a key -/
def MapIs (P : Program) (k : TypeId) (w : World) (b n : Nat) (f : Lit → Option Value) : Prop :=
  ∃ D, w.ownsMap P k anyR b n D ∧ ∀ kl, KeysOf P k kl → D.atKey kl .nil = heldO (f kl)
/-- the same behind a store -/
def putF (f : Lit → Option Value) (kl : Lit) (v : Value) : Lit → Option Value := fun x => if x.sameKey kl then some v else f x
def delF (f : Lit → Option Value) (kl : Lit) : Lit → Option Value := fun x => if x.sameKey kl then none else f x

section
variable {P : Program} {k t e : TypeId} {w : World} {b n : Nat} {f : Lit → Option Value} {z key : Value} {kl : Lit}
theorem MapIs.lt (h : MapIs P k w b n f) : b < w.heap.size := by obtain ⟨D, h, _⟩ := h; exact h.lt
theorem MapIs.kept {w' : World} {row : Option Nat} (h : MapIs P k w b n f) (hg : w.grownBy w' row) (hne : some b ≠ row) : MapIs P k w' b n f := by
  obtain ⟨D, h, hf⟩ := h; exact ⟨D, h.kept hg hne, hf⟩
theorem MapIs.keep {w' : World} (h : MapIs P k w b n f) (hk : Kept w w') : MapIs P k w' b n f := h.kept (grown_of_kept hk none) (by simp)
theorem MapIs.mono (h : MapIs P k w b n f) {n' : Nat} (hn : n ≤ n') : MapIs P k w b n' f := by
  obtain ⟨D, h, hf⟩ := h; exact ⟨D, h.mono hn, hf⟩
theorem MapIs.setCell (h : MapIs P k w b n f) {a : Addr} (ha : b ≠ a.block) (u : Value) : MapIs P k (w.setCell a u) b n f := by
  obtain ⟨D, h, hf⟩ := h; exact ⟨D, h.setCell ha u, hf⟩
theorem MapIs.congr {f' : Lit → Option Value} (h : MapIs P k w b n f) (hf : ∀ kl, KeysOf P k kl → f kl = f' kl) : MapIs P k w b n f' := by
  obtain ⟨D, h, h2⟩ := h; exact ⟨D, h, fun kl hk => by rw [h2 kl hk, hf kl hk]⟩
theorem MapIs.made (w : World) (P : Program) (k : TypeId) : MapIs P k (w.alloc (.map #[] 0)) w.heap.size 0 (fun _ => none) :=
  ⟨_, World.ownsMap_made w P k anyR, fun _ _ => rfl⟩
theorem MapIs.look (h : MapIs P k w b n f) (K : Keyed P k) (ht : P.underlying t = some (.map k e)) (hz : (zeroValue e).run P w = .ok z w) (hkey : keyOf P k key = some kl) (c : Bool) :
    (Instr.lookup t (.map (some b)) key c).run P w = .ok (if c then .tuple #[(f kl).getD z, .bool (f kl).isSome] else (f kl).getD z) w := by
  obtain ⟨D, ⟨es, clock, hb, F, hs, rfl⟩, hf⟩ := h
  have h0 := hf kl ⟨key, hkey⟩
  rcases fit_look c K ht hz hb F hkey with ⟨hrun, _, hat⟩ | ⟨e0, y, _, _, hrun, hR, hat, _⟩
  · rw [hat .nil] at h0
    cases hk : f kl with
    | none => rw [hrun]; rfl
    | some v => rw [hk] at h0; cases h0
  · rw [hat .nil] at h0
    have hy : y = (.held e0.val, []) := by have := hR; unfold anyR at this; injection this with this; exact this.symm
    rw [hy] at h0
    cases hk : f kl with
    | none => rw [hk] at h0; cases h0
    | some v =>
      rw [hk] at h0
      have e : e0.val = v := by injection h0
      rw [hrun, e]; rfl
theorem MapIs.update (h : MapIs P k w b n f) (K : Keyed P k) (ht : P.underlying t = some (.map k e)) (hn : n < maxLen) (val : Value) (hkey : keyOf P k key = some kl) :
    ∃ w', (Instr.mapUpdate t (.map (some b)) key val).run P w = .ok () w' ∧ MapIs P k w' b (n + 1) (putF f kl val) ∧ w.grownBy w' (some b) := by
  obtain ⟨D, h, hf⟩ := h
  have hmap : IsMap D := h.isMap
  obtain ⟨w', hrun, h1, h2⟩ := h.update K ht hn hkey (val := val) (d := .held val) (ps := []) rfl
  refine ⟨w', hrun, ⟨_, h1, fun kx hx => ?_⟩, h2⟩
  unfold putF
  by_cases hne : kx = kl
  · subst hne
    rw [atKey_put_same hmap (K.key hkey), WideAt.sameKey_self (K.key hkey)]; rfl
  · rw [atKey_put_other hne, sameKey_ne hne, hf kx hx]; rfl
theorem MapIs.drop (h : MapIs P k w b n f) (K : Keyed P k) (ht : P.underlying t = some (.map k e)) (hkey : keyOf P k key = some kl) (ty : TypeId) :
    ∃ w', (Builtin.delete_ #[t, k] ty #[.map (some b), key]).run P w = .ok (.tuple #[]) w' ∧ MapIs P k w' b n (delF f kl) ∧ w.grownBy w' (some b) := by
  obtain ⟨D, h, hf⟩ := h
  obtain ⟨w', hrun, h1, h2⟩ := h.drop K ht hkey ty
  refine ⟨w', hrun, ⟨_, h1, fun kx hx => ?_⟩, h2.grown⟩
  unfold delF
  by_cases hne : kx = kl
  · subst hne
    rw [atKey_del_same, WideAt.sameKey_self (K.key hkey)]; rfl
  · rw [atKey_del_other hne, sameKey_ne hne, hf kx hx]; rfl
end

section
variable {P : Program} (w : World) {ops : Array Oper} {rest : List Oper} {o : Oper} {a : Act} {Q : Exit → Act → World → Prop}
theorem wpList_look_any (hg : o.guard = none) (m x : Operand) (t : TypeId) (c : Bool) (hop : o.op = Op.lookup t m x c)
    (k e : TypeId) (K : Keyed P k) (ht : P.underlying t = some (.map k e)) {z : Value} (hz : (zeroValue e).run P w = .ok z w) (b n : Nat) (f : Lit → Option Value)
    (hm : a.eval m = .map (some b)) (hown : MapIs P k w b n f) (key : Value) (kl : Lit) (hx : a.eval x = key) (hkey : keyOf P k key = some kl)
    (hK : wpList P ops Q rest (a.put o.dst (if c then .tuple #[(f kl).getD z, .bool (f kl).isSome] else (f kl).getD z)) w) :
    wpList P ops Q (o :: rest) a w := by
  refine wpList_plain hg fun K' hK' => ?_
  have hrun := hown.look K ht hz hkey c
  generalize (if c then Value.tuple #[(f kl).getD z, .bool (f kl).isSome] else (f kl).getD z) = V at *
  unfold Oper.wp
  simp [execOp, hop, hm, hx, hrun, Result.andThen]
  exact hK' _ _ hK
theorem wpList_store_any (hg : o.guard = none) (m x v : Operand) (t : TypeId) (hop : o.op = Op.mapUpdate t m x v)
    (k e : TypeId) (K : Keyed P k) (ht : P.underlying t = some (.map k e)) (b n : Nat) (f : Lit → Option Value)
    (hm : a.eval m = .map (some b)) (hown : MapIs P k w b n f) (hn : n < maxLen) (key val : Value) (kl : Lit) (hx : a.eval x = key) (hv : a.eval v = val) (hkey : keyOf P k key = some kl)
    (hK : ∀ w', MapIs P k w' b (n + 1) (putF f kl val) → w.grownBy w' (some b) → wpList P ops Q rest (a.put o.dst undef) w') :
    wpList P ops Q (o :: rest) a w := by
  refine wpList_plain hg fun K' hK' => ?_
  obtain ⟨w', hrun, r1, r2⟩ := hown.update K ht hn val hkey
  unfold Oper.wp
  simp [execOp, hop, hm, hx, hv, hrun, Result.andThen]
  exact hK' _ _ (hK w' r1 r2)
theorem wpList_delete_any (hg : o.guard = none) (m x : Operand) (t k : TypeId) (hop : o.op = Op.call { callee := Callee.builtin Builtin.delete, args := #[m, x], argTypes := #[t, k] })
    (e : TypeId) (K : Keyed P k) (ht : P.underlying t = some (.map k e)) (b n : Nat) (f : Lit → Option Value)
    (hm : a.eval m = .map (some b)) (hown : MapIs P k w b n f) (key : Value) (kl : Lit) (hx : a.eval x = key) (hkey : keyOf P k key = some kl)
    (hK : ∀ w', MapIs P k w' b n (delF f kl) → w.grownBy w' (some b) → wpList P ops Q rest (a.put o.dst (.tuple #[])) w') :
    wpList P ops Q (o :: rest) a w := by
  refine wpList_plain hg fun K' hK' => ?_
  obtain ⟨w', hrun, r1, r2⟩ := hown.drop K ht hkey o.type
  unfold Oper.wp
  simp [execOp, hop, resolve, invoke, builtin, hm, hx, hrun, Result.andThen]
  exact hK' _ _ (hK w' r1 r2)
end
end Go.Proofs.Ytegdigfcgeoboaa
/- What a drawn region or a loop knows if it stores into one block alone; an append of a whole slice in a list of operations. No condition; nothing of the program. -/
namespace Go.Proofs.Ytegdigfcgeoboaa
open Go.RowKit
/-- all cells but those of one block are as they were -/
abbrev But (W : World) (X : Nat) (w' : World) : Prop := (∀ b o, b < W.heap.size → b ≠ X → w'.cell? ⟨b, o, none⟩ = W.cell? ⟨b, o, none⟩) ∧ W.grownBy w' (some X)
theorem But.start {W : World} {X : Nat} : But W X W.drew := ⟨fun _ _ _ _ => rfl, ⟨rfl, rfl, rfl, Nat.le_refl _, fun _ _ _ => rfl⟩⟩
theorem grown_comp {a b c : World} {X : Nat} (h : a.grownBy b (some X)) (k : b.grownBy c (some X)) : a.grownBy c (some X) :=
  ⟨k.os.trans h.os, k.tape.trans h.tape, k.output.trans h.output, Nat.le_trans h.size k.size, fun i hi hne => (k.block i (Nat.lt_of_lt_of_le hi h.size) hne).trans (h.block i hi hne)⟩
theorem But.then {W w1 w2 : World} {X : Nat} (h : But W X w1) (k : w1.grownBy w2 (some X)) : But W X w2 :=
  ⟨fun b o hb hne => (World.cell?_of_block (a := ⟨b, o, none⟩) (k.block b (Nat.lt_of_lt_of_le hb h.2.size) (by simpa using hne))).trans (h.1 b o hb hne), grown_comp h.2 k⟩
theorem heap_but {W w1 : World} {X b : Nat} {u : Obj} (h : W.grownBy w1 (some X)) (hb : W.heap[b]? = some u) (hne : b ≠ X) : w1.heap[b]? = some u := (h.block b (heap_lt hb) (by simpa using hne)).trans hb
theorem kept_but {w W w1 : World} {X : Nat} (h : Kept w W) (k : W.grownBy w1 (some X)) (hX : w.heap.size ≤ X) : Kept w w1 := h.grown k h.size (fun q hq => by injection hq with hq; omega)
theorem grown_set {w w1 : World} {X : Nat} (h : Kept w w1) (v : Value) : w.grownBy (w1.setCell ⟨X, 0, none⟩ v) (some X) :=
  ⟨h.os, h.tape, h.output, by rw [World.size_setCell]; exact h.size, fun k hk hne => (Below.heap_setCell _ _ _ k (fun e => hne (by rw [e]))).trans (h.block k hk)⟩
theorem grown_any {w w1 : World} {X : Nat} (h : Kept w w1) : w.grownBy w1 (some X) := ⟨h.os, h.tape, h.output, h.size, fun k hk _ => h.block k hk⟩
theorem grown_at {v w1 : World} {X : Nat} (h : v.grownBy w1 (some X)) (o : Nat) (u : Value) : v.grownBy (w1.setCell ⟨X, o, none⟩ u) (some X) :=
  ⟨h.os, h.tape, h.output, by rw [World.size_setCell]; exact h.size, fun k hk hne => (Below.heap_setCell _ _ _ k (fun e => hne (by rw [e]))).trans (h.block k hk hne)⟩
theorem grown_self {v : World} {X : Nat} : v.grownBy v (some X) := ⟨rfl, rfl, rfl, Nat.le_refl _, fun _ _ _ => rfl⟩
theorem wpList_append_sl {α : Type} {T : Ty α} {P : Program} {W : World} {ops : Array Oper} {rest : List Oper} {o : Oper} {a : Act} {Q : Exit → Act → World → Prop} (hgd : o.guard = none) (s x : Operand) (t : TypeId)
    (ho : o.op = .call { callee := .builtin .append, args := #[s, x], argTypes := #[t, t] })
    (base : Nat) (e : TypeId) (i : TypeInfo) (z : Value) (bytes : Nat) (ht : P.underlying t = some (.slice e)) (hi : P.info? e = some i) (hz : i.zero = some z)
    (hsize : i.size = T.size) (hby : i.bytes = bytes) (hzs : z.cells.size = T.size) (hsz : 0 < T.size)
    (v : Value) (n : Nat) (xs : List α) (hs : a.eval s = v) (hown : Own T e base W v n xs)
    (A : Option Addr) (m c : Nat) (ys : List α) (hx : a.eval x = .slice A m c) (hsl : Sl T W (apart W v) A m ys) (h1 : ∀ x cs, T.rel W (apart W v) x cs → ∀ u ∈ cs, u.oneCell' = true)
    (h63 : n + m ≤ maxLen) (hbytes : (n + m) * bytes ≤ 140737488355328) (hbase : base ≤ W.heap.size)
    (h : ∀ v' w', Own T e base w' v' (n + m) (xs ++ ys) → W.grownBy w' v.ownBlock → Below base W w' → (v'.ownBlock = v.ownBlock ∨ v'.ownBlock = some W.heap.size) → wpList P ops Q rest (a.put o.dst v') w') : wpList P ops Q (o :: rest) a W :=
  wpList_plain hgd fun _ hK => wp_append_sl s x t ho base e i z bytes ht hi hz hsize hby hzs hsz v n xs hs hown A m c ys hx hsl h1 h63 hbytes hbase fun v' w' h1 h2 h3 h4 => hK _ _ (h v' w' h1 h2 h3 h4)
end Go.Proofs.Ytegdigfcgeoboaa
