/- The law of the chapter on reports, part 1: Hp Pb Ta Tb Tc. -/
import Derived.Deep.RegionHeld
import Derived.OrdersHeld
import Derived.KernelRfl
import Derived.WalkKit
import Derived.Below
import Derived.Laws.OwnMore
import Derived.Laws.Rows
import Derived.Maps.AppendAt
import Derived.Deep.AppendLies
import Derived.Deep.Draws
import Derived.Deep.MidRow
import Derived.Lib.Hide
set_option maxHeartbeats 16000000
set_option linter.unusedVariables false
set_option linter.unusedSimpArgs false
set_option linter.unusedSectionVars false
namespace Go.Proofs.Ytegdigfcgeoboaa
open Go
theorem tkE {P : Program} {ops : Array Oper} {Q : Exit → Act → World → Prop} {md : Region.Mode} {S1 S2 : World → Prop} {i : Nat} {oi : Oper} {v : Value} {fuel : Nat} {listed : Array Bool} {a : Act} {w : World} (hi : ops[i]? = some oi)
    (hc : (Region.noSelect ops && Region.free md ops listed i && (Region.ready md ops listed).contains i && Region.wanted oi (yielded ops a.tmps)) = true)
    (hQ : ∀ c a w, Q (.panic c) (a.put oi.dst v) w → Q (.panic c) a w) (hS : S1 w ∧ S2 w) (hy : ∀ w, S1 w → S2 w → (execOp a.eval oi).run P w = .ok (.value v) w)
    (h : wpAnyH P md ops Q (fun w => S1 w ∧ S2 w) fuel (listed.setIfInBounds i true) (a.put oi.dst v) w) : wpAnyH P md ops Q (fun w => S1 w ∧ S2 w) (fuel + 1) listed a w := by
  rw [Bool.and_eq_true, Bool.and_eq_true, Bool.and_eq_true] at hc
  exact wpAnyH_take hi hc.1.1.1 hc.1.1.2 hc.1.2 hQ (Or.inl ⟨hc.2, fun w h => hy w h.1 h.2⟩) hS h
theorem tk0 {P : Program} {ops : Array Oper} {Q : Exit → Act → World → Prop} {md : Region.Mode} {S1 S2 : World → Prop} {i : Nat} {oi : Oper} {v : Value} {fuel : Nat} {listed : Array Bool} {a : Act} {w : World} (hi : ops[i]? = some oi)
    (hc : (Region.noSelect ops && Region.free md ops listed i && (Region.ready md ops listed).contains i && Region.wanted oi (yielded ops a.tmps)) = true)
    (hS : S1 w ∧ S2 w) (hy : ∀ w, S1 w → S2 w → (execOp a.eval oi).run P w = .ok (.value v) w)
    (h : wpAnyH P md ops Q (fun w => S1 w ∧ S2 w) fuel (listed.setIfInBounds i true) (a.put oi.dst v) w) (hQ : ∀ c a w, Q (.panic c) (a.put oi.dst v) w → Q (.panic c) a w := by exact fun _ _ _ h => h) : wpAnyH P md ops Q (fun w => S1 w ∧ S2 w) (fuel + 1) listed a w :=
  tkE hi hc hQ hS hy h
theorem zp1 : type_of% @List.getElem_toArray := @List.getElem_toArray
theorem zp2 : type_of% @List.getElem_cons_zero := @List.getElem_cons_zero
theorem zp3 : type_of% @List.getElem_cons_succ := @List.getElem_cons_succ
theorem zp4 : type_of% @List.setIfInBounds_toArray := @List.setIfInBounds_toArray
theorem zp5 : type_of% @List.set_cons_zero := @List.set_cons_zero
theorem zp6 : type_of% @List.set_cons_succ := @List.set_cons_succ
end Go.Proofs.Ytegdigfcgeoboaa
namespace Go.Proofs.Ytegdigfcgeoboaa
open Go.RowKit
theorem wp_at {P : Program} {c : Code} {Q : Exit → Act → World → Prop} {a : Act} {w : World} (S : World → Prop) (hS : S w) (h : ∀ W, S W → c.wp P Q a W) : c.wp P Q a w := h w hS
theorem hide {p : Prop} (h : p) : Hid p := h
theorem bcell {W w1 : World} {B : Nat} (hb : Below B W w1) : (∀ b o, b < B → w1.cell? ⟨b, o, none⟩ = W.cell? ⟨b, o, none⟩) ∧ (∀ b o, b < B → w1.frozen? ⟨b, o, none⟩ = W.frozen? ⟨b, o, none⟩) :=
 ⟨fun b o h => hb.cell (p := ⟨b, o, none⟩) h, fun b o h => hb.frozen (p := ⟨b, o, none⟩) h⟩
theorem of_drew {B : Nat} {w w1 : World} (h : Below B w.drew w1) : Below B w w1 := ⟨h.os, h.tape, h.output, h.size, h.block⟩
theorem below_drewN {B : Nat} {a w : World} (h : Below B a w) (n : Nat) : Below B a (w.drewN n) := ⟨h.os, h.tape, h.output, h.size, h.block⟩
abbrev Kept (w w' : World) : Prop := Below w.heap.size w w'
theorem Kept.trans' {a b c : World} (h : Kept a b) (k : Kept b c) : Kept a c := h.trans (k.mono h.size)
theorem since_keep {N : Nat} {W w' w1 : World} (h : (∀ b o, b < N → w'.cell? ⟨b, o, none⟩ = W.cell? ⟨b, o, none⟩) ∧ Below N W w') (hN : N ≤ W.heap.size) (hk : Kept w' w1) :
  (∀ b o, b < N → w1.cell? ⟨b, o, none⟩ = W.cell? ⟨b, o, none⟩) ∧ Below N W w1 := by
 have hs := h.2.size
 exact ⟨fun b o hb => (hk.cell (p := ⟨b, o, none⟩) (by show b < _; omega)).trans (h.1 b o hb), h.2.trans (hk.mono (by omega))⟩
theorem since_start {N : Nat} {W : World} : (∀ b o, b < N → W.drew.cell? ⟨b, o, none⟩ = W.cell? ⟨b, o, none⟩) ∧ Below N W W.drew := ⟨fun _ _ _ => rfl, (Below.refl _ _).drew⟩
theorem since_kept {B : Nat} {w W w1 : World} (h0 : Below B w W) (h : (∀ b o, b < W.heap.size → w1.cell? ⟨b, o, none⟩ = W.cell? ⟨b, o, none⟩) ∧ Below W.heap.size W w1) (hB : B ≤ w.heap.size) : Below B w w1 :=
 h0.trans (h.2.mono (Nat.le_trans hB h0.size))
section ranges
variable {w w' : World} {b o B : Nat} {cs : List Value}
theorem range_below (h : w.rangeAt b o cs) (hb : Below B w w') (hlt : b < B) : w'.rangeAt b o cs := fun j v hv => (hb.cell (p := ⟨b, o + j, none⟩) hlt).trans (h j v hv)
theorem range_nil : w.rangeAt b o [] := fun j v h => by simp at h
theorem heap_at {w : World} {n : Nat} (o : Obj) (hn : n = w.heap.size) : (w.alloc o).heap[n]? = some o := by subst hn; exact heap_alloc_new w o
theorem heap_past {w : World} {n : Nat} {o u : Obj} (h : w.heap[n]? = some u) : (w.alloc o).heap[n]? = some u := (Below.heap_alloc w o n (Array.getElem?_eq_some_iff.1 h).1).trans h
theorem heap_drew {w : World} {n : Nat} {u : Obj} (h : w.heap[n]? = some u) : w.drew.heap[n]? = some u := h
theorem heap_kept {w w' : World} {n : Nat} {u : Obj} (hk : Kept w w') (h : w.heap[n]? = some u) : w'.heap[n]? = some u := (hk.block n (Array.getElem?_eq_some_iff.1 h).1).trans h
theorem heap_row {w : World} {n : Nat} {c c' : Array Value} {t : TypeId} {fr : Nat × Nat} (h : w.heap[n]? = some (.cells c t fr)) : (w.setRow n c').heap[n]? = some (.cells c' t fr) := by
 simp [World.setRow, Array.getElem?_modify, h]
theorem heap_row_other {w : World} {n m : Nat} {c' : Array Value} {u : Obj} (hne : n ≠ m) (h : w.heap[m]? = some u) : (w.setRow n c').heap[m]? = some u := by
 simp [World.setRow, Array.getElem?_modify, h, hne]
theorem size_setRow {w : World} {n : Nat} {c' : Array Value} : (w.setRow n c').heap.size = w.heap.size := by simp [World.setRow]
theorem below_row {B n : Nat} {w0 w : World} (hb : Below B w0 w) (hBg : B ≤ n) (cs : Array Value) : Below B w0 (w.setRow n cs) :=
 hb.trans ⟨rfl, rfl, rfl, by rw [size_setRow]; exact Nat.le_refl _, fun k hk => by simp [World.setRow, Array.getElem?_modify, show n ≠ k by omega]⟩
end ranges
abbrev low (B : Nat) : Nat → Prop := fun b => b < B
abbrev apart (w : World) (v : Value) : Nat → Prop := fun b => b < w.heap.size ∧ v.ownBlock ≠ some b
structure Ty (α : Type) where
 size : Nat
 rel : World → (Nat → Prop) → α → List Value → Prop
 len : ∀ {w F x cs}, rel w F x cs → cs.length = size
 keep : ∀ {w w' F F' x cs}, rel w F x cs → (∀ b, F b → F' b) → (∀ b o, F b → w'.cell? ⟨b, o, none⟩ = w.cell? ⟨b, o, none⟩) → rel w' F' x cs
def Ty.flat {α : Type} (size : Nat) (f : α → List Value) (ok : α → Prop) (h : ∀ x, (f x).length = size) : Ty α :=
 ⟨size, fun _ _ x cs => cs = f x ∧ ok x, fun {_ _ x _} hr => by rw [hr.1]; exact h x, fun hr _ _ => hr⟩
def Sl {α : Type} (t : Ty α) (w : World) (F : Nat → Prop) (A : Option Addr) (n : Nat) (xs : List α) : Prop :=
 xs.length = n ∧ ∀ i x, xs[i]? = some x → ∃ b off cs, A = some ⟨b, off, none⟩ ∧ F b ∧ t.rel w F x cs ∧ w.rangeAt b (off + i * t.size) cs
section slices
variable {α : Type} {t : Ty α} {w w' : World} {B B' n : Nat} {F F' : Nat → Prop} {A : Option Addr} {xs : List α}
theorem Sl.nil (t : Ty α) (w : World) (F : Nat → Prop) (A : Option Addr) : Sl t w F A 0 [] := ⟨rfl, fun i x h => by simp at h⟩
theorem Sl.keep (h : Sl t w F A n xs) (hF : ∀ b, F b → F' b) (hk : ∀ b o, F b → w'.cell? ⟨b, o, none⟩ = w.cell? ⟨b, o, none⟩) : Sl t w' F' A n xs :=
 ⟨h.1, fun i x hx => by
  obtain ⟨b, off, cs, e, hb, hr, hc⟩ := h.2 i x hx
  exact ⟨b, off, cs, e, hF b hb, t.keep hr hF hk, fun j v hv => (hk _ _ hb).trans (hc j v hv)⟩⟩
theorem Sl.below (h : Sl t w (low B) A n xs) (hb : Below B w w') : Sl t w' (low B) A n xs := h.keep (fun _ hb => hb) fun b o hlt => hb.cell (p := ⟨b, o, none⟩) hlt
theorem Sl.more (h : Sl t w (low B) A n xs) (hB : B ≤ B') : Sl t w (low B') A n xs := h.keep (fun _ hb => Nat.lt_of_lt_of_le hb hB) fun _ _ _ => rfl
theorem Sl.kept (h : Sl t w (low w.heap.size) A n xs) (hb : Kept w w') : Sl t w' (low w'.heap.size) A n xs := (h.below hb).more hb.size
theorem Sl.at {k : Nat} (h : Sl t w F A n xs) (hk : k < n) : ∃ x b off cs, xs[k]? = some x ∧ A = some ⟨b, off, none⟩ ∧ F b ∧ t.rel w F x cs ∧ w.rangeAt b (off + k * t.size) cs := by
 have hl : k < xs.length := by rw [h.1]; exact hk
 obtain ⟨b, off, cs, e, hb, hr, hc⟩ := h.2 k xs[k] (List.getElem?_eq_getElem hl)
 exact ⟨xs[k], b, off, cs, List.getElem?_eq_getElem hl, e, hb, hr, hc⟩
end slices
theorem grown_of_kept {w w' : World} (h : Kept w w') (row : Option Nat) : w.grownBy w' row := ⟨h.os, h.tape, h.output, h.size, fun k hk _ => h.block k hk⟩
theorem own_kept {w w' : World} {base : Nat} {e : TypeId} {size n : Nat} {v : Value} {xs : List Value} (h : w.ownsRow base e size v n xs) (hk : Kept w w') : w'.ownsRow base e size v n xs :=
 h.kept (grown_of_kept hk none) (by cases hv : v.ownBlock <;> simp)
def Own {α : Type} (t : Ty α) (e : TypeId) (base : Nat) (w : World) (v : Value) (n : Nat) (xs : List α) : Prop :=
 xs.length = n ∧ ∃ cells, w.ownsRow base e t.size v n cells ∧ ∀ i x, xs[i]? = some x → t.rel w (apart w v) x ((cells.drop (i * t.size)).take t.size)
section own
variable {α : Type} {t : Ty α} {e : TypeId} {w w' : World} {base base' n : Nat} {v : Value} {xs : List α}
theorem Own.nil (t : Ty α) (e : TypeId) (base : Nat) (w : World) : Own t e base w (.slice none 0 0) 0 [] :=
 ⟨rfl, [], World.ownsRow_nil w base e t.size, fun i x h => by simp at h⟩
theorem Own.kept (h : Own t e base w v n xs) (hk : Kept w w') : Own t e base w' v n xs := by
 obtain ⟨h1, cells, h2, h3⟩ := h
 refine ⟨h1, cells, own_kept h2 hk, fun i x hx => t.keep (h3 i x hx) (fun b hb => ⟨Nat.lt_of_lt_of_le hb.1 hk.size, hb.2⟩) fun b o hb => hk.cell (p := ⟨b, o, none⟩) hb.1⟩
theorem Own.drew (h : Own t e base w v n xs) : Own t e base w.drew v n xs := h.kept ((Below.refl _ _).drew)
theorem Own.alloc (h : Own t e base w v n xs) (o : Obj) : Own t e base (w.alloc o) v n xs := h.kept ((Below.refl _ _).alloc (Nat.le_refl _) o)
theorem Own.lower (h : Own t e base w v n xs) (hb : base' ≤ base) : Own t e base' w v n xs := by
 obtain ⟨h1, cells, h2, h3⟩ := h
 refine ⟨h1, cells, ⟨h2.1, ?_⟩, h3⟩
 rcases h2.2 with h | ⟨g, cap, cur, hv, hg, r⟩
 ·exact .inl h
 ·exact .inr ⟨g, cap, cur, hv, by omega, r⟩
theorem Own.lt (h : Own t e base w v n xs) {g : Nat} (hg : v.ownBlock = some g) : base ≤ g ∧ g < w.heap.size := by
 obtain ⟨_, cells, h2, _⟩ := h
 exact h2.lt g hg
theorem Own.form (h : Own t e base w v n xs) : (v = .slice none 0 0 ∧ n = 0) ∨ ∃ g cap, v = .slice (some ⟨g, 0, none⟩) n cap ∧ base ≤ g ∧ g < w.heap.size ∧ n ≤ cap ∧ cap ≤ maxLen := by
 obtain ⟨_, cells, h2, _⟩ := h
 rcases h2.2 with h | ⟨g, cap, cur, hv, hg, hh, hn, hc, _⟩
 ·exact .inl h
 ·exact .inr ⟨g, cap, hv, hg, (Array.getElem?_eq_some_iff.1 hh).1, hn, hc⟩
theorem Own.sl {A : Option Addr} {m c : Nat} (h : Own t e base w (.slice A m c) n xs) : Sl t w (low w.heap.size) A n xs := by
 obtain ⟨h1, cells, h2, h3⟩ := h
 refine ⟨h1, fun i x hx => ?_⟩
 have hi : i < n := by rw [← h1]; exact (List.getElem?_eq_some_iff.1 hx).1
 rcases h2.2 with ⟨_, h0⟩ | ⟨g, cap, cur, hv, hg, hh, _, _, _, htk⟩
 ·omega
 ·injection hv with hA _ _
  have hlt := (Array.getElem?_eq_some_iff.1 hh).1
  have hr := h3 i x hx
  refine ⟨g, 0, _, hA, hlt, t.keep hr (fun b hb => hb.1) (fun _ _ _ => rfl), fun j u hu => ?_⟩
  have hj : j < t.size := by rw [← t.len hr]; exact (List.getElem?_eq_some_iff.1 hu).1
  rw [List.getElem?_take_of_lt hj, List.getElem?_drop] at hu
  rw [← h2.cells (g := g) (by rw [hA]; rfl) _ _ hu, Addr.add_mid]; simp
theorem Own.sl_of {A : Option Addr} {m c : Nat} (h : Own t e base w (.slice A m c) n xs) (F : Nat → Prop) (hF : ∀ g, base ≤ g → g < w.heap.size → F g)
  (hrel : ∀ x cs, t.rel w (apart w (.slice A m c)) x cs → t.rel w F x cs) : Sl t w F A n xs := by
 obtain ⟨h1, cells, h2, h3⟩ := h
 refine ⟨h1, fun i x hx => ?_⟩
 have hi : i < n := by rw [← h1]; exact (List.getElem?_eq_some_iff.1 hx).1
 rcases h2.2 with ⟨_, h0⟩ | ⟨g, cap, cur, hv, hg, hh, _, _, _, htk⟩
 ·omega
 ·injection hv with hA _ _
  have hlt := (Array.getElem?_eq_some_iff.1 hh).1
  have hr := h3 i x hx
  refine ⟨g, 0, _, hA, hF g hg hlt, hrel _ _ hr, fun j u hu => ?_⟩
  have hj : j < t.size := by rw [← t.len hr]; exact (List.getElem?_eq_some_iff.1 hu).1
  rw [List.getElem?_take_of_lt hj, List.getElem?_drop] at hu
  rw [← h2.cells (g := g) (by rw [hA]; rfl) _ _ hu, Addr.add_mid]; simp
def Flat (t : Ty α) : Prop := ∀ {w w' F F' x cs}, t.rel w F x cs → t.rel w' F' x cs
theorem Own.setCell (h : Own t e base w v n xs) (ht : Flat t) {p : Addr} (hp : p.block < base) (u : Value) : Own t e base (w.setCell p u) v n xs := by
 obtain ⟨h1, cells, h2, h3⟩ := h
 exact ⟨h1, cells, ownsRow_setCell_below h2 hp u, fun i x hx => ht (h3 i x hx)⟩
theorem Own.isSlice (h : Own t e base w v n xs) : ∃ A c, v = .slice A n c ∧ n ≤ c ∧ c ≤ maxLen := by
 rcases h.form with ⟨rfl, rfl⟩ | ⟨g, cap, rfl, _, _, h1, h2⟩
 ·exact ⟨none, 0, rfl, Nat.le_refl _, by decide⟩
 ·exact ⟨_, cap, rfl, h1, h2⟩
end own
theorem wp_append_el {α : Type} {T : Ty α} {P : Program} {W : World} {o : Oper} {a : Act} {K : Act → World → Prop} {Q : Exit → Act → World → Prop} (s x : Operand) (t : TypeId)
  (ho : o.op = .call { callee := .builtin .append, args := #[s, x], argTypes := #[t, t] })
  (base : Nat) (e : TypeId) (i : TypeInfo) (z : Value) (bytes : Nat) (ht : P.underlying t = some (.slice e)) (hi : P.info? e = some i) (hz : i.zero = some z)
  (hsize : i.size = T.size) (hby : i.bytes = bytes) (hzs : z.cells.size = T.size) (hsz : 0 < T.size)
  (v : Value) (n : Nat) (xs : List α) (hs : a.eval s = v) (hown : Own T e base W v n xs)
  (gb : Nat) (cs : Array Value) (te : TypeId) (el : α) (hx : a.eval x = .slice (some ⟨gb, 0, none⟩) 1 1) (hblk : W.heap[gb]? = some (.cells cs te (0, 0)))
  (hrel : T.rel W (apart W v) el cs.toList) (h1 : ∀ u ∈ cs.toList, u.oneCell' = true)
  (h63 : n + 1 ≤ maxLen) (hbytes : (n + 1) * bytes ≤ 140737488355328) (hbase : base ≤ W.heap.size)
  (h : ∀ g cap w', Own T e base w' (.slice (some ⟨g, 0, none⟩) (n + 1) cap) (n + 1) (xs ++ [el]) → W.grownBy w' v.ownBlock → Below base W w' → (v.ownBlock = some g ∨ g = W.heap.size) → g < w'.heap.size →
   K (a.put o.dst (.slice (some ⟨g, 0, none⟩) (n + 1) cap)) w') : o.wp P a W K Q := by
 obtain ⟨hl, cells, h2, h3⟩ := hown
 refine wp_append_lies W s x t ho base e i z T.size bytes ht hi hz hsize hby hzs hsz v n cells hs h2 ⟨gb, 0, none⟩ 1 1 cs.toList hx (by rw [T.len hrel]; omega) (World.news_of_block hblk) h1 (by omega) h63 hbytes hbase W.heap.size rfl ?_
 intro g cap w' ho' hg hat hlt
 have hc : cells.length = n * T.size := h2.1
 refine h g cap w' ⟨by simp [hl], cells ++ cs.toList, ho', fun j y hy => ?_⟩ hg ((Below.refl _ _).grown hg hbase (fun k hk => (h2.lt k hk).1)) hat hlt
 have hk : ∀ b o, apart W v b → w'.cell? ⟨b, o, none⟩ = W.cell? ⟨b, o, none⟩ := fun b o hb => World.cell?_of_block (a := ⟨b, o, none⟩) (hg.block b hb.1 (fun e => hb.2 e.symm))
 have hF : ∀ b, apart W v b → apart w' (.slice (some ⟨g, 0, none⟩) (n + 1) cap) b := fun b hb => ⟨Nat.lt_of_lt_of_le hb.1 hg.size, fun e => by
  have e' : g = b := by simpa [Value.ownBlock] using e
  rcases hat with h | h
  ·exact hb.2 (by rw [h, e'])
  ·have := hb.1; omega⟩
 by_cases hj : j < n
 ·rw [List.getElem?_append_left (by omega)] at hy
  have h4 := h3 j y hy
  have hle : (j + 1) * T.size ≤ n * T.size := Nat.mul_le_mul_right _ hj
  rw [Nat.succ_mul] at hle
  have e1 : ((cells ++ cs.toList).drop (j * T.size)).take T.size = (cells.drop (j * T.size)).take T.size := by
   rw [List.drop_append_of_le_length (by omega), List.take_append_of_le_length (by simp; omega)]
  rw [e1]
  exact T.keep h4 hF hk
 ·have hjn : j = n := by
   have := (List.getElem?_eq_some_iff.1 hy).1
   simp at this; omega
  subst hjn
  rw [List.getElem?_append_right (by omega), hl, Nat.sub_self] at hy
  have ey : el = y := by simpa using hy
  rw [← ey, ← hc, List.drop_left, ← T.len hrel, List.take_length]
  exact T.keep hrel hF hk
theorem wpList_append_el {α : Type} {T : Ty α} {P : Program} {W : World} {ops : Array Oper} {rest : List Oper} {o : Oper} {a : Act} {Q : Exit → Act → World → Prop} (hgd : o.guard = none) (s x : Operand) (t : TypeId)
  (ho : o.op = .call { callee := .builtin .append, args := #[s, x], argTypes := #[t, t] })
  (base : Nat) (e : TypeId) (i : TypeInfo) (z : Value) (bytes : Nat) (ht : P.underlying t = some (.slice e)) (hi : P.info? e = some i) (hz : i.zero = some z)
  (hsize : i.size = T.size) (hby : i.bytes = bytes) (hzs : z.cells.size = T.size) (hsz : 0 < T.size)
  (v : Value) (n : Nat) (xs : List α) (hs : a.eval s = v) (hown : Own T e base W v n xs)
  (gb : Nat) (cs : Array Value) (te : TypeId) (el : α) (hx : a.eval x = .slice (some ⟨gb, 0, none⟩) 1 1) (hblk : W.heap[gb]? = some (.cells cs te (0, 0)))
  (hrel : T.rel W (apart W v) el cs.toList) (h1 : ∀ u ∈ cs.toList, u.oneCell' = true)
  (h63 : n + 1 ≤ maxLen) (hbytes : (n + 1) * bytes ≤ 140737488355328) (hbase : base ≤ W.heap.size)
  (h : ∀ g cap w', Own T e base w' (.slice (some ⟨g, 0, none⟩) (n + 1) cap) (n + 1) (xs ++ [el]) → W.grownBy w' v.ownBlock → Below base W w' → (v.ownBlock = some g ∨ g = W.heap.size) → g < w'.heap.size →
   wpList P ops Q rest (a.put o.dst (.slice (some ⟨g, 0, none⟩) (n + 1) cap)) w') : wpList P ops Q (o :: rest) a W :=
 wpList_plain hgd fun _ hK => wp_append_el s x t ho base e i z bytes ht hi hz hsize hby hzs hsz v n xs hs hown gb cs te el hx hblk hrel h1 h63 hbytes hbase fun g cap w' h1 h2 h3 h4 h5 => hK _ _ (h g cap w' h1 h2 h3 h4 h5)
theorem step_append_el {α : Type} {T : Ty α} {P : Program} {W : World} {ops : Array Oper} {o : Oper} {a : Act} {K : Act → World → Prop} {Q : Exit → Act → World → Prop} {E : Prop} (hgd : o.guard = none) (s x : Operand) (t : TypeId)
  (ho : o.op = .call { callee := .builtin .append, args := #[s, x], argTypes := #[t, t] })
  (base : Nat) (e : TypeId) (i : TypeInfo) (z : Value) (bytes : Nat) (ht : P.underlying t = some (.slice e)) (hi : P.info? e = some i) (hz : i.zero = some z)
  (hsize : i.size = T.size) (hby : i.bytes = bytes) (hzs : z.cells.size = T.size) (hsz : 0 < T.size)
  (v : Value) (n : Nat) (xs : List α) (hs : a.eval s = v) (hown : Own T e base W v n xs)
  (gb : Nat) (cs : Array Value) (te : TypeId) (el : α) (hx : a.eval x = .slice (some ⟨gb, 0, none⟩) 1 1) (hblk : W.heap[gb]? = some (.cells cs te (0, 0)))
  (hrel : T.rel W (apart W v) el cs.toList) (h1 : ∀ u ∈ cs.toList, u.oneCell' = true)
  (h63 : n + 1 ≤ maxLen) (hbytes : (n + 1) * bytes ≤ 140737488355328) (hbase : base ≤ W.heap.size)
  (h : ∀ g cap w', Own T e base w' (.slice (some ⟨g, 0, none⟩) (n + 1) cap) (n + 1) (xs ++ [el]) → W.grownBy w' v.ownBlock → Below base W w' → (v.ownBlock = some g ∨ g = W.heap.size) → g < w'.heap.size →
   K (a.put o.dst (.slice (some ⟨g, 0, none⟩) (n + 1) cap)) w') : if Region.wanted o (yielded ops a.tmps) = true then Oper.wp P o a W K Q else E := by
 have hw : Region.wanted o (yielded ops a.tmps) = true := by simp [Region.wanted, hgd]
 rw [if_pos hw]
 exact wp_append_el s x t ho base e i z bytes ht hi hz hsize hby hzs hsz v n xs hs hown gb cs te el hx hblk hrel h1 h63 hbytes hbase h
theorem ret_int {k : IntKind} {a b : Int} (h : a = b) : Ending.returned (.int k a) = .returned (.int k b) := by rw [h]
def u8k (n : Int) : Prop := 0 ≤ n ∧ n < 256
def u32k (n : Int) : Prop := 0 ≤ n ∧ n < 4294967296
def i64k (n : Int) : Prop := -9223372036854775808 ≤ n ∧ n ≤ 9223372036854775807
structure It where
 ty : Int
 tg : Int
 size : Int
 data : Int
def It.cells (x : It) : List Value := [.int .u8 x.ty, .int .u8 x.tg, .int .i64 x.size, .int .u32 x.data]
def It.ok (x : It) : Prop := u8k x.ty ∧ u8k x.tg ∧ i64k x.size ∧ u32k x.data
def itT : Ty It := Ty.flat 4 It.cells It.ok (fun _ => rfl)
def u8T : Ty Int := Ty.flat 1 (fun n => [.int .u8 n]) u8k (fun _ => rfl)
def u32T : Ty Int := Ty.flat 1 (fun n => [.int .u32 n]) u32k (fun _ => rfl)
def It.wide (x : It) : Bool := decide (x.ty ≤ 2) && decide (x.tg ≤ 15) && ((x.size == 0 && x.data == 0) || (x.size == 1 && decide (x.data < 256)) || (x.size == 2 && decide (x.data < 65536)) || x.size == 4)
def byteI (n : Int) (k : Nat) : Int := n / 256 ^ k % 256
def headI (x : It) : Int := x.tg * 16 + x.ty * 4 + (if x.size = 4 then 3 else x.size)
def It.bytes (x : It) : List Int := headI x :: (List.range x.size.toNat).map (byteI x.data)
def joinB (l : List It) : List Int := l.flatMap It.bytes
theorem joinB_snoc (l : List It) (x : It) : joinB (l ++ [x]) = joinB l ++ x.bytes := by simp [joinB]
def sizeH (h : Int) : Nat := if h % 4 = 3 then 4 else (h % 4).toNat
def numB : List Int → Int
 | [] => 0
 | b :: l => b + 256 * numB l
def badI : It := ⟨0, 0, -1, 0⟩
def itemH (h : Int) (r : List Int) : It := ⟨h / 4 % 4, h / 16, sizeH h, numB (r.take (sizeH h))⟩
def endsH (h : Int) (r : List Int) : Bool := h / 4 % 4 == 3 || decide (r.length < sizeH h)
def yl : Nat → List Int → List It
 | 0, _ => []
 | _ + 1, [] => []
 | f + 1, h :: r => if endsH h r then [badI] else itemH h r :: yl f (r.drop (sizeH h))
theorem yl_more : ∀ (f : Nat) (b : List Int), b.length ≤ f → yl f b = yl b.length b
 | 0, b, h => by rw [List.eq_nil_of_length_eq_zero (l := b) (by omega)]; rfl
 | f + 1, [], _ => rfl
 | f + 1, h :: r, hl => by
  rw [List.length_cons] at hl ⊢
  unfold yl
  rw [yl_more f _ (by rw [List.length_drop]; omega), yl_more r.length _ (by rw [List.length_drop]; omega)]
def items (b : List Int) : List It := yl b.length b
theorem items_nil : items [] = [] := rfl
theorem items_bad {h : Int} {r : List Int} (hb : endsH h r = true) : items (h :: r) = [badI] := by
 unfold items; rw [List.length_cons]; unfold yl; rw [if_pos hb]
theorem items_good {h : Int} {r : List Int} (hb : endsH h r = false) : items (h :: r) = itemH h r :: items (r.drop (sizeH h)) := by
 unfold items
 rw [List.length_cons]
 conv => lhs; unfold yl
 rw [if_neg (by simp [hb]), yl_more r.length _ (by rw [List.length_drop]; omega)]
def goodB (b : List Int) : Bool := (items b).all (fun x => decide (0 ≤ x.size))
theorem items_len : ∀ (n : Nat) (b : List Int), b.length ≤ n → (items b).length ≤ b.length
 | 0, b, h => by rw [List.eq_nil_of_length_eq_zero (l := b) (by omega)]; exact Nat.le_refl _
 | n + 1, [], _ => Nat.le_refl _
 | n + 1, h :: r, hl => by
  cases he : endsH h r with
  | true => rw [items_bad he]; simp
  | false =>
   rw [items_good he]
   have := items_len n (r.drop (sizeH h)) (by rw [List.length_drop]; rw [List.length_cons] at hl; omega)
   rw [List.length_drop] at this
   simp only [List.length_cons]
   omega
theorem numB_range : ∀ (l : List Int), (∀ x ∈ l, u8k x) → 0 ≤ numB l ∧ numB l < 256 ^ l.length
 | [], _ => by simp [numB]
 | b :: l, h => by
  have h1 := numB_range l (fun x hx => h x (List.mem_cons_of_mem _ hx))
  have h2 := h b List.mem_cons_self
  unfold u8k at h2
  simp only [numB, List.length_cons, Int.pow_succ]
  omega
theorem sizeH_le (h : Int) : sizeH h ≤ 4 := by unfold sizeH; split <;> omega
theorem sizeH_cases (h : Int) : sizeH h = 0 ∨ sizeH h = 1 ∨ sizeH h = 2 ∨ sizeH h = 4 := by unfold sizeH; split <;> omega
theorem itemH_wide {h : Int} {r : List Int} (hh : u8k h) (hr : ∀ x ∈ r, u8k x) (he : endsH h r = false) : (itemH h r).wide = true := by
 unfold endsH at he
 simp only [Bool.or_eq_false_iff, beq_eq_false_iff_ne, decide_eq_false_iff_not] at he
 obtain ⟨h1, h2⟩ := he
 unfold u8k at hh
 have h3 := numB_range (r.take (sizeH h)) (fun x hx => hr x (List.mem_of_mem_take hx))
 have h4 : (r.take (sizeH h)).length = sizeH h := by rw [List.length_take]; omega
 rw [h4] at h3
 unfold It.wide itemH
 rcases sizeH_cases h with e | e | e | e <;> rw [e] at h3 ⊢ <;> simp [numB] at h3 ⊢ <;> omega
theorem numB_bytes (d : Int) (hd : u32k d) {s : Nat} (hs : s = 0 ∧ d = 0 ∨ s = 1 ∧ d < 256 ∨ s = 2 ∧ d < 65536 ∨ s = 4) : numB ((List.range s).map (byteI d)) = d := by
 unfold u32k at hd
 rcases hs with ⟨rfl, h⟩ | ⟨rfl, h⟩ | ⟨rfl, h⟩ | rfl
 ·rw [h]; rfl
 ·show byteI d 0 + 256 * 0 = d
  unfold byteI; simp; omega
 ·show byteI d 0 + 256 * (byteI d 1 + 256 * 0) = d
  unfold byteI; simp; omega
 ·show byteI d 0 + 256 * (byteI d 1 + 256 * (byteI d 2 + 256 * (byteI d 3 + 256 * 0))) = d
  unfold byteI; simp; omega
theorem byteI_u8 (n : Int) (k : Nat) : u8k (byteI n k) := by unfold byteI u8k; omega
theorem wide_iff {x : It} (h : x.wide = true) (hok : x.ok) : 0 ≤ x.ty ∧ x.ty ≤ 2 ∧ 0 ≤ x.tg ∧ x.tg ≤ 15 ∧ (x.size = 0 ∧ x.data = 0 ∨ x.size = 1 ∧ x.data < 256 ∨ x.size = 2 ∧ x.data < 65536 ∨ x.size = 4) := by
 obtain ⟨h1, h2, h3, h4⟩ := hok
 unfold u8k at h1 h2
 unfold It.wide at h
 simp only [Bool.and_eq_true, Bool.or_eq_true, decide_eq_true_eq, beq_iff_eq] at h
 refine ⟨h1.1, h.1.1, h2.1, h.1.2, ?_⟩
 rcases h.2 with ((h | h) | h) | h
 ·exact .inl h
 ·exact .inr (.inl h)
 ·exact .inr (.inr (.inl h))
 ·exact .inr (.inr (.inr h))
theorem head_of {x : It} (h : x.wide = true) (hok : x.ok) : u8k (headI x) ∧ headI x / 4 % 4 = x.ty ∧ headI x / 16 = x.tg ∧ (sizeH (headI x) : Int) = x.size := by
 obtain ⟨h1, h2, h3, h4, h5⟩ := wide_iff h hok
 unfold headI sizeH u8k
 rcases h5 with ⟨e, _⟩ | ⟨e, _⟩ | ⟨e, _⟩ | e <;> rw [e] <;> simp <;> (try split) <;> omega
theorem items_bytes {x : It} (h : x.wide = true) (hok : x.ok) (r : List Int) : items (x.bytes ++ r) = x :: items r := by
 obtain ⟨g1, g2, g3, g4⟩ := head_of h hok
 obtain ⟨h1, h2, h3, h4, h5⟩ := wide_iff h hok
 have hs : sizeH (headI x) = x.size.toNat := by omega
 have hl : ((List.range x.size.toNat).map (byteI x.data)).length = x.size.toNat := by simp
 have he : endsH (headI x) ((List.range x.size.toNat).map (byteI x.data) ++ r) = false := by
  unfold endsH
  rw [g2, hs, List.length_append, hl]
  simp only [Bool.or_eq_false_iff, beq_eq_false_iff_ne, decide_eq_false_iff_not]
  omega
 unfold It.bytes
 rw [List.cons_append, items_good he]
 have hn := numB_bytes x.data hok.2.2.2 (s := x.size.toNat) (by rcases h5 with ⟨e, h⟩ | ⟨e, h⟩ | ⟨e, h⟩ | e <;> rw [e] <;> simp <;> first | exact h | omega)
 unfold itemH
 rw [g2, g3, g4, hs, List.take_left' hl, List.drop_left' hl, hn]
theorem items_join : ∀ (l : List It), (∀ x ∈ l, x.wide = true ∧ x.ok) → items (joinB l) = l
 | [], _ => rfl
 | x :: l, h => by
  have e : joinB (x :: l) = x.bytes ++ joinB l := by simp [joinB]
  rw [e, items_bytes (h x List.mem_cons_self).1 (h x List.mem_cons_self).2, items_join l (fun y hy => h y (List.mem_cons_of_mem _ hy))]
theorem bytes_num {l : List Int} (hl : ∀ x ∈ l, u8k x) : ∀ k x, l[k]? = some x → byteI (numB l) k = x := by
 induction l with
 | nil => intro k x h; cases k <;> simp at h
 | cons b l ih =>
  have hb := hl b List.mem_cons_self
  have ih' := ih (fun x hx => hl x (List.mem_cons_of_mem _ hx))
  unfold u8k at hb
  intro k x h
  cases k with
  | zero =>
   simp at h; subst h
   unfold byteI numB; simp; omega
  | succ k =>
   rw [List.getElem?_cons_succ] at h
   rw [← ih' k x h]
   unfold byteI
   show (b + 256 * numB l) / 256 ^ (k + 1) % 256 = _
   have e : (b + 256 * numB l) / 256 ^ (k + 1) = (b + 256 * numB l) / 256 / 256 ^ k := by
    rw [Int.pow_succ, Int.mul_comm ((256 : Int) ^ k) 256]
    exact (Int.ediv_ediv_of_nonneg (by decide)).symm
   rw [e, show (b + 256 * numB l) / 256 = numB l by omega]
theorem map_bytes {l : List Int} (hl : ∀ x ∈ l, u8k x) : (List.range l.length).map (byteI (numB l)) = l := by
 apply List.ext_getElem?
 intro k
 rw [List.getElem?_map]
 by_cases hk : k < l.length
 ·rw [List.getElem?_range hk, List.getElem?_eq_getElem hk]
  simp only [Option.map_some]
  rw [bytes_num hl k _ (List.getElem?_eq_getElem hk)]
 ·rw [List.getElem?_eq_none (by simp; omega), List.getElem?_eq_none (by omega)]; rfl
theorem bytes_item {h : Int} {r : List Int} (hh : u8k h) (hr : ∀ x ∈ r, u8k x) (he : endsH h r = false) : (itemH h r).bytes = h :: r.take (sizeH h) := by
 unfold endsH at he
 simp only [Bool.or_eq_false_iff, beq_eq_false_iff_ne, decide_eq_false_iff_not] at he
 have hl : (r.take (sizeH h)).length = sizeH h := by rw [List.length_take]; omega
 have hm := map_bytes (l := r.take (sizeH h)) (fun x hx => hr x (List.mem_of_mem_take hx))
 rw [hl] at hm
 have h1 : headI (itemH h r) = h := by
  unfold headI itemH
  unfold u8k at hh
  have := he.1
  unfold sizeH
  simp only
  split <;> split <;> omega
 unfold It.bytes
 rw [h1]
 show h :: (List.range ((sizeH h : Int)).toNat).map (byteI (numB (r.take (sizeH h)))) = _
 rw [Int.toNat_natCast, hm]
theorem join_items : ∀ (n : Nat) (b : List Int), b.length ≤ n → (∀ x ∈ b, u8k x) → goodB b = true → joinB (items b) = b ∧ ∀ x ∈ items b, x.wide = true
 | 0, b, h, _, _ => by rw [List.eq_nil_of_length_eq_zero (l := b) (by omega)]; exact ⟨rfl, fun x hx => by cases hx⟩
 | n + 1, [], _, _, _ => ⟨rfl, fun x hx => by cases hx⟩
 | n + 1, h :: r, hl, hu, hg => by
  have hh := hu h List.mem_cons_self
  have hr := fun x hx => hu x (List.mem_cons_of_mem h hx)
  cases he : endsH h r with
  | true => unfold goodB at hg; rw [items_bad he] at hg; simp [badI] at hg
  | false =>
   have hg2 : goodB (r.drop (sizeH h)) = true := by
    unfold goodB at hg ⊢
    rw [items_good he] at hg
    simp only [List.all_cons, Bool.and_eq_true] at hg
    exact hg.2
   obtain ⟨i1, i2⟩ := join_items n (r.drop (sizeH h)) (by rw [List.length_drop]; rw [List.length_cons] at hl; omega) (fun x hx => hr x (List.mem_of_mem_drop hx)) hg2
   rw [items_good he]
   refine ⟨?_, fun x hx => ?_⟩
   ·have e : joinB (itemH h r :: items (r.drop (sizeH h))) = (itemH h r).bytes ++ joinB (items (r.drop (sizeH h))) := by simp [joinB]
    rw [e, i1, bytes_item hh hr he, List.cons_append, List.take_append_drop]
   ·rcases List.mem_cons.1 hx with rfl | h1
    ·exact itemH_wide hh hr he
    ·exact i2 x h1
theorem items_ok : ∀ (n : Nat) (b : List Int), b.length ≤ n → (∀ x ∈ b, u8k x) → ∀ x ∈ items b, x.ok
 | 0, b, h, _, x, hx => by rw [List.eq_nil_of_length_eq_zero (l := b) (by omega)] at hx; cases hx
 | n + 1, [], _, _, x, hx => by cases hx
 | n + 1, h :: r, hl, hu, x, hx => by
  have hh := hu h List.mem_cons_self
  have hr := fun x hx => hu x (List.mem_cons_of_mem h hx)
  cases he : endsH h r with
  | true =>
   rw [items_bad he, List.mem_singleton] at hx
   subst hx
   refine ⟨?_, ?_, ?_, ?_⟩ <;> simp [badI, u8k, i64k, u32k]
  | false =>
   rw [items_good he] at hx
   rcases List.mem_cons.1 hx with rfl | h1
   ·have h3 := numB_range (r.take (sizeH h)) (fun x hx => hr x (List.mem_of_mem_take hx))
    have h4 : (r.take (sizeH h)).length ≤ 4 := by rw [List.length_take]; have := sizeH_le h; omega
    have h5 : (256 : Int) ^ (r.take (sizeH h)).length ≤ 256 ^ 4 := by
     rcases (by omega : (r.take (sizeH h)).length = 0 ∨ (r.take (sizeH h)).length = 1 ∨ (r.take (sizeH h)).length = 2 ∨ (r.take (sizeH h)).length = 3 ∨ (r.take (sizeH h)).length = 4) with e | e | e | e | e <;> rw [e] <;> decide
    have h6 := sizeH_le h
    unfold u8k at hh
    refine ⟨?_, ?_, ?_, ?_⟩
    ·show u8k (h / 4 % 4); unfold u8k; omega
    ·show u8k (h / 16); unfold u8k; omega
    ·show i64k (sizeH h : Int); unfold i64k; omega
    ·show u32k (numB (r.take (sizeH h))); unfold u32k; omega
   ·exact items_ok n (r.drop (sizeH h)) (by rw [List.length_drop]; rw [List.length_cons] at hl; omega) (fun y hy => hr y (List.mem_of_mem_drop hy)) x h1
structure Gl where
 page : Int
 lo : Int
 hi : Int
 size : Int
 count : Int
 report : Int
structure Fd where
 kind : Int
 report : Int
 parent : Int
 usages : List Int
 lo : Int
 hi : Int
 size : Int
 count : Int
 pos : Int
 const : Bool
 array : Bool
 signed : Bool
 rel : Bool
structure Co where
 kind : Int
 usage : Int
 parent : Int
structure RS where
 g : Gl
 stack : List Gl
 usages : List Int
 kept : Int
 keeps : Bool
 opn : Int
 fields : List Fd
 colls : List Co
 numbered : Bool
def rs0 : RS := ⟨⟨0, 0, 0, 0, 0, 0⟩, [], [], 0, false, -1, [], [], false⟩
def signS (x : It) : Int :=
 if x.size = 1 then (if 127 < x.data then x.data - 256 else x.data)
 else if x.size = 2 then (if 32767 < x.data then x.data - 65536 else x.data)
 else if x.size = 4 then (if 2147483647 < x.data then x.data - 4294967296 else x.data) else 0
def usageS (s : RS) (x : It) : Int := if x.size = 4 then x.data else s.g.page * 65536 + x.data
def bitsS (l : List Fd) (k r : Int) : Int := ((l.filter (fun f => f.kind == k && f.report == r)).map (fun f => f.size * f.count)).sum
def fitsS (lo hi : Int) (n : Nat) : Bool :=
 if lo < 0 then decide (lo ≤ hi) && decide (-(2 ^ (n - 1)) ≤ lo) && decide (hi ≤ 2 ^ (n - 1) - 1) else decide (lo ≤ hi) && decide (0 ≤ lo) && decide (hi ≤ 2 ^ n - 1)
def addS (s : RS) (lo hi : Int) : Int × RS :=
 if 512 < (s.usages.length : Int) + (hi - lo + 1) then (3, s) else (0, { s with usages := s.usages ++ (List.range (hi - lo + 1).toNat).map (fun (i : Nat) => lo + (i : Int)) })
def fieldOf (s : RS) (k : Int) (x : It) : Fd :=
 ⟨k, s.g.report % 256, s.opn, s.usages, s.g.lo, s.g.hi, s.g.size, s.g.count, bitsS s.fields k (s.g.report % 256), x.data % 2 == 1, x.data / 2 % 2 == 0, decide (s.g.lo < 0), x.data / 4 % 2 == 1⟩
def fieldS (s : RS) (k : Int) (x : It) : Int × RS :=
 if s.opn < 0 then (4, s)
 else if s.g.size < 1 ∨ 32 < s.g.size ∨ s.g.count < 1 ∨ 256 < s.g.count ∨ 4096 < bitsS s.fields k (s.g.report % 256) + s.g.size * s.g.count ∨ 256 ≤ s.fields.length then (3, s)
 else if ¬ (x.data % 2 = 1) ∧ (fitsS s.g.lo s.g.hi s.g.size.toNat = false ∨ s.usages = []) then (4, s)
 else (0, { s with fields := s.fields ++ [fieldOf s k x] })
def effS (s : RS) (x : It) : Int × RS :=
 if x.ty = 0 then
  if x.tg = 8 then fieldS s 1 x
  else if x.tg = 9 then fieldS s 2 x
  else if x.tg = 11 then fieldS s 3 x
  else if x.tg = 10 then
   if 64 ≤ s.colls.length then (3, s) else (0, { s with opn := s.colls.length, colls := s.colls ++ [⟨x.data % 256, s.usages.headD 0, s.opn⟩] })
  else if x.tg = 12 then
   if s.opn < 0 then (4, s) else (0, { s with opn := ((s.colls[s.opn.toNat]?).map Co.parent).getD (-1) })
  else (4, s)
 else if x.ty = 1 then
  if x.tg = 0 then (if 65535 < x.data then (4, s) else (0, { s with g := { s.g with page := x.data } }))
  else if x.tg = 1 then (0, { s with g := { s.g with lo := signS x } })
  else if x.tg = 2 then (0, { s with g := { s.g with hi := signS x } })
  else if x.tg = 3 ∨ x.tg = 4 ∨ x.tg = 5 ∨ x.tg = 6 then (0, s)
  else if x.tg = 7 then (0, { s with g := { s.g with size := x.data } })
  else if x.tg = 8 then (if x.data < 1 ∨ 255 < x.data then (4, s) else (0, { s with g := { s.g with report := x.data }, numbered := true }))
  else if x.tg = 9 then (0, { s with g := { s.g with count := x.data } })
  else if x.tg = 10 then (if 8 ≤ s.stack.length then (3, s) else (0, { s with stack := s.stack ++ [s.g] }))
  else if x.tg = 11 then (match s.stack.getLast? with | none => (4, s) | some g => (0, { s with g := g, stack := s.stack.dropLast }))
  else (4, s)
 else if x.ty = 2 then
  if x.tg = 0 then addS s (usageS s x) (usageS s x)
  else if x.tg = 1 then (0, { s with kept := usageS s x, keeps := true })
  else if x.tg = 2 then
   if s.keeps = false ∨ usageS s x / 65536 ≠ s.kept / 65536 ∨ usageS s x < s.kept then (4, s) else addS { s with keeps := false } s.kept (usageS s x)
  else (4, s)
 else (4, s)
def clearS (s : RS) (x : It) : RS := if x.ty = 0 then { s with usages := [], keeps := false } else s
def runS : List It → RS → Int × RS
 | [], s => (0, s)
 | x :: l, s => if (effS s x).1 ≠ 0 then (effS s x) else runS l (clearS (effS s x).2 x)
def endS (s : RS) : Int := if 0 ≤ s.opn ∨ s.stack ≠ [] ∨ (s.numbered = true ∧ s.fields.any (fun f => f.report == 0) = true) then 4 else 0
def parseS (l : List It) : Int × RS := if (runS l rs0).1 ≠ 0 then runS l rs0 else (endS (runS l rs0).2, (runS l rs0).2)
theorem runS_snoc : ∀ (l : List It) (s : RS) (x : It), (runS l s).1 = 0 → runS (l ++ [x]) s = (if (effS (runS l s).2 x).1 ≠ 0 then effS (runS l s).2 x else (0, clearS (effS (runS l s).2 x).2 x))
 | [], s, x, _ => rfl
 | y :: l, s, x, h => by
  rw [List.cons_append]
  unfold runS at h ⊢
  by_cases he : (effS s y).1 ≠ 0
  ·rw [if_pos he] at h; exact absurd h he
  ·rw [if_neg he] at h
   rw [if_neg he, if_neg he]
   exact runS_snoc l _ x h
theorem runS_stop : ∀ (l : List It) (s : RS) (r : List It), (runS l s).1 ≠ 0 → runS (l ++ r) s = runS l s
 | [], s, r, h => absurd rfl h
 | y :: l, s, r, h => by
  rw [List.cons_append]
  unfold runS at h ⊢
  by_cases he : (effS s y).1 ≠ 0
  ·rw [if_pos he, if_pos he]
  ·rw [if_neg he] at h
   rw [if_neg he, if_neg he]
   exact runS_stop l _ r h
structure RS.Fine (s : RS) : Prop where
 page : 0 ≤ s.g.page ∧ s.g.page ≤ 65535
 size : u32k s.g.size
 count : u32k s.g.count
 report : 0 ≤ s.g.report ∧ s.g.report ≤ 255
 lo : -2147483648 ≤ s.g.lo ∧ s.g.lo ≤ 2147483647
 hi : -2147483648 ≤ s.g.hi ∧ s.g.hi ≤ 2147483647
 stack : ∀ g ∈ s.stack, (0 ≤ g.page ∧ g.page ≤ 65535) ∧ u32k g.size ∧ u32k g.count ∧ (0 ≤ g.report ∧ g.report ≤ 255) ∧ (-2147483648 ≤ g.lo ∧ g.lo ≤ 2147483647) ∧ (-2147483648 ≤ g.hi ∧ g.hi ≤ 2147483647)
 depth : s.stack.length ≤ 8
 usages : s.usages.length ≤ 512 ∧ ∀ u ∈ s.usages, u32k u
 kept : u32k s.kept
 opn : -1 ≤ s.opn ∧ s.opn < s.colls.length
 colls : s.colls.length ≤ 64 ∧ ∀ c ∈ s.colls, u8k c.kind ∧ u32k c.usage ∧ -1 ≤ c.parent ∧ c.parent < s.colls.length
 fields : s.fields.length ≤ 256 ∧ ∀ f ∈ s.fields, 1 ≤ f.size ∧ f.size ≤ 32 ∧ 1 ≤ f.count ∧ f.count ≤ 256 ∧ 0 ≤ f.pos ∧ f.pos ≤ 4096 ∧ f.usages.length ≤ 512
 bits : ∀ k r, 0 ≤ bitsS s.fields k r ∧ bitsS s.fields k r ≤ 4096
theorem fine0 : rs0.Fine := by
 refine ⟨?_, ?_, ?_, ?_, ?_, ?_, ?_, ?_, ?_, ?_, ?_, ?_, ?_, ?_⟩ <;> simp [rs0, u32k, u8k, bitsS]
theorem bitsS_snoc (l : List Fd) (f : Fd) (k r : Int) : bitsS (l ++ [f]) k r = bitsS l k r + (if f.kind == k && f.report == r then f.size * f.count else 0) := by
 unfold bitsS
 rw [List.filter_append, List.map_append, List.sum_append]
 cases h : (f.kind == k && f.report == r) <;> simp [h]
end Go.Proofs.Ytegdigfcgeoboaa
