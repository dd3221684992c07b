/- What a loop body over an iterator keeps: all cells and all walks but those of one variable's box and of the row that its slice owns. No condition; nothing of the program. -/
import Derived.RangeFuncNested
import Derived.RangeFuncBound
import Derived.RangeFuncCalls
import Derived.RangeFuncLeaves
import Derived.RangeFuncBox
import Derived.Test.YtokijdgakphfiaaDoorSj
namespace Go.Proofs.YtokijdgakphfiaaDoor
open Go.RowKit

/-- block b is the box Bx, or the row of the slice that it holds -/
def boxX (Bx : Nat) (W : World) (b : Nat) : Prop := b = Bx ∨ ∃ v, W.cell? ⟨Bx, 0, none⟩ = some v ∧ v.ownBlock = some b
structure KeepsX (Bx : Nat) (A B : World) : Prop where
  size : A.heap.size ≤ B.heap.size
  same : ∀ b o, A.heap[b]? = some o → (o.isCells || o.isWalk) = true → ¬ boxX Bx A b → B.heap[b]? = some o
  own : ∀ b, boxX Bx B b → boxX Bx A b ∨ (A.heap.size ≤ b ∧ b < B.heap.size)
theorem boxX_congr {Bx b : Nat} {W W' : World} (h : W'.heap[Bx]? = W.heap[Bx]?) : boxX Bx W' b ↔ boxX Bx W b := by
  unfold boxX
  rw [World.cell?_of_block (a := ⟨Bx, 0, none⟩) h]
theorem KeepsX.refl (Bx : Nat) (W : World) : KeepsX Bx W W := ⟨Nat.le_refl _, fun _ _ h _ _ => h, fun _ h => .inl h⟩
theorem KeepsX.trans {Bx : Nat} {A B C : World} (h : KeepsX Bx A B) (k : KeepsX Bx B C) : KeepsX Bx A C := by
  refine ⟨Nat.le_trans h.size k.size, fun b o hb ho hx => ?_, fun b hb => ?_⟩
  · have hlt := (Array.getElem?_eq_some_iff.1 hb).1
    refine k.same b o (h.same b o hb ho hx) ho (fun hx' => ?_)
    rcases h.own b hx' with h1 | h1
    · exact hx h1
    · omega
  · rcases k.own b hb with h1 | h1
    · rcases h.own b h1 with h2 | h2
      · exact .inl h2
      · exact .inr ⟨h2.1, Nat.lt_of_lt_of_le h2.2 k.size⟩
    · exact .inr ⟨Nat.le_trans h.size h1.1, h1.2⟩
theorem KeepsX.putObj {Bx l : Nat} {W : World} {o : Obj} (o' : Obj) (hl : W.heap[l]? = some o) (hc : o.isCells = false) (hw : o.isWalk = false) (hne : Bx ≠ l) : KeepsX Bx W (W.putObj l o') := by
  have hg := grownBy_putObj' W l o'
  refine ⟨hg.size, fun b u hb hu _ => ?_, fun b hb => .inl ((boxX_congr (World.putObj_heap_other hne)).1 hb)⟩
  refine (World.putObj_heap_other (fun e => ?_)).trans hb
  subst e
  rw [hl] at hb; cases hb
  rw [hc, hw] at hu; cases hu
/-- what the body's steps keep: a step that changes the box and its row alone, and lays blocks -/
theorem KeepsX.of_grown {Bx : Nat} {A B : World} (hsz : A.heap.size ≤ B.heap.size) (hs : ∀ b, b < A.heap.size → ¬ boxX Bx A b → B.heap[b]? = A.heap[b]?) (ho : ∀ b, boxX Bx B b → boxX Bx A b ∨ (A.heap.size ≤ b ∧ b < B.heap.size)) : KeepsX Bx A B :=
  ⟨hsz, fun b _ hb _ hx => (hs b (Array.getElem?_eq_some_iff.1 hb).1 hx).trans hb, ho⟩
/-- the box's own blocks are there -/
def BoxIn (Bx : Nat) (W : World) : Prop := ∀ b, boxX Bx W b → b < W.heap.size
theorem BoxIn.kept {Bx : Nat} {A B : World} (h : BoxIn Bx A) (k : KeepsX Bx A B) : BoxIn Bx B := fun b hb => by
  rcases k.own b hb with h1 | h1
  · exact Nat.lt_of_lt_of_le (h b h1) k.size
  · exact h1.2
theorem BoxIn.congr {Bx : Nat} {A B : World} (h : BoxIn Bx A) (hs : A.heap.size ≤ B.heap.size) (he : B.heap[Bx]? = A.heap[Bx]?) : BoxIn Bx B := fun b hb => Nat.lt_of_lt_of_le (h b ((boxX_congr he).1 hb)) hs
theorem heap_alloc_old {W : World} {k : Nat} (hk : k < W.heap.size) (o : Obj) : (W.alloc o).heap[k]? = W.heap[k]? := Below.heap_alloc W o k hk
end Go.Proofs.YtokijdgakphfiaaDoor
