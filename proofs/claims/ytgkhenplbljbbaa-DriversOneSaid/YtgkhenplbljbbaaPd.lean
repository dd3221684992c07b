/- More general lemmas: elements that lie from a block on; blocks behind a store. No condition; nothing of the program. -/
import Derived.Test.YtgkhenplbljbbaaPc
set_option linter.unusedVariables false
set_option linter.unusedSimpArgs false
set_option linter.unusedSectionVars false
namespace Go.Proofs.Ytgkhenplbljbbaa
open Go.RowKit

/-- the same type, of which all lies in blocks from b0 on -/
def Ty.from {α : Type} (b0 : Nat) (t : Ty α) : Ty α :=
  ⟨t.size, fun w F x cs => t.rel w (fun b => F b ∧ b0 ≤ b) x cs, t.len, fun h hF hk => t.keep h (fun b hb => ⟨hF b hb.1, hb.2⟩) (fun b o hb => hk b o hb.1)⟩
section
variable {α : Type} {t : Ty α} {e : TypeId} {w w' : World} {base b0 n : Nat} {v : Value} {xs : List α}
theorem Own.setCellF (h : Own (t.from b0) e base w v n xs) {p : Addr} (hp : p.block < base) (hp0 : p.block < b0) (u : Value) : Own (t.from b0) e base (w.setCell p u) v n xs := by
  obtain ⟨h1, cells, h2, h3⟩ := h
  refine ⟨h1, cells, ownsRow_setCell_below h2 hp u, fun i x hx => t.keep (h3 i x hx) (fun b hb => ⟨⟨by simpa using hb.1.1, hb.1.2⟩, hb.2⟩) (fun b o hb => ?_)⟩
  exact World.cell?_setCell_other _ _ _ _ (fun e => by
    have := congrArg Addr.block e
    have h4 := hb.2
    simp only at this
    omega)
theorem Sl.unfrom {F : Nat → Prop} {A : Option Addr} (h : Sl (t.from b0) w F A n xs) : Sl t w F A n xs :=
  ⟨h.1, fun i x hx => by
    obtain ⟨b, off, cs, e, hb, hr, hc⟩ := h.2 i x hx
    exact ⟨b, off, cs, e, hb, t.keep hr (fun b hb => hb.1) (fun _ _ _ => rfl), hc⟩⟩
theorem Own.slF {A : Option Addr} {m c : Nat} (h : Own (t.from b0) e base w (.slice A m c) n xs) (F : Nat → Prop) (hF : ∀ g, base ≤ g → g < w.heap.size → F g) (hF2 : ∀ b, b0 ≤ b → b < w.heap.size → F b) : Sl t w F A n xs :=
  (h.sl_of F hF (fun _ _ hr => t.keep hr (fun b hb => ⟨hF2 b hb.2 hb.1.1, hb.2⟩) (fun _ _ _ => rfl))).unfrom
end
theorem heap_store {w : World} {g i : Nat} {cs : Array Value} {t : TypeId} (hg : w.heap[g]? = some (.cells cs t (0, 0))) (v : Value) : (w.setCell ⟨g, i, none⟩ v).heap[g]? = some (.cells (cs.setIfInBounds i v) t (0, 0)) := heap_setCell_same w g i cs t v hg
theorem heap_other {w : World} {a : Addr} {k : Nat} {v : Value} {u : Obj} (h : w.heap[k]? = some u) (hne : k ≠ a.block) : (w.setCell a v).heap[k]? = some u := (heap_setCell_other w a k v hne).trans h
theorem heap_below {w w' : World} {B n : Nat} {u : Obj} (hk : Below B w w') (h : w.heap[n]? = some u) (hn : n < B) : w'.heap[n]? = some u := (hk.block n hn).trans h
theorem cell_heap {w : World} {g o : Nat} {cs : Array Value} {t : TypeId} {v : Value} (h : w.heap[g]? = some (.cells cs t (0, 0))) (hv : cs[o]? = some v) : w.cell? ⟨g, o, none⟩ = some v := (cell_of_row _ _ _ _ _ _ h).trans hv
theorem frozen_heap {w : World} {g o : Nat} {cs : Array Value} {t : TypeId} (h : w.heap[g]? = some (.cells cs t (0, 0))) : w.frozen? ⟨g, o, none⟩ = false := frozen_of_row w g o cs t h
theorem heap_lt {w : World} {n : Nat} {u : Obj} (h : w.heap[n]? = some u) : n < w.heap.size := (Array.getElem?_eq_some_iff.1 h).1
end Go.Proofs.Ytgkhenplbljbbaa
