
/- A row of bytes that a conversion of a string has laid: its cells, a store into it, an append of two bytes. No condition. -/
import Derived.Test.YtokijdgakphfiaaDoorChecked
import Derived.Deep.RegionHeld3
import Derived.Deep.DrawnRows
import Derived.Deep.DeepCutAuto
import Derived.Deep.LoopGhost
import Derived.Outline
import Derived.Handy
import Derived.OwnWalk
import Derived.ArgAppend
import Derived.Laws.IdiomStrings
import Derived.Test.YtokijdgakphfiaaDoorLd
namespace Go.Proofs.YtokijdgakphfiaaDoor
open Go.RowKit

theorem heap_storeF {w : World} {g i : Nat} {cs : Array Value} {t : TypeId} {fr : Nat × Nat} (hg : w.heap[g]? = some (.cells cs t fr)) (v : Value) : (w.setCell ⟨g, i, none⟩ v).heap[g]? = some (.cells (cs.setIfInBounds i v) t fr) := by
  simp [World.setCell, Array.getElem?_modify, hg]
theorem heap_setCellsF {g : Nat} {t : TypeId} {fr : Nat × Nat} : ∀ (vs A B C : List Value) (w : World), vs.length = B.length → w.heap[g]? = some (.cells (A ++ B ++ C).toArray t fr) →
    (w.setCells g A.length vs).heap[g]? = some (.cells (A ++ vs ++ C).toArray t fr)
  | [], A, [], C, _, _, h => h
  | [], A, b :: B, C, _, hl, _ => by simp at hl
  | v :: vs, A, [], C, _, hl, _ => by simp at hl
  | v :: vs, A, b :: B, C, w, hl, h => by
    have h1 := heap_storeF (i := A.length) h v
    have e1 : (A ++ b :: B ++ C).toArray.setIfInBounds A.length v = ((A ++ [v]) ++ B ++ C).toArray := by
      apply Array.toList_inj.1
      simp
    rw [e1] at h1
    have h2 := heap_setCellsF vs (A ++ [v]) B C (w.setCell ⟨g, A.length, none⟩ v) (by simpa using hl) h1
    rw [List.length_append] at h2
    have e2 : A ++ [v] ++ vs ++ C = A ++ v :: vs ++ C := by simp
    rw [e2] at h2
    exact h2
/-- block g is a row of bytes that a conversion of a string has laid: of so many cells, the first of which are these -/
def StrRow (w : World) (g cap : Nat) (bs : List UInt8) : Prop := ∃ cur : List Value, w.heap[g]? = some (.cells (u8C bs ++ cur).toArray 5 (cap, cap + 1)) ∧ bs.length + cur.length = cap
section
variable {w w' : World} {g cap : Nat} {bs : List UInt8}
theorem StrRow.kept (h : StrRow w g cap bs) (hk : Kept w w') : StrRow w' g cap bs := by
  obtain ⟨cur, h1, h2⟩ := h
  exact ⟨cur, heap_kept hk h1, h2⟩
theorem StrRow.lt (h : StrRow w g cap bs) : g < w.heap.size := by
  obtain ⟨cur, h1, _⟩ := h
  exact heap_lt h1
theorem StrRow.cell (h : StrRow w g cap bs) {j : Nat} {b : UInt8} (hb : bs[j]? = some b) : w.cell? ⟨g, j, none⟩ = some (.int .u8 (b.toNat : Int)) := by
  obtain ⟨cur, h1, h2⟩ := h
  have hj := (List.getElem?_eq_some_iff.1 hb).1
  rw [cell_of_row _ _ _ _ _ _ h1]
  rw [List.getElem?_toArray, List.getElem?_append_left (by rw [u8C_len]; exact hj)]
  simp [u8C, hb]
theorem StrRow.free (h : StrRow w g cap bs) {j : Nat} (hj : j < cap) : w.frozen? ⟨g, j, none⟩ = false := by
  obtain ⟨cur, h1, h2⟩ := h
  simp [World.frozen?, h1]
  omega
theorem StrRow.there (h : StrRow w g cap bs) {j : Nat} (hj : j < cap) : (w.cell? ⟨g, j, none⟩).isSome = true := by
  obtain ⟨cur, h1, h2⟩ := h
  rw [cell_of_row _ _ _ _ _ _ h1]
  simp [u8C_len]
  omega
theorem StrRow.sl (h : StrRow w g cap bs) : Sl byT w (low w.heap.size) (some ⟨g, 0, none⟩) bs.length bs :=
  ⟨rfl, fun i x hx => ⟨g, 0, _, rfl, h.lt, ⟨rfl, trivial⟩, range_cons (by
    have := h.cell hx
    simpa [byT, Ty.flat] using this) range_nil⟩⟩
theorem StrRow.set (h : StrRow w g cap bs) (j : Nat) (b : UInt8) : StrRow (w.setCell ⟨g, j, none⟩ (.int .u8 (b.toNat : Int))) g cap (if j < bs.length then bs.set j b else bs) ∨ bs.length ≤ j := by
  by_cases hj : j < bs.length
  · left
    rw [if_pos hj]
    obtain ⟨cur, h1, h2⟩ := h
    refine ⟨cur, ?_, by rw [List.length_set]; exact h2⟩
    rw [heap_storeF h1]
    congr 2
    apply Array.toList_inj.1
    simp only [u8C]
    rw [Array.toList_setIfInBounds]
    rw [List.set_append_left _ _ (by simpa using hj), List.map_set]
  · right; omega
theorem StrRow.store (h : StrRow w g cap bs) {j : Nat} (hj : j < bs.length) (b : UInt8) : StrRow (w.setCell ⟨g, j, none⟩ (.int .u8 (b.toNat : Int))) g cap (bs.set j b) := by
  rcases h.set j b with h | h
  · rwa [if_pos hj] at h
  · omega
end
/-- what '[]byte(s)' lays -/
theorem str_row (s : ByteArray) (w : World) : ∃ cap w1, (convert 9 30 (.string s)).run Tryd.prog w = .ok (.slice (some ⟨w.heap.size, 0, none⟩) s.size cap) w1 ∧ StrRow w1 w.heap.size cap s.data.toList ∧ s.size ≤ cap ∧ Kept w w1 := by
  have h1 := run_bytes_of_string (P := Tryd.prog) w 9 30 5 s Tryd.underlying9 Tryd.underlying30 Tryd.underlying5
  have hge := grownCap_ge w s.size 0 5
  have hsz : (bytesRow s (grownCap w s.size 0 5)).size = grownCap w s.size 0 5 := by simp [bytesRow]; omega
  refine ⟨_, _, h1, ⟨List.replicate (grownCap w s.size 0 5 - s.size) (.int .u8 0), ?_, ?_⟩, hge, (Below.refl _ w).drew.alloc (by simp) _⟩
  · rw [hsz, heap_at (w := w.drew) (n := w.heap.size) _ rfl]
    congr 2
    apply Array.toList_inj.1
    simp [bytesRow, u8C]
  · rw [List.length_replicate, ← Lib.size_eq]; omega
theorem own_sl {w : World} {base n : Nat} {A : Option Addr} {c : Nat} {bs : List UInt8} (h : w.ownsRow base 5 1 (.slice A n c) n (u8C bs)) : Sl byT w (low w.heap.size) A n bs := by
  have hl : bs.length = n := by have := h.1; rw [u8C_len] at this; omega
  refine ⟨hl, fun i x hx => ?_⟩
  have hi := (List.getElem?_eq_some_iff.1 hx).1
  rcases h.2 with ⟨_, h0⟩ | ⟨g, cap, cur, hv, hg, hh, _, _, _, htk⟩
  · omega
  · injection hv with hA _ _
    refine ⟨g, 0, _, hA, heap_lt hh, ⟨rfl, trivial⟩, range_cons ?_ range_nil⟩
    have hc := h.cells (g := g) (by rw [hA]; rfl) i (.int .u8 (x.toNat : Int)) (by simp [u8C, hx])
    rw [Addr.add_mid] at hc
    simpa [byT, Ty.flat] using hc
/-- append of two bytes to such a row -/
theorem wpList_append_two {W : World} {ops : Array Oper} {rest : List Oper} {o : Oper} {a : Act} {Q : Exit → Act → World → Prop} (hgd : o.guard = none) (s x : Operand)
    (ho : o.op = .call { callee := .builtin .append, args := #[s, x], argTypes := #[30, 30] }) (base g cap n : Nat) (bs : List UInt8) (hs : a.eval s = .slice (some ⟨g, 0, none⟩) n cap) (hrow : StrRow W g cap bs) (hn : bs.length = n) (hbg : base ≤ g) (hnm : n ≤ 1000)
    (gb : Nat) (hx : a.eval x = .slice (some ⟨gb, 0, none⟩) 2 2) (hb : W.heap[gb]? = some (.cells #[.int .u8 0, .int .u8 0] 5 (0, 0)))
    (h : ∀ g' c' w', Sl byT w' (low w'.heap.size) (some ⟨g', 0, none⟩) (n + 2) (bs ++ [0, 0]) → Below base W w' → wpList Tryd.prog ops Q rest (a.put o.dst (.slice (some ⟨g', 0, none⟩) (n + 2) c')) w') : wpList Tryd.prog ops Q (o :: rest) a W := by
  obtain ⟨i5, hi5, hz50, hz51, hz52⟩ := info_parts info5
  have e0 : [Value.int .u8 0, Value.int .u8 0] = u8C [0, 0] := by simp [u8C]
  refine wpList_append_arg W hgd s x 30 ho 5 i5 _ 1 1 Tryd.underlying30 hi5 hz50 hz51 hz52 rfl (by decide) g 0 n cap (u8C bs) hs (by rw [u8C_len]; omega) (fun j u hu => ?_) ⟨gb, 0, none⟩ 2 2 [.int .u8 0, .int .u8 0] hx rfl (fun j u hu => ?_) (by simp [Value.oneCell'])
    (fun hr j hj => ?_) (by unfold maxLen; omega) (by omega) (fun hr => ?_) (fun hgr v' w' h1 h2 => ?_)
  · simp only [u8C, List.getElem?_map, Option.map_eq_some_iff] at hu
    obtain ⟨b, hb', rfl⟩ := hu
    rw [Nat.zero_add]; exact hrow.cell hb'
  · rw [Addr.add_mid, cell_of_row _ _ _ _ _ _ hb]; simpa using hu
  · simp only [List.length_cons, List.length_nil] at hj
    exact ⟨hrow.there (by omega), hrow.free (by omega)⟩
  · have hrow2 : StrRow (W.setCells g (0 + n * 1) [.int .u8 0, .int .u8 0]) g cap (bs ++ [0, 0]) := by
      obtain ⟨cur, h1, h2⟩ := hrow
      match cur, h2 with
      | c0 :: c1 :: cur, h2 =>
        refine ⟨cur, ?_, by simp at h2 ⊢; omega⟩
        have h3 := heap_setCellsF (g := g) (t := 5) (fr := (cap, cap + 1)) [.int .u8 0, .int .u8 0] (u8C bs) [c0, c1] cur W rfl (by rw [h1]; simp)
        rw [u8C_len, hn] at h3
        rw [Nat.zero_add, Nat.mul_one, h3, u8C_append, e0]
      | [c0], h2 => simp at h2; omega
      | [], h2 => simp at h2; omega
    have hsl := hrow2.sl
    rw [List.length_append, hn] at hsl
    exact h g cap _ hsl (below_setCells hbg _ _ _ (Below.refl _ _))
  · rw [e0, ← u8C_append] at h1
    obtain ⟨g', cap', rfl⟩ : ∃ g' cap', v' = .slice (some ⟨g', 0, none⟩) (n + 2) cap' := by
      rcases h1.2 with ⟨_, h0⟩ | ⟨g', cap', cur, rfl, _⟩
      · omega
      · exact ⟨g', cap', rfl⟩
    exact h g' cap' w' (own_sl h1) ((Below.refl _ W).grown h2 (Nat.le_trans hbg (Nat.le_of_lt hrow.lt)) (fun k e => by cases e))
end Go.Proofs.YtokijdgakphfiaaDoor
