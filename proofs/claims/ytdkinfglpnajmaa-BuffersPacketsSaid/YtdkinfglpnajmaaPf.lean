/- A row of a fixed capacity that a call fills: append of a slice where there is room. No condition; nothing of the program. -/
import Derived.Test.YtdkinfglpnajmaaPd
import Derived.ArgAppend
set_option linter.unusedVariables false
set_option linter.unusedSimpArgs false
set_option linter.unusedSectionVars false
namespace Go.Proofs.Ytdkinfglpnajmaa
open Go.RowKit

/-- block g is a row of so many cells, of which these are filled -/
def Fill (w : World) (g : Nat) (t : TypeId) (cap : Nat) (z : Value) (cs : List Value) : Prop :=
  w.heap[g]? = some (.cells (cs ++ List.replicate (cap - cs.length) z).toArray t (0, 0)) ∧ cs.length ≤ cap
theorem heap_setCells {g : Nat} {t : TypeId} : ∀ (vs A B C : List Value) (w : World), vs.length = B.length → w.heap[g]? = some (.cells (A ++ B ++ C).toArray t (0, 0)) →
    (w.setCells g A.length vs).heap[g]? = some (.cells (A ++ vs ++ C).toArray t (0, 0))
  | [], A, [], C, w, _, h => h
  | [], A, b :: B, C, w, hl, _ => by simp at hl
  | v :: vs, A, [], C, w, hl, _ => by simp at hl
  | v :: vs, A, b :: B, C, w, hl, h => by
    have h1 := heap_store (i := A.length) h v
    have e1 : (A ++ b :: B ++ C).toArray.setIfInBounds A.length v = ((A ++ [v]) ++ B ++ C).toArray := by
      apply Array.toList_inj.1
      simp
    rw [e1] at h1
    have h2 := heap_setCells vs (A ++ [v]) B C (w.setCell ⟨g, A.length, none⟩ v) (by simpa using hl) h1
    rw [List.length_append] at h2
    have e2 : A ++ [v] ++ vs ++ C = A ++ v :: vs ++ C := by simp
    rw [e2] at h2
    exact h2
theorem heap_setCells_other {g k : Nat} (hne : k ≠ g) : ∀ (vs : List Value) (o : Nat) (w : World), (w.setCells g o vs).heap[k]? = w.heap[k]?
  | [], _, _ => rfl
  | v :: vs, o, w => (heap_setCells_other hne vs (o + 1) _).trans (heap_setCell_other w ⟨g, o, none⟩ k v hne)
theorem size_setCells {g : Nat} : ∀ (vs : List Value) (o : Nat) (w : World), (w.setCells g o vs).heap.size = w.heap.size
  | [], _, _ => rfl
  | v :: vs, o, w => by
    have := size_setCells (g := g) vs (o + 1) (w.setCell ⟨g, o, none⟩ v)
    rw [World.size_setCell] at this
    exact this
theorem below_setCells {g B : Nat} {w0 : World} (hB : B ≤ g) : ∀ (vs : List Value) (o : Nat) (w : World), Below B w0 w → Below B w0 (w.setCells g o vs)
  | [], _, _, h => h
  | v :: vs, o, w, h => below_setCells hB vs (o + 1) _ (h.setCell hB v)

/-- append of cells that lie anywhere into a row that has room: the run -/
theorem run_append_fillS {P : Program} {w : World} (t ty e : TypeId) (i : TypeInfo) (ht : P.underlying t = some (.slice e)) (hi : P.info? e = some i) (hs : i.size = 1) (g cap : Nat) (z : Value) (cs : List Value) (hF : Fill w g e cap z cs)
    (gb o : Nat) (ns : List Value) (hb : ∀ (j : Nat) u, ns[j]? = some u → w.cell? ⟨gb, o + j, none⟩ = some u) (h1 : ∀ u ∈ ns, u.oneCell' = true) (m c : Nat) (hm : ns.length = m) (hroom : cs.length + m ≤ cap) (n : Nat) (hn : n = cs.length) :
    ∃ w', (Builtin.append_ #[t, t] ty #[.slice (some ⟨g, 0, none⟩) n cap, .slice (some ⟨gb, o, none⟩) m c]).run P w = .ok (.slice (some ⟨g, 0, none⟩) (n + m) cap) w' ∧
      Fill w' g e cap z (cs ++ ns) ∧ w'.heap.size = w.heap.size ∧ (∀ k, k ≠ g → w'.heap[k]? = w.heap[k]?) ∧ (∀ B w0, B ≤ g → Below B w0 w → Below B w0 w') := by
  subst hn
  obtain ⟨hh, hc⟩ := hF
  have hcell : ∀ j, j < cap → ∃ v, w.cell? ⟨g, j, none⟩ = some v := by
    intro j hj
    rw [cell_of_row _ _ _ _ _ _ hh]
    have : j < (cs ++ List.replicate (cap - cs.length) z).toArray.size := by simp; omega
    exact ⟨_, Array.getElem?_eq_getElem this⟩
  have hrun := run_append_room_cells (P := P) (w := w) t ty e i ht hi g 0 cs.length cap ⟨gb, o, none⟩ m c ns (by rw [hm, hs, Nat.mul_one])
    (fun j u hu => by rw [Addr.add_mid]; exact hb j u hu) h1 hroom
    (fun j hj => by
      rw [hm] at hj
      obtain ⟨v, hv⟩ := hcell (0 + cs.length * i.size + j) (by rw [hs]; omega)
      rw [hv]; rfl)
    (fun j hj => frozen_heap hh)
  rw [hs, Nat.mul_one, Nat.zero_add] at hrun
  refine ⟨_, hrun, ⟨?_, ?_⟩, size_setCells _ _ _, fun k hk => heap_setCells_other hk _ _ _, fun B w0 hB hb => below_setCells hB _ _ _ hb⟩
  · have h3 := heap_setCells (g := g) (t := e) ns cs (List.replicate m z) (List.replicate (cap - cs.length - m) z) w (by simp [hm]) (by
      rw [hh, List.append_assoc, List.replicate_append_replicate]
      congr 5
      omega)
    rw [h3, List.length_append, hm]
    congr 5
    omega
  · rw [List.length_append, hm]; exact hroom
theorem wp_append_fillS {P : Program} {W : World} {o : Oper} {a : Act} {K : Act → World → Prop} {Q : Exit → Act → World → Prop} (s x : Operand) (t : TypeId)
    (ho : o.op = .call { callee := .builtin .append, args := #[s, x], argTypes := #[t, t] })
    (e : TypeId) (i : TypeInfo) (ht : P.underlying t = some (.slice e)) (hi : P.info? e = some i) (hsz : i.size = 1) (g n cap : Nat) (z : Value) (cs : List Value) (hs : a.eval s = .slice (some ⟨g, 0, none⟩) n cap) (hF : Fill W g e cap z cs) (hn : n = cs.length)
    (gb off m c : Nat) (ns : List Value) (hx : a.eval x = .slice (some ⟨gb, off, none⟩) m c) (hb : ∀ (j : Nat) u, ns[j]? = some u → W.cell? ⟨gb, off + j, none⟩ = some u) (hm : ns.length = m) (h1 : ∀ u ∈ ns, u.oneCell' = true) (hroom : cs.length + m ≤ cap)
    (h : ∀ w', Fill w' g e cap z (cs ++ ns) → w'.heap.size = W.heap.size → (∀ k, k ≠ g → w'.heap[k]? = W.heap[k]?) → (∀ B w0, B ≤ g → Below B w0 W → Below B w0 w') → K (a.put o.dst (.slice (some ⟨g, 0, none⟩) (n + m) cap)) w') : o.wp P a W K Q := by
  obtain ⟨w', hrun, a1, a2, a3, a4⟩ := run_append_fillS (P := P) t o.type e i ht hi hsz g cap z cs hF gb off ns hb h1 m c hm hroom n hn
  unfold Oper.wp execOp
  simp only [ho, resolve, invoke, builtin, Sem.run_bind, Sem.run_pure, Result.andThen_ok, List.map_toArray, List.map_cons, List.map_nil, hs, hx, hrun]
  exact h w' a1 a2 a3 a4
end Go.Proofs.Ytdkinfglpnajmaa
