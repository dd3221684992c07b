/- A row of a fixed capacity that a call fills: append where there is room. No condition; nothing of the program. -/
import Derived.Test.YtokijdgakphfiaaDoorPd
import Derived.ArgAppend
namespace Go.Proofs.YtokijdgakphfiaaDoor
open Go.RowKit

/-- block g is a row of so many cells, of which these are filled -/
def Fill (w : World) (g : Nat) (t : TypeId) (cap : Nat) (z : Value) (cs : List Value) : Prop :=
  w.heap[g]? = some (.cells (cs ++ List.replicate (cap - cs.length) z).toArray t (0, 0)) ∧ cs.length ≤ cap
theorem heap_setCells {g : Nat} {t : TypeId} : ∀ (vs A B C : List Value) (w : World), vs.length = B.length → w.heap[g]? = some (.cells (A ++ B ++ C).toArray t (0, 0)) →
    (w.setCells g A.length vs).heap[g]? = some (.cells (A ++ vs ++ C).toArray t (0, 0))
  | [], A, [], C, w, _, h => h
  | [], A, b :: B, C, w, hl, _ => by simp at hl
  | v :: vs, A, [], C, w, hl, _ => by simp at hl
  | v :: vs, A, b :: B, C, w, hl, h => by
    have h1 := heap_store (i := A.length) h v
    have e1 : (A ++ b :: B ++ C).toArray.setIfInBounds A.length v = ((A ++ [v]) ++ B ++ C).toArray := by
      apply Array.toList_inj.1
      simp
    rw [e1] at h1
    have h2 := heap_setCells vs (A ++ [v]) B C (w.setCell ⟨g, A.length, none⟩ v) (by simpa using hl) h1
    rw [List.length_append] at h2
    have e2 : A ++ [v] ++ vs ++ C = A ++ v :: vs ++ C := by simp
    rw [e2] at h2
    exact h2
theorem heap_setCells_other {g k : Nat} (hne : k ≠ g) : ∀ (vs : List Value) (o : Nat) (w : World), (w.setCells g o vs).heap[k]? = w.heap[k]?
  | [], _, _ => rfl
  | v :: vs, o, w => (heap_setCells_other hne vs (o + 1) _).trans (heap_setCell_other w ⟨g, o, none⟩ k v hne)
theorem size_setCells {g : Nat} : ∀ (vs : List Value) (o : Nat) (w : World), (w.setCells g o vs).heap.size = w.heap.size
  | [], _, _ => rfl
  | v :: vs, o, w => by
    have := size_setCells (g := g) vs (o + 1) (w.setCell ⟨g, o, none⟩ v)
    rw [World.size_setCell] at this
    exact this
theorem below_setCells {g B : Nat} {w0 : World} (hB : B ≤ g) : ∀ (vs : List Value) (o : Nat) (w : World), Below B w0 w → Below B w0 (w.setCells g o vs)
  | [], _, _, h => h
  | v :: vs, o, w, h => below_setCells hB vs (o + 1) _ (h.setCell hB v)

/-- append into a row that has room: the run -/
theorem run_append_fill {P : Program} {w : World} (t ty e : TypeId) (i : TypeInfo) (ht : P.underlying t = some (.slice e)) (hi : P.info? e = some i) (hs : i.size = 1) (g cap : Nat) (z : Value) (cs : List Value) (hF : Fill w g e cap z cs)
    (gb : Nat) (ns : Array Value) (te : TypeId) (hb : w.heap[gb]? = some (.cells ns te (0, 0))) (h1 : ∀ u ∈ ns.toList, u.oneCell' = true) (hroom : cs.length + ns.size ≤ cap) (n : Nat) (hn : n = cs.length) (m c : Nat) (hm : m = ns.size) :
    ∃ w', (Builtin.append_ #[t, t] ty #[.slice (some ⟨g, 0, none⟩) n cap, .slice (some ⟨gb, 0, none⟩) m c]).run P w = .ok (.slice (some ⟨g, 0, none⟩) (n + m) cap) w' ∧
      Fill w' g e cap z (cs ++ ns.toList) ∧ w'.heap.size = w.heap.size ∧ (∀ k, k ≠ g → w'.heap[k]? = w.heap[k]?) ∧ (∀ B w0, B ≤ g → Below B w0 w → Below B w0 w') := by
  subst hn hm
  obtain ⟨hh, hc⟩ := hF
  have hlen : ns.toList.length = ns.size := by simp
  have hcell : ∀ j, j < cap → ∃ v, w.cell? ⟨g, j, none⟩ = some v := by
    intro j hj
    rw [cell_of_row _ _ _ _ _ _ hh]
    have : j < (cs ++ List.replicate (cap - cs.length) z).toArray.size := by simp; omega
    exact ⟨_, Array.getElem?_eq_getElem this⟩
  have hrun := run_append_room_cells (P := P) (w := w) t ty e i ht hi g 0 cs.length cap ⟨gb, 0, none⟩ ns.size c ns.toList (by rw [hlen, hs, Nat.mul_one])
    (fun j u hu => by rw [Addr.add_mid, cell_of_row _ _ _ _ _ _ hb]; simpa using hu) h1 hroom
    (fun j hj => by
      rw [hlen] at hj
      obtain ⟨v, hv⟩ := hcell (0 + cs.length * i.size + j) (by rw [hs]; omega)
      rw [hv]; rfl)
    (fun j hj => frozen_heap hh)
  rw [hs, Nat.mul_one, Nat.zero_add] at hrun
  refine ⟨_, hrun, ⟨?_, ?_⟩, size_setCells _ _ _, fun k hk => heap_setCells_other hk _ _ _, fun B w0 hB hb => below_setCells hB _ _ _ hb⟩
  · have h3 := heap_setCells (g := g) (t := e) ns.toList cs (List.replicate ns.size z) (List.replicate (cap - cs.length - ns.size) z) w (by simp) (by
      rw [hh, List.append_assoc, List.replicate_append_replicate]
      congr 5
      omega)
    rw [h3, List.length_append, hlen]
    congr 5
    omega
  · rw [List.length_append, hlen]; exact hroom

theorem wp_append_fill {P : Program} {W : World} {o : Oper} {a : Act} {K : Act → World → Prop} {Q : Exit → Act → World → Prop} (s x : Operand) (t : TypeId)
    (ho : o.op = .call { callee := .builtin .append, args := #[s, x], argTypes := #[t, t] })
    (e : TypeId) (i : TypeInfo) (ht : P.underlying t = some (.slice e)) (hi : P.info? e = some i) (hsz : i.size = 1) (g n cap : Nat) (z : Value) (cs : List Value) (hs : a.eval s = .slice (some ⟨g, 0, none⟩) n cap) (hF : Fill W g e cap z cs) (hn : n = cs.length)
    (gb m c : Nat) (ns : Array Value) (te : TypeId) (hx : a.eval x = .slice (some ⟨gb, 0, none⟩) m c) (hb : W.heap[gb]? = some (.cells ns te (0, 0))) (hm : m = ns.size) (h1 : ∀ u ∈ ns.toList, u.oneCell' = true) (hroom : cs.length + ns.size ≤ cap)
    (h : ∀ w', Fill w' g e cap z (cs ++ ns.toList) → w'.heap.size = W.heap.size → (∀ k, k ≠ g → w'.heap[k]? = W.heap[k]?) → (∀ B w0, B ≤ g → Below B w0 W → Below B w0 w') → K (a.put o.dst (.slice (some ⟨g, 0, none⟩) (n + m) cap)) w') : o.wp P a W K Q := by
  obtain ⟨w', hrun, a1, a2, a3, a4⟩ := run_append_fill (P := P) t o.type e i ht hi hsz g cap z cs hF gb ns te hb h1 hroom n hn m c hm
  unfold Oper.wp execOp
  simp only [ho, resolve, invoke, builtin, Sem.run_bind, Sem.run_pure, Result.andThen_ok, List.map_toArray, List.map_cons, List.map_nil, hs, hx, hrun]
  exact h w' a1 a2 a3 a4
theorem wpList_append_fill {P : Program} {W : World} {ops : Array Oper} {rest : List Oper} {o : Oper} {a : Act} {Q : Exit → Act → World → Prop} (hgd : o.guard = none) (s x : Operand) (t : TypeId)
    (ho : o.op = .call { callee := .builtin .append, args := #[s, x], argTypes := #[t, t] })
    (e : TypeId) (i : TypeInfo) (ht : P.underlying t = some (.slice e)) (hi : P.info? e = some i) (hsz : i.size = 1) (g n cap : Nat) (z : Value) (cs : List Value) (hs : a.eval s = .slice (some ⟨g, 0, none⟩) n cap) (hF : Fill W g e cap z cs) (hn : n = cs.length)
    (gb m c : Nat) (ns : Array Value) (te : TypeId) (hx : a.eval x = .slice (some ⟨gb, 0, none⟩) m c) (hb : W.heap[gb]? = some (.cells ns te (0, 0))) (hm : m = ns.size) (h1 : ∀ u ∈ ns.toList, u.oneCell' = true) (hroom : cs.length + ns.size ≤ cap)
    (h : ∀ w', Fill w' g e cap z (cs ++ ns.toList) → w'.heap.size = W.heap.size → (∀ k, k ≠ g → w'.heap[k]? = W.heap[k]?) → (∀ B w0, B ≤ g → Below B w0 W → Below B w0 w') → wpList P ops Q rest (a.put o.dst (.slice (some ⟨g, 0, none⟩) (n + m) cap)) w') :
    wpList P ops Q (o :: rest) a W :=
  wpList_plain hgd fun _ hK => wp_append_fill s x t ho e i ht hi hsz g n cap z cs hs hF hn gb m c ns te hx hb hm h1 hroom fun w' h1 h2 h3 h4 => hK _ _ (h w' h1 h2 h3 h4)
theorem step_append_fill {P : Program} {W : World} {ops : Array Oper} {o : Oper} {a : Act} {K : Act → World → Prop} {Q : Exit → Act → World → Prop} {E : Prop} (hgd : o.guard = none) (s x : Operand) (t : TypeId)
    (ho : o.op = .call { callee := .builtin .append, args := #[s, x], argTypes := #[t, t] })
    (e : TypeId) (i : TypeInfo) (ht : P.underlying t = some (.slice e)) (hi : P.info? e = some i) (hsz : i.size = 1) (g n cap : Nat) (z : Value) (cs : List Value) (hs : a.eval s = .slice (some ⟨g, 0, none⟩) n cap) (hF : Fill W g e cap z cs) (hn : n = cs.length)
    (gb m c : Nat) (ns : Array Value) (te : TypeId) (hx : a.eval x = .slice (some ⟨gb, 0, none⟩) m c) (hb : W.heap[gb]? = some (.cells ns te (0, 0))) (hm : m = ns.size) (h1 : ∀ u ∈ ns.toList, u.oneCell' = true) (hroom : cs.length + ns.size ≤ cap)
    (h : ∀ w', Fill w' g e cap z (cs ++ ns.toList) → w'.heap.size = W.heap.size → (∀ k, k ≠ g → w'.heap[k]? = W.heap[k]?) → (∀ B w0, B ≤ g → Below B w0 W → Below B w0 w') → K (a.put o.dst (.slice (some ⟨g, 0, none⟩) (n + m) cap)) w') :
    if Region.wanted o (yielded ops a.tmps) = true then Oper.wp P o a W K Q else E := by
  have hw : Region.wanted o (yielded ops a.tmps) = true := by simp [Region.wanted, hgd]
  rw [if_pos hw]
  exact wp_append_fill s x t ho e i ht hi hsz g n cap z cs hs hF hn gb m c ns te hx hb hm h1 hroom h
end Go.Proofs.YtokijdgakphfiaaDoor
