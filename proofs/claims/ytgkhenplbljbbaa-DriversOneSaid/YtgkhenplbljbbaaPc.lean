/- More general lemmas: appending a whole slice; regions that draw their order. No condition; nothing of the program. -/
import Derived.Test.YtgkhenplbljbbaaPb
set_option linter.unusedVariables false
set_option linter.unusedSimpArgs false
set_option linter.unusedSectionVars false
namespace Go.Proofs.Ytgkhenplbljbbaa
open Go.RowKit

theorem since_below {N : Nat} {W w' w1 : World} (h : (∀ b o, b < N → w'.cell? ⟨b, o, none⟩ = W.cell? ⟨b, o, none⟩) ∧ Below N W w') (hb : Below N w' w1) :
    (∀ b o, b < N → w1.cell? ⟨b, o, none⟩ = W.cell? ⟨b, o, none⟩) ∧ Below N W w1 :=
  ⟨fun b o hlt => (hb.cell (p := ⟨b, o, none⟩) hlt).trans (h.1 b o hlt), h.2.trans hb⟩
theorem since_alloc {N : Nat} {W w' : World} {x : Obj} (h : (∀ b o, b < N → w'.cell? ⟨b, o, none⟩ = W.cell? ⟨b, o, none⟩) ∧ Below N W w') (hN : N ≤ W.heap.size) :
    (∀ b o, b < N → (w'.alloc x).cell? ⟨b, o, none⟩ = W.cell? ⟨b, o, none⟩) ∧ Below N W (w'.alloc x) :=
  since_below h ((Below.refl _ _).alloc (Nat.le_trans hN h.2.size) x)

theorem flat_take {size : Nat} : ∀ (css : List (List Value)) (i : Nat) (c : List Value), (∀ c ∈ css, c.length = size) → css[i]? = some c → (css.flatten.drop (i * size)).take size = c
  | [], i, c, _, h => by simp at h
  | x :: r, 0, c, hs, h => by
    have e : x = c := by simpa using h
    subst e
    have hl := hs x (by simp)
    simp [List.flatten_cons, ← hl]
  | x :: r, i + 1, c, hs, h => by
    have hl := hs x (by simp)
    have ih := flat_take r i c (fun c hc => hs c (by simp [hc])) (by simpa using h)
    rw [List.flatten_cons, Nat.succ_mul, Nat.add_comm, List.drop_append, hl, Nat.add_sub_cancel_left]
    rw [List.drop_of_length_le (by omega), List.nil_append]
    exact ih
theorem flat_len {size : Nat} : ∀ (css : List (List Value)), (∀ c ∈ css, c.length = size) → css.flatten.length = css.length * size
  | [], _ => by simp
  | x :: r, hs => by
    rw [List.flatten_cons, List.length_append, flat_len r (fun c hc => hs c (by simp [hc])), hs x (by simp), List.length_cons, Nat.succ_mul, Nat.add_comm]
theorem flat_range {size : Nat} {w : World} {b : Nat} : ∀ (css : List (List Value)) (off : Nat), (∀ c ∈ css, c.length = size) → (∀ i c, css[i]? = some c → w.rangeAt b (off + i * size) c) → w.rangeAt b off css.flatten
  | [], _, _, _ => range_nil
  | x :: r, off, hs, h => by
    have hl := hs x (by simp)
    have ih := flat_range r (off + size) (fun c hc => hs c (by simp [hc])) (fun i c hc => by
      have := h (i + 1) c (by simpa using hc)
      rwa [Nat.succ_mul, show off + (i * size + size) = off + size + i * size by omega] at this)
    intro j v hv
    rw [List.flatten_cons] at hv
    by_cases hj : j < x.length
    · rw [List.getElem?_append_left hj] at hv
      have := h 0 x (by simp) j v hv
      simpa using this
    · rw [List.getElem?_append_right (by omega)] at hv
      have := ih (j - x.length) v hv
      rwa [show off + size + (j - x.length) = off + j by omega] at this

theorem list_of' {α : Type} {Q : Nat → α → Prop} : ∀ (n : Nat), (∀ i, i < n → ∃ a, Q i a) → ∃ xs : List α, xs.length = n ∧ ∀ i x, xs[i]? = some x → Q i x
  | 0, _ => ⟨[], rfl, fun i x h => by simp at h⟩
  | n + 1, h => by
    obtain ⟨xs, hl, hq⟩ := list_of' n (fun i hi => h i (by omega))
    obtain ⟨a, ha⟩ := h n (by omega)
    refine ⟨xs ++ [a], by simp [hl], fun i x hx => ?_⟩
    by_cases hi : i < n
    · rw [List.getElem?_append_left (by omega)] at hx; exact hq i x hx
    · have : i = n := by have := (List.getElem?_eq_some_iff.1 hx).1; simp at this; omega
      subst this
      rw [List.getElem?_append_right (by omega), hl, Nat.sub_self] at hx
      have e : a = x := by simpa using hx
      rw [← e]; exact ha

/-- the cells of a slice that reads as a list -/
theorem Sl.cells {α : Type} {t : Ty α} {w : World} {F : Nat → Prop} {A : Option Addr} {n : Nat} {xs : List α} (h : Sl t w F A n xs) : ∃ news : List Value, news.length = n * t.size ∧
    (0 < n → ∃ b off, A = some ⟨b, off, none⟩ ∧ F b ∧ w.rangeAt b off news) ∧ ∀ i x, xs[i]? = some x → t.rel w F x ((news.drop (i * t.size)).take t.size) := by
  by_cases hn : n = 0
  · subst hn
    refine ⟨[], by simp, fun h => absurd h (by omega), fun i x hx => ?_⟩
    rw [List.eq_nil_of_length_eq_zero h.1] at hx; simp at hx
  · obtain ⟨x0, b, off, cs0, _, hA, hb, _, _⟩ := h.at (k := 0) (by omega)
    have hq : ∀ i, i < n → ∃ c : List Value, (∃ x, xs[i]? = some x ∧ t.rel w F x c) ∧ w.rangeAt b (off + i * t.size) c := by
      intro i hi
      obtain ⟨x, b', off', cs, hx, hA', _, hr, hc⟩ := h.at hi
      rw [hA] at hA'
      injection hA' with e
      injection e with e1 e2
      subst e1 e2
      exact ⟨cs, ⟨x, hx, hr⟩, hc⟩
    obtain ⟨css, hl, hcs⟩ := list_of' (Q := fun i c => (∃ x, xs[i]? = some x ∧ t.rel w F x c) ∧ w.rangeAt b (off + i * t.size) c) n hq
    have hs : ∀ c ∈ css, c.length = t.size := fun c hc => by
      obtain ⟨i, hi, e⟩ := List.getElem_of_mem hc
      obtain ⟨⟨x, _, hr⟩, _⟩ := hcs i c (by rw [List.getElem?_eq_getElem hi, e])
      exact t.len hr
    refine ⟨css.flatten, by rw [flat_len css hs, hl], fun _ => ⟨b, off, hA, hb, flat_range css off hs (fun i c hc => (hcs i c hc).2)⟩, fun i x hx => ?_⟩
    have hi : i < css.length := by rw [hl, ← h.1]; exact (List.getElem?_eq_some_iff.1 hx).1
    obtain ⟨⟨y, hy, hr⟩, _⟩ := hcs i css[i] (List.getElem?_eq_getElem hi)
    rw [flat_take css i css[i] hs (List.getElem?_eq_getElem hi)]
    rw [hx] at hy; injection hy with e; rw [e]; exact hr

/-- append of a slice of nil: nothing happens -/
theorem run_append_nil {P : Program} (w : World) (base : Nat) (t ty e : TypeId) (i : TypeInfo) (size : Nat) (ht : P.underlying t = some (.slice e)) (hi : P.info? e = some i)
    (v : Value) (n : Nat) (xs : List Value) (hown : w.ownsRow base e size v n xs) (c : Nat) : (Builtin.append_ #[t, t] ty #[v, .slice none 0 c]).run P w = .ok v w := by
  rcases hown.2 with ⟨rfl, rfl⟩ | ⟨g, cap, cur, rfl, _, _, hnc, _⟩
  · simp [Builtin.append_, run_underlying ht, sizeOf, typeInfo, hi, Builtin.lenOf, Builtin.firstCells]
  · simp [Builtin.append_, run_underlying ht, sizeOf, typeInfo, hi, Builtin.lenOf, Builtin.firstCells, hnc, storeCells]

/-- append of a whole slice: the run -/
theorem run_append_sl {α : Type} {T : Ty α} {P : Program} {W : World} (t ty : TypeId)
    (base : Nat) (e : TypeId) (i : TypeInfo) (z : Value) (bytes : Nat) (ht : P.underlying t = some (.slice e)) (hi : P.info? e = some i) (hz : i.zero = some z)
    (hsize : i.size = T.size) (hby : i.bytes = bytes) (hzs : z.cells.size = T.size) (hsz : 0 < T.size)
    (v : Value) (n : Nat) (xs : List α) (hown : Own T e base W v n xs)
    (A : Option Addr) (m c : Nat) (ys : List α) (hsl : Sl T W (apart W v) A m ys) (h1 : ∀ x cs, T.rel W (apart W v) x cs → ∀ u ∈ cs, u.oneCell' = true)
    (h63 : n + m ≤ maxLen) (hbytes : (n + m) * bytes ≤ 140737488355328) (hbase : base ≤ W.heap.size) :
    ∃ v' w', (Builtin.append_ #[t, t] ty #[v, .slice A m c]).run P W = .ok v' w' ∧ Own T e base w' v' (n + m) (xs ++ ys) ∧ W.grownBy w' v.ownBlock ∧ Below base W w' ∧ (v'.ownBlock = v.ownBlock ∨ v'.ownBlock = some W.heap.size) := by
  obtain ⟨hl, cells, h2, h3⟩ := hown
  obtain ⟨news, hnl, hnc, hnr⟩ := hsl.cells
  have hone : ∀ u ∈ news, u.oneCell' = true := by
    intro u hu
    obtain ⟨k, hk, e⟩ := List.getElem_of_mem hu
    have hq : k / T.size < m := by rw [Nat.div_lt_iff_lt_mul hsz]; omega
    obtain ⟨y, _, _, _, hy, _⟩ := hsl.at hq
    refine h1 y _ (hnr _ y hy) u ?_
    have hmod := Nat.mod_lt k hsz
    have hdm := Nat.div_add_mod k T.size
    rw [List.mem_iff_getElem?]
    refine ⟨k % T.size, ?_⟩
    rw [List.getElem?_take_of_lt hmod, List.getElem?_drop, Nat.mul_comm, hdm, ← e]
    exact List.getElem?_eq_getElem _
  have hrun : ∃ v' w', (Builtin.append_ #[t, t] ty #[v, .slice A m c]).run P W = .ok v' w' ∧ w'.ownsRow base e T.size v' (n + m) (cells ++ news) ∧ W.grownBy w' v.ownBlock ∧ (v'.ownBlock = v.ownBlock ∨ v'.ownBlock = some W.heap.size) := by
    by_cases hm : m = 0
    · subst hm
      have hnil : news = [] := List.eq_nil_of_length_eq_zero (by simpa using hnl)
      subst hnil
      cases A with
      | none => exact ⟨v, W, run_append_nil W base t ty e i T.size ht hi v n cells h2 c, by simpa using h2, World.grownBy.refl W _, .inl rfl⟩
      | some ad =>
        obtain ⟨v', w', hr, a1, a2, _, a4⟩ := run_append_own_at (P := P) W base t ty e i z T.size bytes ht hi hz hsize hby hzs hsz v n cells h2 ad 0 c [] (by simp) (fun j u h => by simp at h) (fun u h => by cases h) h63 hbytes hbase
        exact ⟨v', w', hr, a1, a2, a4⟩
    · obtain ⟨b, off, rfl, _, hra⟩ := hnc (by omega)
      obtain ⟨v', w', hr, a1, a2, _, a4⟩ := run_append_own_at (P := P) W base t ty e i z T.size bytes ht hi hz hsize hby hzs hsz v n cells h2 ⟨b, off, none⟩ m c news hnl (fun j u hu => by rw [Addr.add_mid]; exact hra j u hu) hone h63 hbytes hbase
      exact ⟨v', w', hr, a1, a2, a4⟩
  obtain ⟨v', w', hr, ho', hg, hat⟩ := hrun
  have hc : cells.length = n * T.size := h2.1
  have hys := hsl.1
  refine ⟨v', w', hr, ⟨by simp [hl, hys], cells ++ news, ho', fun j y hy => ?_⟩, hg, (Below.refl _ _).grown hg hbase (fun k hk => (h2.lt k hk).1), hat⟩
  have hk : ∀ b o, apart W v b → w'.cell? ⟨b, o, none⟩ = W.cell? ⟨b, o, none⟩ := fun b o hb => World.cell?_of_block (a := ⟨b, o, none⟩) (hg.block b hb.1 (fun e => hb.2 e.symm))
  have hF : ∀ b, apart W v b → apart w' v' b := fun b hb => ⟨Nat.lt_of_lt_of_le hb.1 hg.size, fun e => by
    rcases hat with h | h
    · exact hb.2 (by rw [← h, e])
    · rw [h] at e; injection e with e; have := hb.1; omega⟩
  by_cases hj : j < n
  · rw [List.getElem?_append_left (by omega)] at hy
    have hle : (j + 1) * T.size ≤ n * T.size := Nat.mul_le_mul_right _ hj
    rw [Nat.succ_mul] at hle
    have e1 : ((cells ++ news).drop (j * T.size)).take T.size = (cells.drop (j * T.size)).take T.size := by
      rw [List.drop_append_of_le_length (by omega), List.take_append_of_le_length (by simp; omega)]
    rw [e1]
    exact T.keep (h3 j y hy) hF hk
  · rw [List.getElem?_append_right (by omega)] at hy
    rw [hl] at hy
    have e2 : j * T.size = cells.length + (j - n) * T.size := by rw [hc, ← Nat.add_mul]; congr 1; omega
    rw [e2, List.drop_append, Nat.add_sub_cancel_left, List.drop_of_length_le (by omega), List.nil_append]
    exact T.keep (hnr _ y hy) hF hk

theorem wp_append_sl {α : Type} {T : Ty α} {P : Program} {W : World} {o : Oper} {a : Act} {K : Act → World → Prop} {Q : Exit → Act → World → Prop} (s x : Operand) (t : TypeId)
    (ho : o.op = .call { callee := .builtin .append, args := #[s, x], argTypes := #[t, t] })
    (base : Nat) (e : TypeId) (i : TypeInfo) (z : Value) (bytes : Nat) (ht : P.underlying t = some (.slice e)) (hi : P.info? e = some i) (hz : i.zero = some z)
    (hsize : i.size = T.size) (hby : i.bytes = bytes) (hzs : z.cells.size = T.size) (hsz : 0 < T.size)
    (v : Value) (n : Nat) (xs : List α) (hs : a.eval s = v) (hown : Own T e base W v n xs)
    (A : Option Addr) (m c : Nat) (ys : List α) (hx : a.eval x = .slice A m c) (hsl : Sl T W (apart W v) A m ys) (h1 : ∀ x cs, T.rel W (apart W v) x cs → ∀ u ∈ cs, u.oneCell' = true)
    (h63 : n + m ≤ maxLen) (hbytes : (n + m) * bytes ≤ 140737488355328) (hbase : base ≤ W.heap.size)
    (h : ∀ v' w', Own T e base w' v' (n + m) (xs ++ ys) → W.grownBy w' v.ownBlock → Below base W w' → (v'.ownBlock = v.ownBlock ∨ v'.ownBlock = some W.heap.size) → K (a.put o.dst v') w') : o.wp P a W K Q := by
  obtain ⟨v', w', hrun, h2, h3, h4, h5⟩ := run_append_sl (P := P) t o.type base e i z bytes ht hi hz hsize hby hzs hsz v n xs hown A m c ys hsl h1 h63 hbytes hbase
  unfold Oper.wp execOp
  simp only [ho, resolve, invoke, builtin, Sem.run_bind, Sem.run_pure, Result.andThen_ok, List.map_toArray, List.map_cons, List.map_nil, hs, hx, hrun]
  exact h v' w' h2 h3 h4 h5
theorem step_append_sl {α : Type} {T : Ty α} {P : Program} {W : World} {ops : Array Oper} {o : Oper} {a : Act} {K : Act → World → Prop} {Q : Exit → Act → World → Prop} {E : Prop} (hgd : o.guard = none) (s x : Operand) (t : TypeId)
    (ho : o.op = .call { callee := .builtin .append, args := #[s, x], argTypes := #[t, t] })
    (base : Nat) (e : TypeId) (i : TypeInfo) (z : Value) (bytes : Nat) (ht : P.underlying t = some (.slice e)) (hi : P.info? e = some i) (hz : i.zero = some z)
    (hsize : i.size = T.size) (hby : i.bytes = bytes) (hzs : z.cells.size = T.size) (hsz : 0 < T.size)
    (v : Value) (n : Nat) (xs : List α) (hs : a.eval s = v) (hown : Own T e base W v n xs)
    (A : Option Addr) (m c : Nat) (ys : List α) (hx : a.eval x = .slice A m c) (hsl : Sl T W (apart W v) A m ys) (h1 : ∀ x cs, T.rel W (apart W v) x cs → ∀ u ∈ cs, u.oneCell' = true)
    (h63 : n + m ≤ maxLen) (hbytes : (n + m) * bytes ≤ 140737488355328) (hbase : base ≤ W.heap.size)
    (h : ∀ v' w', Own T e base w' v' (n + m) (xs ++ ys) → W.grownBy w' v.ownBlock → Below base W w' → (v'.ownBlock = v.ownBlock ∨ v'.ownBlock = some W.heap.size) → K (a.put o.dst v') w') :
    if Region.wanted o (yielded ops a.tmps) = true then Oper.wp P o a W K Q else E := by
  have hw : Region.wanted o (yielded ops a.tmps) = true := by simp [Region.wanted, hgd]
  rw [if_pos hw]
  exact wp_append_sl s x t ho base e i z bytes ht hi hz hsize hby hzs hsz v n xs hs hown A m c ys hx hsl h1 h63 hbytes hbase h
theorem heap_grown {w w' : World} {n : Nat} {u : Obj} {row : Option Nat} (hg : w.grownBy w' row) (h : w.heap[n]? = some u) (hne : some n ≠ row) : w'.heap[n]? = some u := (hg.block n (Array.getElem?_eq_some_iff.1 h).1 hne).trans h
/-- a slice that was there reads so apart from a row of the call's own -/
theorem sl_apart {α : Type} {t : Ty α} {N n : Nat} {W W' : World} {A : Option Addr} {xs : List α} {v : Value} (h : Sl t W (low N) A n xs) (hS : (∀ b o, b < N → W'.cell? ⟨b, o, none⟩ = W.cell? ⟨b, o, none⟩) ∧ Below N W W') (hN : N ≤ W.heap.size)
    (hv : ∀ g, v.ownBlock = some g → N ≤ g) : Sl t W' (apart W' v) A n xs :=
  h.keep (fun b hb => ⟨Nat.lt_of_lt_of_le (Nat.lt_of_lt_of_le hb hN) hS.2.size, fun e => by have := hv b e; have : b < N := hb; omega⟩) (fun b o hb => hS.1 b o hb)
/-- an empty slice literal -/
theorem Own.lit0 {α : Type} (t : Ty α) (e : TypeId) (w : World) {base b : Nat} (hb : base ≤ b) (h : w.heap[b]? = some (.cells #[] e (0, 0))) : Own t e base w (.slice (some ⟨b, 0, none⟩) 0 0) 0 [] :=
  ⟨rfl, [], ⟨by simp, .inr ⟨b, 0, #[], rfl, hb, h, Nat.le_refl _, by decide, by simp, by simp⟩⟩, fun i x h => by simp at h⟩
end Go.Proofs.Ytgkhenplbljbbaa
