/- What a drawn region or a loop knows if it stores into one block alone; an append of a whole slice in a list of operations. No condition; nothing of the program. -/
import Derived.Test.YtgkhenplbljbbaaPc
import Derived.Test.YtgkhenplbljbbaaPd
set_option linter.unusedVariables false
set_option linter.unusedSimpArgs false
set_option linter.unusedSectionVars false
namespace Go.Proofs.Ytgkhenplbljbbaa
open Go.RowKit
/-- all cells but those of one block are as they were -/
abbrev But (W : World) (X : Nat) (w' : World) : Prop := (∀ b o, b < W.heap.size → b ≠ X → w'.cell? ⟨b, o, none⟩ = W.cell? ⟨b, o, none⟩) ∧ W.grownBy w' (some X)
theorem But.start {W : World} {X : Nat} : But W X W.drew := ⟨fun _ _ _ _ => rfl, ⟨rfl, rfl, rfl, Nat.le_refl _, fun _ _ _ => rfl⟩⟩
theorem grown_comp {a b c : World} {X : Nat} (h : a.grownBy b (some X)) (k : b.grownBy c (some X)) : a.grownBy c (some X) :=
  ⟨k.os.trans h.os, k.tape.trans h.tape, k.output.trans h.output, Nat.le_trans h.size k.size, fun i hi hne => (k.block i (Nat.lt_of_lt_of_le hi h.size) hne).trans (h.block i hi hne)⟩
theorem But.then {W w1 w2 : World} {X : Nat} (h : But W X w1) (k : w1.grownBy w2 (some X)) : But W X w2 :=
  ⟨fun b o hb hne => (World.cell?_of_block (a := ⟨b, o, none⟩) (k.block b (Nat.lt_of_lt_of_le hb h.2.size) (by simpa using hne))).trans (h.1 b o hb hne), grown_comp h.2 k⟩
theorem heap_but {W w1 : World} {X b : Nat} {u : Obj} (h : W.grownBy w1 (some X)) (hb : W.heap[b]? = some u) (hne : b ≠ X) : w1.heap[b]? = some u := (h.block b (heap_lt hb) (by simpa using hne)).trans hb
theorem kept_but {w W w1 : World} {X : Nat} (h : Kept w W) (k : W.grownBy w1 (some X)) (hX : w.heap.size ≤ X) : Kept w w1 := h.grown k h.size (fun q hq => by injection hq with hq; omega)
theorem grown_set {w w1 : World} {X : Nat} (h : Kept w w1) (v : Value) : w.grownBy (w1.setCell ⟨X, 0, none⟩ v) (some X) :=
  ⟨h.os, h.tape, h.output, by rw [World.size_setCell]; exact h.size, fun k hk hne => (Below.heap_setCell _ _ _ k (fun e => hne (by rw [e]))).trans (h.block k hk)⟩
theorem grown_any {w w1 : World} {X : Nat} (h : Kept w w1) : w.grownBy w1 (some X) := ⟨h.os, h.tape, h.output, h.size, fun k hk _ => h.block k hk⟩
theorem grown_at {v w1 : World} {X : Nat} (h : v.grownBy w1 (some X)) (o : Nat) (u : Value) : v.grownBy (w1.setCell ⟨X, o, none⟩ u) (some X) :=
  ⟨h.os, h.tape, h.output, by rw [World.size_setCell]; exact h.size, fun k hk hne => (Below.heap_setCell _ _ _ k (fun e => hne (by rw [e]))).trans (h.block k hk hne)⟩
theorem grown_self {v : World} {X : Nat} : v.grownBy v (some X) := ⟨rfl, rfl, rfl, Nat.le_refl _, fun _ _ _ => rfl⟩
theorem wpList_append_sl {α : Type} {T : Ty α} {P : Program} {W : World} {ops : Array Oper} {rest : List Oper} {o : Oper} {a : Act} {Q : Exit → Act → World → Prop} (hgd : o.guard = none) (s x : Operand) (t : TypeId)
    (ho : o.op = .call { callee := .builtin .append, args := #[s, x], argTypes := #[t, t] })
    (base : Nat) (e : TypeId) (i : TypeInfo) (z : Value) (bytes : Nat) (ht : P.underlying t = some (.slice e)) (hi : P.info? e = some i) (hz : i.zero = some z)
    (hsize : i.size = T.size) (hby : i.bytes = bytes) (hzs : z.cells.size = T.size) (hsz : 0 < T.size)
    (v : Value) (n : Nat) (xs : List α) (hs : a.eval s = v) (hown : Own T e base W v n xs)
    (A : Option Addr) (m c : Nat) (ys : List α) (hx : a.eval x = .slice A m c) (hsl : Sl T W (apart W v) A m ys) (h1 : ∀ x cs, T.rel W (apart W v) x cs → ∀ u ∈ cs, u.oneCell' = true)
    (h63 : n + m ≤ maxLen) (hbytes : (n + m) * bytes ≤ 140737488355328) (hbase : base ≤ W.heap.size)
    (h : ∀ v' w', Own T e base w' v' (n + m) (xs ++ ys) → W.grownBy w' v.ownBlock → Below base W w' → (v'.ownBlock = v.ownBlock ∨ v'.ownBlock = some W.heap.size) → wpList P ops Q rest (a.put o.dst v') w') : wpList P ops Q (o :: rest) a W :=
  wpList_plain hgd fun _ hK => wp_append_sl s x t ho base e i z bytes ht hi hz hsize hby hzs hsz v n xs hs hown A m c ys hx hsl h1 h63 hbytes hbase fun v' w' h1 h2 h3 h4 => hK _ _ (h v' w' h1 h2 h3 h4)
end Go.Proofs.Ytgkhenplbljbbaa
