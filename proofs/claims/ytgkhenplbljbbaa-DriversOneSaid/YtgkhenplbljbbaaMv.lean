/- Maps whose elements are any values: what stands at a key, as a function of the key. No condition; nothing of the program. -/
import Derived.Test.YtgkhenplbljbbaaPb
import Derived.Maps.Views
import Derived.Maps.OwnOps
import Derived.Maps.OwnSet
import Derived.StringKeys
set_option linter.unusedVariables false
set_option linter.unusedSimpArgs false
set_option linter.unusedSectionVars false
namespace Go.Proofs.Ytgkhenplbljbbaa
open Go.RowKit Go.WideShapes Go.Maps

/-- an element reads as itself -/
def anyR (v : Value) : Option (DataW Value × List MemPlace) := some (.held v, [])
def heldO : Option Value → DataW Value | some v => .held v | none => .nil
/-- block b is a map of at most n entries; f says what stands at a key -/
def MapIs (P : Program) (k : TypeId) (w : World) (b n : Nat) (f : Lit → Option Value) : Prop :=
  ∃ D, w.ownsMap P k anyR b n D ∧ ∀ kl, KeysOf P k kl → D.atKey kl .nil = heldO (f kl)
/-- the same behind a store -/
def putF (f : Lit → Option Value) (kl : Lit) (v : Value) : Lit → Option Value := fun x => if x.sameKey kl then some v else f x
def delF (f : Lit → Option Value) (kl : Lit) : Lit → Option Value := fun x => if x.sameKey kl then none else f x

section
variable {P : Program} {k t e : TypeId} {w : World} {b n : Nat} {f : Lit → Option Value} {z key : Value} {kl : Lit}
theorem MapIs.lt (h : MapIs P k w b n f) : b < w.heap.size := by obtain ⟨D, h, _⟩ := h; exact h.lt
theorem MapIs.kept {w' : World} {row : Option Nat} (h : MapIs P k w b n f) (hg : w.grownBy w' row) (hne : some b ≠ row) : MapIs P k w' b n f := by
  obtain ⟨D, h, hf⟩ := h; exact ⟨D, h.kept hg hne, hf⟩
theorem MapIs.keep {w' : World} (h : MapIs P k w b n f) (hk : Kept w w') : MapIs P k w' b n f := h.kept (grown_of_kept hk none) (by simp)
theorem MapIs.mono (h : MapIs P k w b n f) {n' : Nat} (hn : n ≤ n') : MapIs P k w b n' f := by
  obtain ⟨D, h, hf⟩ := h; exact ⟨D, h.mono hn, hf⟩
theorem MapIs.setCell (h : MapIs P k w b n f) {a : Addr} (ha : b ≠ a.block) (u : Value) : MapIs P k (w.setCell a u) b n f := by
  obtain ⟨D, h, hf⟩ := h; exact ⟨D, h.setCell ha u, hf⟩
theorem MapIs.congr {f' : Lit → Option Value} (h : MapIs P k w b n f) (hf : ∀ kl, KeysOf P k kl → f kl = f' kl) : MapIs P k w b n f' := by
  obtain ⟨D, h, h2⟩ := h; exact ⟨D, h, fun kl hk => by rw [h2 kl hk, hf kl hk]⟩
theorem MapIs.made (w : World) (P : Program) (k : TypeId) : MapIs P k (w.alloc (.map #[] 0)) w.heap.size 0 (fun _ => none) :=
  ⟨_, World.ownsMap_made w P k anyR, fun _ _ => rfl⟩
theorem MapIs.look (h : MapIs P k w b n f) (K : Keyed P k) (ht : P.underlying t = some (.map k e)) (hz : (zeroValue e).run P w = .ok z w) (hkey : keyOf P k key = some kl) (c : Bool) :
    (Instr.lookup t (.map (some b)) key c).run P w = .ok (if c then .tuple #[(f kl).getD z, .bool (f kl).isSome] else (f kl).getD z) w := by
  obtain ⟨D, ⟨es, clock, hb, F, hs, rfl⟩, hf⟩ := h
  have h0 := hf kl ⟨key, hkey⟩
  rcases fit_look c K ht hz hb F hkey with ⟨hrun, _, hat⟩ | ⟨e0, y, _, _, hrun, hR, hat, _⟩
  · rw [hat .nil] at h0
    cases hk : f kl with
    | none => rw [hrun]; rfl
    | some v => rw [hk] at h0; cases h0
  · rw [hat .nil] at h0
    have hy : y = (.held e0.val, []) := by have := hR; unfold anyR at this; injection this with this; exact this.symm
    rw [hy] at h0
    cases hk : f kl with
    | none => rw [hk] at h0; cases h0
    | some v =>
      rw [hk] at h0
      have e : e0.val = v := by injection h0
      rw [hrun, e]; rfl
theorem MapIs.update (h : MapIs P k w b n f) (K : Keyed P k) (ht : P.underlying t = some (.map k e)) (hn : n < maxLen) (val : Value) (hkey : keyOf P k key = some kl) :
    ∃ w', (Instr.mapUpdate t (.map (some b)) key val).run P w = .ok () w' ∧ MapIs P k w' b (n + 1) (putF f kl val) ∧ w.grownBy w' (some b) := by
  obtain ⟨D, h, hf⟩ := h
  have hmap : IsMap D := h.isMap
  obtain ⟨w', hrun, h1, h2⟩ := h.update K ht hn hkey (val := val) (d := .held val) (ps := []) rfl
  refine ⟨w', hrun, ⟨_, h1, fun kx hx => ?_⟩, h2⟩
  unfold putF
  by_cases hne : kx = kl
  · subst hne
    rw [atKey_put_same hmap (K.key hkey), WideAt.sameKey_self (K.key hkey)]; rfl
  · rw [atKey_put_other hne, sameKey_ne hne, hf kx hx]; rfl
theorem MapIs.drop (h : MapIs P k w b n f) (K : Keyed P k) (ht : P.underlying t = some (.map k e)) (hkey : keyOf P k key = some kl) (ty : TypeId) :
    ∃ w', (Builtin.delete_ #[t, k] ty #[.map (some b), key]).run P w = .ok (.tuple #[]) w' ∧ MapIs P k w' b n (delF f kl) ∧ w.grownBy w' (some b) := by
  obtain ⟨D, h, hf⟩ := h
  obtain ⟨w', hrun, h1, h2⟩ := h.drop K ht hkey ty
  refine ⟨w', hrun, ⟨_, h1, fun kx hx => ?_⟩, h2.grown⟩
  unfold delF
  by_cases hne : kx = kl
  · subst hne
    rw [atKey_del_same, WideAt.sameKey_self (K.key hkey)]; rfl
  · rw [atKey_del_other hne, sameKey_ne hne, hf kx hx]; rfl
end

section
variable {P : Program} (w : World) {ops : Array Oper} {rest : List Oper} {o : Oper} {a : Act} {Q : Exit → Act → World → Prop}
theorem wpList_look_any (hg : o.guard = none) (m x : Operand) (t : TypeId) (c : Bool) (hop : o.op = Op.lookup t m x c)
    (k e : TypeId) (K : Keyed P k) (ht : P.underlying t = some (.map k e)) {z : Value} (hz : (zeroValue e).run P w = .ok z w) (b n : Nat) (f : Lit → Option Value)
    (hm : a.eval m = .map (some b)) (hown : MapIs P k w b n f) (key : Value) (kl : Lit) (hx : a.eval x = key) (hkey : keyOf P k key = some kl)
    (hK : wpList P ops Q rest (a.put o.dst (if c then .tuple #[(f kl).getD z, .bool (f kl).isSome] else (f kl).getD z)) w) :
    wpList P ops Q (o :: rest) a w := by
  refine wpList_plain hg fun K' hK' => ?_
  have hrun := hown.look K ht hz hkey c
  generalize (if c then Value.tuple #[(f kl).getD z, .bool (f kl).isSome] else (f kl).getD z) = V at *
  unfold Oper.wp
  simp [execOp, hop, hm, hx, hrun, Result.andThen]
  exact hK' _ _ hK
theorem wpList_store_any (hg : o.guard = none) (m x v : Operand) (t : TypeId) (hop : o.op = Op.mapUpdate t m x v)
    (k e : TypeId) (K : Keyed P k) (ht : P.underlying t = some (.map k e)) (b n : Nat) (f : Lit → Option Value)
    (hm : a.eval m = .map (some b)) (hown : MapIs P k w b n f) (hn : n < maxLen) (key val : Value) (kl : Lit) (hx : a.eval x = key) (hv : a.eval v = val) (hkey : keyOf P k key = some kl)
    (hK : ∀ w', MapIs P k w' b (n + 1) (putF f kl val) → w.grownBy w' (some b) → wpList P ops Q rest (a.put o.dst undef) w') :
    wpList P ops Q (o :: rest) a w := by
  refine wpList_plain hg fun K' hK' => ?_
  obtain ⟨w', hrun, r1, r2⟩ := hown.update K ht hn val hkey
  unfold Oper.wp
  simp [execOp, hop, hm, hx, hv, hrun, Result.andThen]
  exact hK' _ _ (hK w' r1 r2)
theorem wpList_delete_any (hg : o.guard = none) (m x : Operand) (t k : TypeId) (hop : o.op = Op.call { callee := Callee.builtin Builtin.delete, args := #[m, x], argTypes := #[t, k] })
    (e : TypeId) (K : Keyed P k) (ht : P.underlying t = some (.map k e)) (b n : Nat) (f : Lit → Option Value)
    (hm : a.eval m = .map (some b)) (hown : MapIs P k w b n f) (key : Value) (kl : Lit) (hx : a.eval x = key) (hkey : keyOf P k key = some kl)
    (hK : ∀ w', MapIs P k w' b n (delF f kl) → w.grownBy w' (some b) → wpList P ops Q rest (a.put o.dst (.tuple #[])) w') :
    wpList P ops Q (o :: rest) a w := by
  refine wpList_plain hg fun K' hK' => ?_
  obtain ⟨w', hrun, r1, r2⟩ := hown.drop K ht hkey o.type
  unfold Oper.wp
  simp [execOp, hop, resolve, invoke, builtin, hm, hx, hrun, Result.andThen]
  exact hK' _ _ (hK w' r1 r2)
end
end Go.Proofs.Ytgkhenplbljbbaa
