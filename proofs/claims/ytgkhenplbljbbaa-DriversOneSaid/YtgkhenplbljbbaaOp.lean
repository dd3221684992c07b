/- Arguments of a law, read as data, give lists and structs of the lemmas on worlds. No condition; nothing of the program. -/
import Derived.Test.YtgkhenplbljbbaaPb
import Derived.ProofKit
import Derived.OpenShut
import Derived.ShutString
import Derived.ChangeOld
import Derived.Deep.Slices
import Derived.Deep.Fields
import Derived.ChangeSame
set_option linter.unusedVariables false
set_option linter.unusedSimpArgs false
set_option linter.unusedSectionVars false
namespace Go.Proofs.Ytgkhenplbljbbaa
open Go.RowKit Go.ChangeShapes Go.WideShapes Go.Deep Go.ChangeAt

/-- whatever reads as data of type t is some value of T -/
def Opens {α : Type} (P : Program) (t : TypeId) (T : Ty α) (ok : α → Prop) : Prop :=
  ∀ {H : Type} {enc : TypeId × Value → H} {W : World} {fuel : Nat} {cs : List Value} {x : DataW H × List MemPlace}, DataW.trod enc P W 0 (fun _ => true) true fuel t cs = some x → ∃ a : α, T.rel W (low W.heap.size) a cs ∧ ok a

theorem list_of {α : Type} {Q : Nat → α → Prop} : ∀ (n : Nat), (∀ i, i < n → ∃ a, Q i a) → ∃ xs : List α, xs.length = n ∧ ∀ i x, xs[i]? = some x → Q i x
  | 0, _ => ⟨[], rfl, fun i x h => by simp at h⟩
  | n + 1, h => by
    obtain ⟨xs, hl, hq⟩ := list_of n (fun i hi => h i (by omega))
    obtain ⟨a, ha⟩ := h n (by omega)
    refine ⟨xs ++ [a], by simp [hl], fun i x hx => ?_⟩
    by_cases hi : i < n
    · rw [List.getElem?_append_left (by omega)] at hx; exact hq i x hx
    · have : i = n := by have := (List.getElem?_eq_some_iff.1 hx).1; simp at this; omega
      subst this
      rw [List.getElem?_append_right (by omega), hl, Nat.sub_self] at hx
      have e : a = x := by simpa using hx
      rw [← e]; exact ha

theorem opens_slice {α : Type} {P : Program} {t e : TypeId} {T : Ty α} {ok : α → Prop} (ht : P.underlying t = some (.slice e)) (hC : P.cellsOf e = T.size) (h0 : 0 < T.size) (h : Opens P e T ok) :
    Opens P t T.slice (fun xs => ∀ x ∈ xs, ok x) := by
  intro H enc W fuel cs x hx
  rcases open_slice ht hx with ⟨rfl, _⟩ | ⟨a, len, cap, m, n, D, Pl, rfl, _, hl, hm, hmm, _, hi⟩
  · exact ⟨[], ⟨none, 0, rfl, Nat.le_refl _, by decide, Sl.nil _ _ _ _⟩, fun x h => by cases h⟩
  · simp only [if_true] at hmm
    subst hmm
    have hq : ∀ i, i < len → ∃ y : α, (∃ b off cs, a = ⟨b, off, none⟩ ∧ b < W.heap.size ∧ T.rel W (low W.heap.size) y cs ∧ W.rangeAt b (off + i * T.size) cs) ∧ ok y := by
      intro i hil
      obtain ⟨cs', hc, ht'⟩ := hi i (by omega)
      rw [hC] at hc
      obtain ⟨_, hcl, hat⟩ := World.cells?_some hc
      obtain ⟨y, hy, hok⟩ := h ht'
      have h1 := hat 0 h0
      have e1 : cs'[0]? = some (cs'[0]'(by omega)) := List.getElem?_eq_getElem (by omega)
      rw [e1] at h1
      have hsp := World.cell?_spot h1
      have hlt := World.block_lt_of_cell? W _ h1
      obtain ⟨b, off, spot⟩ := a
      have hs0 : spot = none := by
        obtain ⟨cs0, hc0, _⟩ := hi 0 (by omega)
        rw [hC] at hc0
        obtain ⟨_, hcl0, hat0⟩ := World.cells?_some hc0
        have h2 := hat0 0 h0
        rw [List.getElem?_eq_getElem (by omega)] at h2
        simpa [Addr.add] using World.cell?_spot h2
      subst hs0
      rw [Addr.add_mid, Addr.add_mid] at hlt
      refine ⟨y, ⟨b, off, cs', rfl, hlt, hy, fun j v hv => ?_⟩, hok⟩
      have hj : j < T.size := by rw [← hcl]; exact (List.getElem?_eq_some_iff.1 hv).1
      have h3 := hat j hj
      rw [Addr.add_mid, Addr.add_mid] at h3
      rw [h3, hv]
    obtain ⟨xs, hxl, hxq⟩ := list_of (Q := fun i y => (∃ b off cs, a = ⟨b, off, none⟩ ∧ b < W.heap.size ∧ T.rel W (low W.heap.size) y cs ∧ W.rangeAt b (off + i * T.size) cs) ∧ ok y) len hq
    refine ⟨xs, ⟨some a, m, by rw [hxl], by omega, hm, rfl, fun i y hy => ?_⟩, fun y hy => ?_⟩
    · obtain ⟨⟨b, off, cs, e, hb, hr, hc⟩, _⟩ := hxq i y hy
      exact ⟨b, off, cs, by rw [e], hb, hr, hc⟩
    · obtain ⟨i, hi', e⟩ := List.getElem_of_mem hy
      exact (hxq i y (by rw [List.getElem?_eq_getElem hi', e])).2

/-- a field of an integer kind of a struct that was read -/
theorem field_int {H : Type} {enc : TypeId × Value → H} {P : Program} {W : World} {base : Nat} {sp : Nat → Bool} {hd : Bool} {fuel : Nat} {t : TypeId} {cs : List Value} {x : DataW H × List MemPlace} {fs : Array Field} {k : IntKind}
    (ht : P.underlying t = some (.struct fs)) (h : DataW.trod enc P W base sp hd fuel t cs = some x) (i : Nat) (f : Field) (hf : fs[i]? = some f) (hk : P.underlying f.type = some (.int k)) (h1 : P.cellsOf f.type = 1) :
    ∃ n, cs[f.offset]? = some (.int k n) ∧ (Lit.int k n).wf = true := by
  obtain ⟨xs, n, _, _, _, hl, hg⟩ := DataW.trod_struct ht h
  have hi : i < fs.size := (Array.getElem?_eq_some_iff.1 hf).1
  have h2 := hg i f hf
  rw [h1, List.getElem?_eq_getElem (by omega)] at h2
  obtain ⟨m, hm, _, hw⟩ := DataW.trod_int hk h2
  refine ⟨m, ?_, hw⟩
  have h3 := congrArg (fun l => l[0]?) hm
  simpa using h3
theorem u8_of {n : Int} (h : (Lit.int .u8 n).wf = true) : 0 ≤ n ∧ n < 256 := by
  have : 0 ≤ n ∧ n ≤ 255 := by simpa [Lit.wf, IntKind.min, IntKind.max, IntKind.signed, IntKind.bits] using h
  omega
theorem u16_of {n : Int} (h : (Lit.int .u16 n).wf = true) : 0 ≤ n ∧ n < 65536 := by
  have : 0 ≤ n ∧ n ≤ 65535 := by simpa [Lit.wf, IntKind.min, IntKind.max, IntKind.signed, IntKind.bits] using h
  omega
/-- an argument that is a slice -/
theorem arg_slice {α : Type} {P : Program} {t e : TypeId} {T : Ty α} {ok : List α → Prop} {H : Type} {enc : TypeId × Value → H} {W : World} {r : Reach} {b0 : Nat} {v : Value} {d : DataW H} {p : List MemPlace}
    (ht : P.underlying t = some (.slice e)) (ho : Opens P t T.slice ok) (hv : Value.okWide P W r b0 t v) (h : DataW.Trod enc P W 0 (fun _ => true) true t v d p) :
    ∃ (A : Option Addr) (n c : Nat) (xs : List α), v = .slice A n c ∧ n ≤ c ∧ c ≤ maxLen ∧ Sl T W (low W.heap.size) A n xs ∧ ok xs := by
  obtain ⟨A, n, c, rfl⟩ := okWide_slice ht hv
  obtain ⟨fuel, hf⟩ := h
  obtain ⟨xs, ⟨A', c', e, h1, h2, h3⟩, hok⟩ := ho hf
  have e' : Value.slice A n c = .slice A' xs.length c' := by simpa [Value.cells] using e
  injection e' with e1 e2 e3
  subst e1 e2 e3
  exact ⟨_, _, _, xs, rfl, h1, h2, h3, hok⟩
end Go.Proofs.Ytgkhenplbljbbaa
