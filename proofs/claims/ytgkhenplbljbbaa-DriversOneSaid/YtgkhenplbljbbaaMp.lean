/- Maps from strings to bools that a call makes, as sets of strings. No condition beyond a key's size; nothing of the program. -/
import Derived.Test.YtgkhenplbljbbaaPb
import Derived.Maps.Views
import Derived.Maps.OwnOps
import Derived.Maps.OwnSet
import Derived.StringKeys
set_option linter.unusedVariables false
set_option linter.unusedSimpArgs false
set_option linter.unusedSectionVars false
namespace Go.Proofs.Ytgkhenplbljbbaa
open Go.RowKit Go.WideShapes Go.Maps

theorem plainElem_bool_inv {H : Type} {P : Program} {e : TypeId} (he : P.underlying e = some .bool) {v : Value} {z : DataW H × List MemPlace} (h : plainElem P e v = some z) : ∃ a, v = .bool a ∧ z = (.lit (.bool a), []) := by
  unfold plainElem at h
  rw [he] at h
  cases v <;> simp at h
  exact ⟨_, rfl, h.symm⟩

theorem wpList_lookup_own_bool {H : Type} {P : Program} (w : World) {ops : Array Oper} {rest : List Oper} {o : Oper} {a : Act} {Q : Exit → Act → World → Prop}
    (hg : o.guard = none) (m x : Operand) (t : TypeId) (hop : o.op = Op.lookup t m x false)
    (k e : TypeId) (K : Keyed P k) (ht : P.underlying t = some (.map k e)) (he : P.underlying e = some .bool) (hz : (zeroValue e).run P w = .ok (.bool false) w) (b n : Nat) (D : DataW H)
    (hm : a.eval m = .map (some b)) (hown : w.ownsMap P k (plainElem P e) b n D) (key : Value) (kl : Lit) (hx : a.eval x = key) (hkey : keyOf P k key = some kl)
    (hK : ∀ c : Bool, D.atKey kl (.lit (.bool false)) = .lit (.bool c) → wpList P ops Q rest (a.put o.dst (.bool c)) w) :
    wpList P ops Q (o :: rest) a w := by
  refine wpList_plain hg fun K' hK' => ?_
  obtain ⟨v, ps, hrun, hv⟩ := hown.lookup K ht hz (plainElem_bool he false) hkey
  obtain ⟨c, rfl, hc⟩ := plainElem_bool_inv he hv
  simp only [Prod.mk.injEq] at hc
  unfold Oper.wp
  simp [execOp, hop, hm, hx, hrun, Result.andThen]
  exact hK' _ _ (hK c hc.1)

/-- a set of strings, as a map of a row -/
def strSet (names : List ByteArray) : DataW Unit := setOf (.lit (.bool true)) (names.map fun s => Lit.string s.data.toList)
theorem strSet_nil : strSet [] = .map [] := rfl
theorem strSet_snoc (names : List ByteArray) (s : ByteArray) : strSet (names ++ [s]) = (strSet names).put (.string s.data.toList) (.lit (.bool true)) := by
  unfold strSet; rw [List.map_append]; exact setOf_snoc _ _ _
theorem strSet_isMap (names : List ByteArray) : IsMap (strSet names) := by
  unfold strSet setOf
  generalize (names.map fun s => Lit.string s.data.toList) = l
  suffices h : ∀ (l : List Lit) (m : DataW Unit), IsMap m → IsMap (l.foldl (fun m x => m.put x (.lit (.bool true))) m) from h l _ isMap_empty
  intro l
  induction l with
  | nil => intro m h; exact h
  | cons x r ih => intro m h; exact ih _ (h.put _ _)
theorem strSet_go (s : ByteArray) : ∀ (names : List ByteArray) (m : DataW Unit) (b : Bool), IsMap m → m.atKey (.string s.data.toList) (.lit (.bool false)) = .lit (.bool b) →
    ((names.map fun s => Lit.string s.data.toList).foldl (fun m x => m.put x (.lit (.bool true))) m).atKey (.string s.data.toList) (.lit (.bool false)) = .lit (.bool (b || names.any (fun x => sameB x s)))
  | [], m, b, _, h => by simpa using h
  | x :: r, m, b, hm, h => by
    rw [List.map_cons, List.foldl_cons]
    by_cases e : x = s
    · subst e
      have : sameB x x = true := by unfold sameB; simp
      rw [strSet_go x r _ true (hm.put _ _) (atKey_put_same hm (by exact trivial) _ _)]
      simp [this]
    · have hne : (Lit.string s.data.toList) ≠ (Lit.string x.data.toList) := fun h => e (by injection h with h; exact (str_inj h).symm)
      rw [strSet_go s r _ b (hm.put _ _) (by rw [atKey_put_other hne]; exact h)]
      have : sameB x s = false := by
        unfold sameB
        simpa using fun h => e (str_inj h)
      simp [this]
theorem strSet_at (names : List ByteArray) (s : ByteArray) : (strSet names).atKey (.string s.data.toList) (.lit (.bool false)) = .lit (.bool (names.any (fun x => sameB x s))) := by
  have := strSet_go s names (.map []) false isMap_empty rfl
  simpa [strSet, setOf] using this
end Go.Proofs.Ytgkhenplbljbbaa
