/- Bytes that differ. -/
import Derived.Test.YtjgncofhobhjdaaDoorChecked
import Derived.Deep.RegionHeld3
import Derived.Deep.DrawnRows
import Derived.Deep.DeepCutAuto
import Derived.Deep.LoopGhost
import Derived.Outline
import Derived.Handy
import Derived.OwnWalk
import Derived.BigQuiet
import Derived.Test.YtjgncofhobhjdaaDoorN25
import Derived.Test.YtjgncofhobhjdaaDoorN3
set_option linter.unusedVariables false
set_option linter.unusedSimpArgs false
set_option linter.unusedSectionVars false
/- The law Same: bytes that differ; cells of a setting whose row is the call's own. No condition but those named. -/
namespace Go.Proofs.YtjgncofhobhjdaaDoor
open Go.RowKit

theorem hv_of {a b : Cfg} (ha : ∀ z ∈ toldS a, u8k z) (hb : ∀ z ∈ toldS b, u8k z) (h : toldS a = toldS b → a = b) : ((strB (toldS a)).toList == (strB (toldS b)).toList) = sameS a b := by
  rw [strB_eq ha hb]
  by_cases e : a = b
  · rw [decide_eq_true (by rw [e]), (sameS_iff a b).2 e]
  · rw [decide_eq_false (fun h2 => e (h h2))]
    rcases hs : sameS a b with _ | _
    · rfl
    · exact absurd ((sameS_iff a b).1 hs) e
theorem told_text {D : CfgD} {I : List (List Alt)} {t : Int} (h : toldS ⟨D, I⟩ = toldS ⟨{ D with text := t }, I⟩) : (⟨D, I⟩ : Cfg) = ⟨{ D with text := t }, I⟩ := by
  unfold toldS at h
  have h1 := List.append_cancel_right h
  unfold rawCfg at h1
  injections
  congr 1
  obtain ⟨d0, d1, d2, d3, d4, d5, d6⟩ := D
  simp_all
theorem set_split {α : Type} {l : List α} {i : Nat} {x y : α} (h : l[i]? = some x) : l = l.take i ++ x :: l.drop (i + 1) ∧ l.set i y = l.take i ++ y :: l.drop (i + 1) := by
  obtain ⟨hi, rfl⟩ := List.getElem?_eq_some_iff.1 h
  refine ⟨?_, ?_⟩
  · rw [← List.drop_eq_getElem_cons hi, List.take_append_drop]
  · rw [List.set_eq_take_append_cons_drop, if_pos hi]
theorem flat_set {α β : Type} {f : α → List β} {l : List α} {i : Nat} {x y : α} (h : l[i]? = some x) (he : l.flatMap f = (l.set i y).flatMap f) : f x = f y := by
  obtain ⟨h1, h2⟩ := set_split (y := y) h
  rw [h2] at he
  conv at he => lhs; rw [h1]
  rw [List.flatMap_append, List.flatMap_append, List.flatMap_cons, List.flatMap_cons] at he
  exact List.append_cancel_right (List.append_cancel_left he)
theorem told_if {D : CfgD} {I : List (List Alt)} {i : Nat} {l l' : List Alt} (hl : I[i]? = some l) (h : toldS ⟨D, I⟩ = toldS ⟨D, I.set i l'⟩) : rawI l = rawI l' := by
  unfold toldS at h
  exact flat_set hl (List.append_cancel_left h)
theorem told_alt {D : CfgD} {I : List (List Alt)} {i j : Nat} {l : List Alt} {a a' : Alt} (hl : I[i]? = some l) (ha : l[j]? = some a) (h : toldS ⟨D, I⟩ = toldS ⟨D, I.set i (l.set j a')⟩) : rawAlt a = rawAlt a' :=
  flat_set ha (told_if hl h)
theorem rawEps_len : ∀ l : List EpD, (l.flatMap rawEp).length = 7 * l.length
  | [] => rfl
  | e :: l => by
    rw [List.flatMap_cons, List.length_append, rawEps_len l]
    show 7 + _ = 7 * (l.length + 1)
    omega
theorem rawAlt_len (a : Alt) : (rawAlt a).length = 9 + a.extra.length + 7 * a.eps.length := by
  unfold rawAlt
  rw [List.length_append, List.length_append, rawEps_len]
  rfl
theorem told_proto {D : CfgD} {I : List (List Alt)} {i j : Nat} {l : List Alt} {a : Alt} {q : Int} (hl : I[i]? = some l) (ha : l[j]? = some a) (h : toldS ⟨D, I⟩ = toldS ⟨D, I.set i (l.set j { a with d := { a.d with proto := q } })⟩) : (⟨D, I⟩ : Cfg) = ⟨D, I.set i (l.set j { a with d := { a.d with proto := q } })⟩ := by
  have h1 := told_alt hl ha h
  unfold rawAlt at h1
  simp only [List.append_assoc] at h1
  unfold rawIf at h1
  simp only [List.cons_append, List.nil_append, List.cons.injEq, true_and] at h1
  have hq : a.d.proto = q := h1.1
  have e : ({ a with d := { a.d with proto := q } } : Alt) = a := by rw [← hq]
  rw [e]
  have e2 : l.set j a = l := by
    obtain ⟨h2, h3⟩ := List.getElem?_eq_some_iff.1 ha
    rw [← h3, List.set_getElem_self]
  rw [e2]
  obtain ⟨h2, h3⟩ := List.getElem?_eq_some_iff.1 hl
  rw [← h3, List.set_getElem_self]
theorem told_more {D : CfgD} {I : List (List Alt)} {i j : Nat} {l : List Alt} {a a' : Alt} (hl : I[i]? = some l) (ha : l[j]? = some a) (hne : 9 + a.extra.length + 7 * a.eps.length ≠ 9 + a'.extra.length + 7 * a'.eps.length) : toldS ⟨D, I⟩ ≠ toldS ⟨D, I.set i (l.set j a')⟩ := by
  intro h
  have h1 := congrArg List.length (told_alt hl ha h)
  rw [rawAlt_len, rawAlt_len] at h1
  exact hne h1
theorem told_behind {D : CfgD} {I : List (List Alt)} {i : Nat} {l : List Alt} {a : Alt} (hl : I[i]? = some l) : toldS ⟨D, I⟩ ≠ toldS ⟨D, I.set i (l ++ [a])⟩ := by
  intro h
  have h1 := congrArg List.length (told_if hl h)
  unfold rawI at h1
  rw [List.flatMap_append, List.length_append] at h1
  have := rawAlt_len a
  simp only [List.flatMap_cons, List.flatMap_nil, List.append_nil] at h1
  omega
section
variable {base : Nat} {w : World} {v : Value} {L : List LF} {i j : Nat} {y : LF} {p : LA}
/-- a row that holds something has a block of its own -/
theorem own_block {α : Type} {t : Ty α} {e : TypeId} {n : Nat} {xs : List α} (h : Own t e base w v n xs) (hn : 0 < n) : ∃ g cap cur, v = .slice (some ⟨g, 0, none⟩) n cap ∧ v.ownBlock = some g ∧ w.heap[g]? = some (.cells cur e (0, 0)) ∧ n ≤ cap ∧ cap ≤ maxLen ∧ base ≤ g := by
  obtain ⟨_, cells, ⟨_, h2⟩, _⟩ := h
  rcases h2 with ⟨_, h0⟩ | ⟨g, cap, cur, rfl, hb, hh, h3, h4, _⟩
  · omega
  · exact ⟨g, cap, cur, rfl, rfl, hh, h3, h4, hb⟩
theorem own_cells {α : Type} {t : Ty α} {e : TypeId} {n g cap : Nat} {xs : List α} {x : α} {cs : List Value} (h : Own t e base w (.slice (some ⟨g, 0, none⟩) n cap) n xs) (hx : xs[j]? = some x) (hr : ∀ F c, t.rel w F x c → c = cs) : ∀ o u, cs[o]? = some u → w.cell? ⟨g, j * t.size + o, none⟩ = some u := by
  have hs := h.sl
  obtain ⟨b, off, c, e1, _, hrel, hc⟩ := hs.2 j x hx
  injection e1 with e1
  injection e1 with e2 e3 _
  subst e2 e3
  intro o u hu
  rw [← hr _ _ hrel] at hu
  have := hc o u hu
  rwa [Nat.zero_add] at this
end
end Go.Proofs.YtjgncofhobhjdaaDoor
