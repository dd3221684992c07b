/- Plain law: a driver put behind all others takes an interface only if its score is greater. -/
import Derived.Test.YtgkhenplbljbbaaDc
namespace Go.Proofs.Ytgkhenplbljbbaa
open Go.RowKit

/-- the greatest score of the first rules, and -1 -/
def mostTo (sc : Rule → Int) (rs : List Rule) (j : Nat) : Int := upTo (fun i a => match rs[i]? with | some r => max a (sc r) | none => a) (-1) j
theorem mostTo_succ {sc : Rule → Int} {rs : List Rule} {j : Nat} {r : Rule} (h : rs[j]? = some r) : mostTo sc rs (j + 1) = max (mostTo sc rs j) (sc r) := by
  unfold mostTo; rw [upTo_succ, h]
theorem inner_most {sc : Rule → Int} {k : Nat} {rs : List Rule} {a : Int × Int} (ha : -1 ≤ a.2) : ∀ j, j ≤ rs.length → upTo (stepR sc k rs) a j = if a.2 < mostTo sc rs j then ((k : Int), mostTo sc rs j) else a
  | 0, _ => by
    have : ¬ a.2 < mostTo sc rs 0 := by show ¬ a.2 < -1; omega
    rw [if_neg this]; rfl
  | j + 1, hj => by
    have hr : rs[j]? = some rs[j] := List.getElem?_eq_getElem (by omega)
    rw [upTo_succ, inner_most ha j (by omega), mostTo_succ hr]
    by_cases h1 : a.2 < mostTo sc rs j
    · rw [if_pos h1, if_pos (by omega)]
      by_cases h2 : mostTo sc rs j < sc rs[j]
      · rw [stepR_yes hr h2]; congr 1; omega
      · rw [stepR_no hr h2]; congr 1; omega
    · rw [if_neg h1]
      by_cases h2 : a.2 < sc rs[j]
      · rw [stepR_yes hr h2, if_pos (by omega)]; congr 1; omega
      · rw [stepR_no hr h2, if_neg (by omega)]
theorem matchS_snoc (sc : Rule → Int) (l : List Drv) (d : Drv) : matchS sc (l ++ [d]) = if (matchS sc l).2 < mostTo sc d.rules d.rules.length then ((l.length : Int), mostTo sc d.rules d.rules.length) else matchS sc l := by
  have h0 : -1 ≤ (matchS sc l).2 := by
    rcases (Inv.all sc l).2 with ⟨_, h⟩ | ⟨_, _, _, _, _, _, _, _, h, _⟩ <;> omega
  have e : upTo (stepD sc (l ++ [d])) (-1, -1) l.length = matchS sc l := upTo_congr l.length (fun k x hk => by
    unfold stepD; rw [List.getElem?_append_left hk])
  have hd : (l ++ [d])[l.length]? = some d := by simp
  unfold matchS at *
  rw [List.length_append, List.length_singleton, upTo_succ, stepD_some hd, e]
  exact inner_most h0 _ (Nat.le_refl _)
end Go.Proofs.Ytgkhenplbljbbaa
