/- A region's list of operations parted: what holds between its halves is said once, so that ways that meet again are walked once. No condition; nothing of the program. -/
import Derived.Tactics
import Derived.Orders
import Derived.Test.YtgkhenplbljbbaaPb
set_option linter.unusedVariables false
set_option linter.unusedSimpArgs false
set_option linter.unusedSectionVars false
namespace Go.Proofs.Ytgkhenplbljbbaa
open Go Go.RowKit
section
variable {P : Program} {ops : Array Oper} {Q : Exit → Act → World → Prop}
/-- the half's own post: at its end R, else the whole list's -/
def CutQ (Q : Exit → Act → World → Prop) (R : Act → World → Prop) : Exit → Act → World → Prop
  | .normal, a, w => R a w
  | e, a, w => Q e a w
theorem upon_cut {o : Oper} {a : Act} {K : Act → World → Prop} {R : Act → World → Prop} {r : Result Next} (h : o.upon P a K (CutQ Q R) r) : o.upon P a K Q r := by
  cases r with
  | ok n w => cases n <;> exact h
  | halt x w => cases x <;> exact h
theorem wpList_cutAt {R : Act → World → Prop} : ∀ (l1 l2 : List Oper) (a : Act) (w : World), wpList P ops (CutQ Q R) l1 a w → (∀ a' w', R a' w' → wpList P ops Q l2 a' w') → wpList P ops Q (l1 ++ l2) a w
  | [], l2, a, w, h, h2 => h2 a w h
  | o :: l1, l2, a, w, h, h2 => by
    show wpList P ops Q (o :: (l1 ++ l2)) a w
    unfold wpList at h ⊢
    split at h
    · rename_i hw
      rw [if_pos hw]
      rcases h with h | ⟨h, hl⟩
      · left
        have h3 := Oper.wp_mono (K' := wpList P ops Q (l1 ++ l2)) (fun a' w' h' => wpList_cutAt l1 l2 a' w' h' h2) h
        unfold Oper.wp at h3 ⊢
        exact upon_cut h3
      · exact .inr ⟨h, hl⟩
    · rename_i hw
      rw [if_neg hw]
      exact wpList_cutAt l1 l2 _ w h h2
theorem wpList_cut {R : Act → World → Prop} {l : List Oper} {a : Act} {w : World} (n : Nat) (h : wpList P ops (CutQ Q R) (l.take n) a w) (h2 : ∀ a' w', R a' w' → wpList P ops Q (l.drop n) a' w') : wpList P ops Q l a w := by
  have := wpList_cutAt (l.take n) (l.drop n) a w h h2
  rwa [List.take_append_drop] at this
theorem wpList_cutR {l : List Oper} {a : Act} {w : World} (n : Nat) (R : Act → World → Prop) (h : ∀ S : Act → World → Prop, Hid (∀ a' w', R a' w' → S a' w') → wpList P ops (CutQ Q S) (l.take n) a w) (h2 : ∀ a' w', R a' w' → wpList P ops Q (l.drop n) a' w') : wpList P ops Q l a w :=
  wpList_cut n (h R (fun _ _ h => h)) h2
/-- the relation may speak of the act ahead of the part -/
theorem wpList_cutF {l : List Oper} {a : Act} {w : World} (n : Nat) (R : Act → Act → World → Prop) (h : ∀ S : Act → World → Prop, Hid (∀ a' w', R a a' w' → S a' w') → wpList P ops (CutQ Q S) (l.take n) a w) (h2 : ∀ a' w', R a a' w' → wpList P ops Q (l.drop n) a' w') : wpList P ops Q l a w :=
  wpList_cut n (h (R a) (fun _ _ h => h)) h2
end
end Go.Proofs.Ytgkhenplbljbbaa
