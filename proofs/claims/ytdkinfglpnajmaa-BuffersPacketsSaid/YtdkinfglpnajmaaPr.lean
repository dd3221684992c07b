/- A region that draws its order, in a round of a range over a function: as outside of rounds, where it defers nothing. No condition; nothing of the program. -/
import Derived.TacticsInMore
import Derived.OrdersHeld
import Derived.OwnWalkIn
import Derived.Test.YtdkinfglpnajmaaPd
set_option linter.unusedVariables false
set_option linter.unusedSimpArgs false
set_option linter.unusedSectionVars false
namespace Go.Proofs.Ytdkinfglpnajmaa
open Go.RowKit

theorem opsIn_of_ops {l n : Nat} {P : Program} {ops : Array Oper} {Q : Exit → Act → World → Prop} (hd : ∀ (i : Nat) (o : Oper), ops[i]? = some o → ∀ c, o.op ≠ .defer c) (hQ : ¬ LetsOut Q) :
    ∀ (is : List Nat) (a : Act) (w : World), wpOps P ops Q is a w → wpOpsIn (Fence.wide.inRound l) n P ops Q is a w
  | [], a, w, h => h
  | i :: rest, a, w, h => by
    have ih := opsIn_of_ops (l := l) (n := n) (P := P) hd hQ rest
    unfold wpOpsIn
    unfold wpOps at h
    cases ho : ops[i]? with
    | none =>
      rw [ho] at h
      exact ih _ _ h
    | some o =>
      rw [ho] at h
      simp only at h ⊢
      split
      · rename_i hw
        rw [if_pos hw] at h
        rcases h with h | h
        · refine ⟨fun _ _ => trivial, ?_⟩
          unfold Oper.wp at h
          rw [show (Fence.wide.inRound l).round = some l from rfl, Oper.semAt_some l _ _ (hd i o ho)]
          generalize (execOp a.eval o).run P w = r at h
          cases r with
          | ok x w' =>
            cases x with
            | value v => exact ih _ _ h
            | skip => exact ih _ _ h
            | «defer» d => exact ih _ _ h
            | enter f args =>
              refine ⟨(fun h => by cases h), ?_⟩
              have h2 : CallsIn Fence.wide (n - 1) P f args w' _ := callsIn_wide.2 h
              refine CallsIn.mono (F := Fence.wide.inRound l) h2 (fun e w'' he => ?_)
              cases e with
              | returned v => exact ih _ _ he
              | panicked c => exact he
              | outgrown => exact he
            | row row args =>
              refine ⟨(fun h => by cases h), fun c cs _ => ?_⟩
              obtain ⟨v, w'', hn, hs⟩ := h c cs
              exact ⟨v, w'', ih _ _ hn, stepsIn_wide.2 hs⟩
            | round _ _ _ _ _ => exact h.elim
            | _ => exact h.elim
          | halt x w' => cases x <;> first | exact h | exact h.elim
        · exact (hQ h.2).elim
      · rename_i hw
        rw [if_neg hw] at h
        exact ⟨fun _ _ => trivial, ih _ _ h⟩
/-- no operation defers -/
def noDefer (ops : Array Oper) : Bool := ops.all fun o => match o.op with | .defer _ => false | _ => true
theorem noDefer_spec {ops : Array Oper} (h : noDefer ops = true) : ∀ (i : Nat) (o : Oper), ops[i]? = some o → ∀ c, o.op ≠ .defer c := fun i o ho c e => by
  have h1 := (Array.all_eq_true_iff_forall_mem.1 h) o (Array.mem_of_getElem? ho)
  rw [e] at h1
  cases h1
theorem region_round {l n id : Nat} {P : Program} {ops : Array Oper} {Q : Exit → Act → World → Prop} {a : Act} {w : World} {S : World → Prop} (hm : P.follows .mixedOrders = true) (hd : noDefer ops = true) (hQ : ¬ LetsOut Q) (hS : S w.drew)
    (h : S w.drew → wpAnyH P .any ops Q S ops.size (Array.replicate ops.size false) a w.drew) : (Code.region id ops true).wpIn (Fence.wide.inRound l) n P Q a w :=
  wpIn_region_draw fun t => by
    simp only [Region.schedule, hm, Bool.true_or, if_true]
    exact opsIn_of_ops (noDefer_spec hd) hQ _ _ _ (wpAny_sound ops.size t _ a _ (wpAny_of_held _ _ _ _ (h hS)))
end Go.Proofs.Ytdkinfglpnajmaa
