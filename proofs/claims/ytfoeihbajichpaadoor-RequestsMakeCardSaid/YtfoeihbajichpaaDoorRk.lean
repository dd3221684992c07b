/- Regions that draw their order, by the held steps: the operations under a name of their own (so that the terms stay small); an operation's target given by hand. No condition; nothing of the program. -/
import Derived.Deep.RegionHeld
import Derived.OrdersHeld
import Derived.KernelRfl
set_option linter.unusedVariables false
set_option linter.unusedSimpArgs false
set_option linter.unusedSectionVars false
namespace Go.Proofs.YtfoeihbajichpaaDoor
open Go
/-- the code from a region on -/
def fromR (k : Nat) : Code → Option Code
  | .seq (.region i o b) c => if i = k then some (.seq (.region i o b) c) else fromR k c
  | .seq _ c => fromR k c
  | .block _ c => fromR k c
  | .scope c => fromR k c
  | _ => none
def headC : Code → Code
  | .seq a _ => a
  | c => c
def restC : Code → Code
  | .seq _ b => b
  | _ => .skip
def opsOf : Code → Array Oper
  | .region _ o _ => o
  | _ => #[]
def opAt (ops : Array Oper) (i : Nat) : Oper := match ops.toList.drop i with
  | o :: _ => o
  | [] => ⟨none, .move (.const (.bool false)), 0, "", #[], none⟩
section
variable {P : Program} {ops : Array Oper} {Q : Exit → Act → World → Prop}
theorem wpAnyH_takeD {md : Region.Mode} {S : World → Prop} {i : Nat} {oi : Oper} {d : Option Tmp} {v : Value} {fuel : Nat} {listed : Array Bool} {a : Act} {w : World} (hi : ops[i]? = some oi) (hd : oi.dst = d)
    (hs : Region.noSelect ops = true) (hf : Region.free md ops listed i = true) (hr : (Region.ready md ops listed).contains i = true)
    (hQ : ∀ c a w, Q (.panic c) (a.put oi.dst v) w → Q (.panic c) a w) (hy : YieldsIf P ops S oi v a) (hS : S w)
    (h : wpAnyH P md ops Q S fuel (listed.setIfInBounds i true) (a.put d v) w) : wpAnyH P md ops Q S (fuel + 1) listed a w := by
  subst hd
  exact wpAnyH_take hi hs hf hr hQ hy hS h
theorem wp_region_held_named {S : World → Prop} {ops' : Array Oper} {n : Nat} {id : Nat} {a : Act} {w : World} (he : ops' = ops) (hn : ops'.size = n) (hm : P.follows .mixedOrders = true) (hS : S w.drew)
    (h : S w.drew → wpAnyH P .any ops' Q S n (Array.replicate n false) a w.drew) : (Code.region id ops true).wp P Q a w := by
  subst he hn
  exact wp_region_held_drew hm hS h
end
end Go.Proofs.YtfoeihbajichpaaDoor
