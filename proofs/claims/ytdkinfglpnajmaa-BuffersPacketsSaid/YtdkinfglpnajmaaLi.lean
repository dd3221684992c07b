

/- The walk of BuffersPackets. -/
import Derived.Test.YtdkinfglpnajmaaChecked
import Derived.Deep.RegionHeld3
import Derived.Deep.DrawnRows
import Derived.Deep.DeepCutAuto
import Derived.Deep.LoopGhost
import Derived.Outline
import Derived.Handy
import Derived.OwnWalk
import Derived.IntWalk
import Derived.Test.YtdkinfglpnajmaaLh
set_option linter.unusedVariables false
set_option linter.unusedSimpArgs false
set_option linter.unusedSectionVars false
namespace Go.Proofs.Ytdkinfglpnajmaa
open Go.RowKit
attribute [local go_sem ↓] Go.wp_at_zero Go.wp_at_succ

set_option maxRecDepth 100000 in
set_option maxHeartbeats 4000000 in
theorem packets_long (A D : Option Addr) (n c nd cd : Nat) (most : Int) (w : World) (hd : 80 < nd) (hnd : nd ≤ cd) (hcd : cd ≤ maxLen) :
    Calls Try.prog 6 #[.slice A n c, .slice D nd cd, .int .i64 most] w fun e w' => e = .returned (.bool true) ∧ Kept w w' := by
  unfold maxLen at hcd
  have hd' : (80 : Int) < (nd : Int) := by omega
  go_enter Try.func6, Try.ntmps6
  go_wp2_with (go_at_call 16; refine (lives_any _).mono ?_; rintro e w2 ⟨rfl, k2⟩)
  go_ret
  exact ⟨rfl, k2⟩
set_option maxRecDepth 100000 in
set_option maxHeartbeats 4000000 in
theorem packets_few (A D : Option Addr) (n c nd cd : Nat) (x : List (UInt8 × UInt8)) (ds : List UInt8) (most : Int) (w : World) (hl : Sl ppT w (low w.heap.size) A n x) (hnc : n ≤ c) (hc : c ≤ maxLen) (hd : nd ≤ 80) (hnd : nd ≤ cd) (hcd : cd ≤ maxLen) (hm : most < 1) :
    Calls Try.prog 6 #[.slice A n c, .slice D nd cd, .int .i64 most] w fun e w' => e = .returned (.bool true) ∧ Kept w w' := by
  have hof := x_of hl hnc hc
  have hL20 := ofL_len x
  have hsm := Lib.hid (ofL_small x)
  have htt := Lib.hid (ofL_total x)
  have hk1 := Lib.hid (ofL_chk x (size := 9223372036854775807) (by omega))
  generalize ofL x = l at *
  unfold maxLen at hcd
  have hd' : (nd : Int) ≤ 80 := by omega
  have hpk := fun (w' : World) A1 c1 (h : Sl pcT w' (low w'.heap.size) A1 l.length l) => packets_arg A1 l.length c1 l most w' h hk1.out hm
  go_enter Try.func6, Try.ntmps6
  go_wp2_with (first
    | (go_at_call 10; refine hof.mono ?_; rintro e w1 ⟨A1, c1, rfl, s1, _, _, k1⟩)
    | (go_at_call 11; refine (x_places s1 hsm.out (by have := htt.out; omega) (by omega) rfl).mono ?_; rintro e w2 ⟨A2, c2, rfl, s2, k2⟩)
    | (go_at_call 21; refine (hpk _ A1 c1 (s1.kept k2)).mono ?_; rintro e w3 ⟨rfl, k3⟩)
    | (go_at_call 16; refine (lives_any _).mono ?_; rintro e w4 ⟨rfl, k4⟩))
  go_ret
  exact ⟨rfl, ((k1.trans' k2).trans' k3).trans' k4⟩
end Go.Proofs.Ytdkinfglpnajmaa
