
/- Cut: the pieces of some bytes of a list. -/
import Derived.Test.YtdkinfglpnajmaaChecked
import Derived.Deep.RegionHeld3
import Derived.Deep.DrawnRows
import Derived.Deep.DeepCutAuto
import Derived.Deep.LoopGhost
import Derived.Outline
import Derived.Handy
import Derived.OwnWalk
import Derived.IntWalk
import Derived.Test.YtdkinfglpnajmaaGk
import Derived.Test.YtdkinfglpnajmaaGf
set_option linter.unusedVariables false
set_option linter.unusedSimpArgs false
set_option linter.unusedSectionVars false
namespace Go.Proofs.Ytdkinfglpnajmaa
open Go.RowKit
attribute [local go_sem ↓] Go.wp_at_zero Go.wp_at_succ

theorem cutN_bad (A : Option Addr) (n c : Nat) (l : List Pc) (f k : Int) (w : World) (hl : Sl pcT w (low w.heap.size) A n l) (h64 : ∀ p ∈ l, i64 p.pos ∧ i64 p.len) (hn : n ≤ 1000) (h0 : chk l 9223372036854775807 ≠ 0) :
    Calls Try.prog 18 #[.slice A n c, .int .i64 f, .int .i64 k] w fun e w' => e = .returned (.tuple #[.slice none 0 0, .int .i64 (chk l 9223372036854775807)]) ∧ Kept w w' := by
  have hC := check_any A n c l 9223372036854775807 w hl h64 max64 hn
  obtain ⟨e0, he⟩ : ∃ e, chk l 9223372036854775807 = e := ⟨_, rfl⟩
  rw [he] at hC h0 ⊢
  have h0' : (e0 != 0) = true := by simpa using h0
  clear he
  go_enter Try.func18, Try.ntmps18
  go_wp2_with (go_at_call 15; refine hC.mono ?_; rintro e w1 ⟨rfl, hk1⟩)
  go_ret2
  exact ⟨rfl, hk1⟩
set_option maxHeartbeats 1000000 in
theorem cutN_arg (A : Option Addr) (n c : Nat) (l : List Pc) (f k : Int) (w : World) (hl : Sl pcT w (low w.heap.size) A n l) (h0 : chk l 9223372036854775807 = 0) (hf : i64 f) (hk : i64 k) (ha : f < 0 ∨ k < 0 ∨ total l < k ∨ total l - k < f) :
    Calls Try.prog 18 #[.slice A n c, .int .i64 f, .int .i64 k] w fun e w' => e = .returned (.tuple #[.slice none 0 0, .int .i64 1]) ∧ Kept w w' := by
  obtain ⟨hf1, hf2⟩ := hf
  obtain ⟨hk1, hk2⟩ := hk
  have hp := chk_parts h0
  have hok : okL l := fun p hp' => ⟨(hp.2.1 p hp').1, (hp.2.1 p hp').2.1⟩
  have hC := check_any A n c l 9223372036854775807 w hl (pc_64 h0 max64) max64 (by have := hl.1; omega)
  rw [h0] at hC
  have hT : ∀ w', Kept w w' → _ := fun w' hk => total_any A n c l w' (hl.kept hk) hok hp.2.2 (by have := hl.1; omega)
  have ht0 := total_nonneg hok
  have ht1 := hp.2.2
  generalize total l = T at *
  clear hp h0 hl
  by_cases c1 : f < 0
  · clear ha
    go_enter Try.func18, Try.ntmps18
    go_wp2_with (first
      | (go_at_call 15; refine hC.mono ?_; rintro e w1 ⟨rfl, hk1⟩)
      | (go_at_call 25; refine (hT _ hk1).mono ?_; rintro e w2 ⟨rfl, hk2⟩))
    go_ret2
    exact ⟨rfl, hk1.trans' hk2⟩
  by_cases c2 : k < 0
  · have c1' : 0 ≤ f := by omega
    clear ha c1
    go_enter Try.func18, Try.ntmps18
    go_wp2_with (first
      | (go_at_call 15; refine hC.mono ?_; rintro e w1 ⟨rfl, hk1⟩)
      | (go_at_call 25; refine (hT _ hk1).mono ?_; rintro e w2 ⟨rfl, hk2⟩))
    go_ret2
    exact ⟨rfl, hk1.trans' hk2⟩
  by_cases c3 : T < k
  · have c1' : 0 ≤ f := by omega
    have c2' : 0 ≤ k := by omega
    clear ha c1 c2
    go_enter Try.func18, Try.ntmps18
    go_wp2_with (first
      | (go_at_call 15; refine hC.mono ?_; rintro e w1 ⟨rfl, hk1⟩)
      | (go_at_call 25; refine (hT _ hk1).mono ?_; rintro e w2 ⟨rfl, hk2⟩))
    go_ret2
    exact ⟨rfl, hk1.trans' hk2⟩
  have c4 : T - k < f := by omega
  have c1' : 0 ≤ f := by omega
  have c2' : 0 ≤ k := by omega
  have c3' : k ≤ T := by omega
  clear ha c1 c2 c3
  go_enter Try.func18, Try.ntmps18
  go_wp2_with (first
    | (go_at_call 15; refine hC.mono ?_; rintro e w1 ⟨rfl, hk1⟩)
    | (go_at_call 25; refine (hT _ hk1).mono ?_; rintro e w2 ⟨rfl, hk2⟩))
  go_ret2
  exact ⟨rfl, hk1.trans' hk2⟩
set_option maxHeartbeats 1000000 in
theorem cutN_ok (A : Option Addr) (n c : Nat) (l : List Pc) (f k : Int) (w : World) (hl : Sl pcT w (low w.heap.size) A n l) (h0 : chk l 9223372036854775807 = 0) (hf : 0 ≤ f) (hk : 0 ≤ k) (ha : f + k ≤ total l) :
    Calls Try.prog 18 #[.slice A n c, .int .i64 f, .int .i64 k] w fun e w' => ∃ A', e = .returned (.tuple #[.slice A' (win 0 f (f + k) l).length (win 0 f (f + k) l).length, .int .i64 0]) ∧ Sl pcT w' (low w'.heap.size) A' (win 0 f (f + k) l).length (win 0 f (f + k) l) ∧ Kept w w' := by
  have hp := chk_parts h0
  have hok : okL l := fun p hp' => ⟨(hp.2.1 p hp').1, (hp.2.1 p hp').2.1⟩
  have hC := check_any A n c l 9223372036854775807 w hl (pc_64 h0 max64) max64 (by have := hl.1; omega)
  rw [h0] at hC
  have hT : ∀ w', Kept w w' → _ := fun w' hk => total_any A n c l w' (hl.kept hk) hok hp.2.2 (by have := hl.1; omega)
  have ht0 := total_nonneg hok
  have ht1 := hp.2.2
  have hW : ∀ w', Kept w w' → _ := fun w' hk' => cut_any A n c l f (f + k) w' hok ht1 hf (by omega) (by omega) (by omega) (fun p hp' => (hp.2.1 p hp').2.2) (by have := hl.1; omega) (hl.kept hk')
  generalize win 0 f (f + k) l = L at *
  generalize total l = T at *
  have c1 : k ≤ T := by omega
  have c2 : f ≤ T - k := by omega
  clear hp h0 hl
  go_enter Try.func18, Try.ntmps18
  go_wp2_with (first
    | (go_at_call 15; refine hC.mono ?_; rintro e w1 ⟨rfl, hk1⟩)
    | (go_at_call 25; refine (hT _ hk1).mono ?_; rintro e w2 ⟨rfl, hk2⟩)
    | (go_at_call 29; refine (hW _ (hk1.trans' hk2)).mono ?_; rintro e w3 ⟨A', rfl, hs, hk3⟩))
  go_ret2
  exact ⟨A', rfl, hs.keep (fun b hb => hb.2) (fun _ _ _ => rfl), (hk1.trans' hk2).trans' hk3⟩
end Go.Proofs.Ytdkinfglpnajmaa
