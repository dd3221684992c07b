
/- The functions that the table of the standard requests holds: what each accepts. The numbers lie in their kinds. -/
import Derived.Test.YtfoeihbajichpaaDoorChecked
import Derived.Deep.RegionHeld3
import Derived.Deep.DrawnRows
import Derived.Deep.DeepCutAuto
import Derived.Deep.LoopGhost
import Derived.Outline
import Derived.Handy
import Derived.OwnWalk
import Derived.Laws.EntriesVeiled
import Derived.Test.YtfoeihbajichpaaDoorSc
set_option linter.unusedVariables false
set_option linter.unusedSimpArgs false
set_option linter.unusedSectionVars false
namespace Go.Proofs.YtfoeihbajichpaaDoor
open Go.RowKit Go.Lib
attribute [local go_sem ↓] Go.wp_at_zero Go.wp_at_succ

/-- the kinds of such functions -/
inductive FK where
  | status | feature | device (m : Int) | setting (m : Int) | endp | most1 | only0
def FK.fits : FK → Int → Int → Int → Bool
  | .device m, r, v, i => r == 0 && decide (v ≤ m) && i == 0
  | .setting m, r, v, i => r == 1 && decide (v ≤ m) && decide (i < 16)
  | .endp, r, v, i => r == 2 && v == 0 && epB i
  | .feature, r, v, i => r == 0 && v == 1 && i == 0 || r == 2 && v == 0 && epB i
  | .status, r, v, i => r == 0 && decide (v ≤ 0) && i == 0 || r == 1 && decide (v ≤ 0) && decide (i < 16) || r == 2 && v == 0 && epB i
  | .most1, r, _, _ => decide (r ≤ 1)
  | .only0, r, _, _ => r == 0

theorem dev1_any (m r v i : Int) (x : Nat) (w : World) (h0 : 0 ≤ v) (h1 : v < 65536) (hx : w.cell? ⟨x, 0, none⟩ = some (.int .i64 m)) :
    Calls Tryd.prog 49 #[.int .u8 r, .int .u16 v, .int .u16 i, .pointer (some ⟨x, 0, none⟩)] w fun e w' => e = .returned (.bool ((FK.device m).fits r v i)) ∧ w = w' := by
  go_enter Tryd.func49, Tryd.ntmps49
  go_wp2
  all_goals go_ret
  all_goals exact ⟨ret_bool (by simp_all [FK.fits] <;> omega), rfl⟩
theorem set1_any (m r v i : Int) (x : Nat) (w : World) (hx : w.cell? ⟨x, 0, none⟩ = some (.int .u16 m)) :
    Calls Tryd.prog 51 #[.int .u8 r, .int .u16 v, .int .u16 i, .pointer (some ⟨x, 0, none⟩)] w fun e w' => e = .returned (.bool ((FK.setting m).fits r v i)) ∧ w = w' := by
  go_enter Tryd.func51, Tryd.ntmps51
  go_wp2
  all_goals go_ret
  all_goals exact ⟨ret_bool (by simp_all [FK.fits] <;> omega), rfl⟩
theorem feat_any (r v i : Int) (w : World) (h0 : 0 ≤ i) (h1 : i < 65536) :
    Calls Tryd.prog 52 #[.int .u8 r, .int .u16 v, .int .u16 i] w fun e w' => e = .returned (.bool (FK.feature.fits r v i)) ∧ w = w' := by
  go_enter Tryd.func52, Tryd.ntmps52
  go_wp2_with (go_at_call 53; refine (endp_any i _ h0 h1).mono ?_; rintro e w1 ⟨rfl, rfl⟩)
  all_goals go_ret
  all_goals exact ⟨ret_bool (by simp_all [FK.fits] <;> omega), rfl⟩
theorem at_any (r v i : Int) (w : World) (h0 : 0 ≤ i) (h1 : i < 65536) :
    Calls Tryd.prog 54 #[.int .u8 r, .int .u16 v, .int .u16 i] w fun e w' => e = .returned (.bool (FK.endp.fits r v i)) ∧ w = w' := by
  go_enter Tryd.func54, Tryd.ntmps54
  go_wp2_with (go_at_call 53; refine (endp_any i _ h0 h1).mono ?_; rintro e w1 ⟨rfl, rfl⟩)
  all_goals go_ret
  all_goals exact ⟨ret_bool (by simp_all [FK.fits] <;> omega), rfl⟩
theorem most1_any (r v i : Int) (w : World) :
    Calls Tryd.prog 56 #[.int .u8 r, .int .u16 v, .int .u16 i] w fun e w' => e = .returned (.bool (FK.most1.fits r v i)) ∧ w = w' := by
  go_enter Tryd.func56, Tryd.ntmps56
  go_wp2
  go_ret
  exact ⟨rfl, rfl⟩
theorem only0_any (r v i : Int) (w : World) :
    Calls Tryd.prog 57 #[.int .u8 r, .int .u16 v, .int .u16 i] w fun e w' => e = .returned (.bool (FK.only0.fits r v i)) ∧ w = w' := by
  go_enter Tryd.func57, Tryd.ntmps57
  go_wp2
  go_ret
  exact ⟨rfl, rfl⟩
theorem devm_any (m : Int) (w : World) :
    Calls Tryd.prog 48 #[.int .i64 m] w fun e w' => e = .returned (.func (.func 49) #[] #[.pointer (some ⟨w.heap.size, 0, none⟩)]) ∧ w' = w.alloc (.cells #[.int .i64 m] 3) := by
  go_enter Tryd.func48, Tryd.ntmps48
  go_wp2
  go_ret
  exact ⟨rfl, rfl⟩
theorem setm_any (m : Int) (w : World) :
    Calls Tryd.prog 50 #[.int .u16 m] w fun e w' => e = .returned (.func (.func 51) #[] #[.pointer (some ⟨w.heap.size, 0, none⟩)]) ∧ w' = w.alloc (.cells #[.int .u16 m] 23) := by
  go_enter Tryd.func50, Tryd.ntmps50
  go_wp2
  go_ret
  exact ⟨rfl, rfl⟩
theorem stat_eq (r v i : Int) : FK.status.fits r v i = ((FK.device 0).fits r v i || (FK.setting 0).fits r v i || FK.endp.fits r v i) := rfl
theorem stat_any (r v i : Int) (p1 p2 p4 : Nat) (w : World) (h0 : 0 ≤ v) (h1 : v < 65536) (g0 : 0 ≤ i) (g1 : i < 65536)
    (c1 : w.cell? ⟨p1, 0, none⟩ = some (.func (.func 48) #[] #[])) (c2 : w.cell? ⟨p2, 0, none⟩ = some (.func (.func 50) #[] #[])) (c4 : w.cell? ⟨p4, 0, none⟩ = some (.func (.func 54) #[] #[])) (l1 : p1 < w.heap.size) (l2 : p2 < w.heap.size) (l4 : p4 < w.heap.size) :
    Calls Tryd.prog 55 #[.int .u8 r, .int .u16 v, .int .u16 i, .pointer (some ⟨p1, 0, none⟩), .pointer (some ⟨p2, 0, none⟩), .pointer (some ⟨p4, 0, none⟩)] w fun e w' => e = .returned (.bool (FK.status.fits r v i)) ∧ Kept w w' := by
  go_enter Tryd.func55, Tryd.ntmps55
  go_wp2_with (first
    | (go_at_call 48; refine (devm_any _ _).mono ?_; rintro e w1 ⟨rfl, rfl⟩)
    | (go_at_call 50; refine (setm_any _ _).mono ?_; rintro e w1 ⟨rfl, rfl⟩)
    | (go_at_call 49; refine (dev1_any 0 r v i w.heap.size _ h0 h1 (by simp)).mono ?_; rintro e w1 ⟨rfl, rfl⟩)
    | (go_at_call 51; refine (set1_any 0 r v i (w.heap.size + 1) _ (by simp)).mono ?_; rintro e w1 ⟨rfl, rfl⟩)
    | (go_at_call 54; refine (at_any r v i _ g0 g1).mono ?_; rintro e w1 ⟨rfl, rfl⟩))
  all_goals go_ret
  all_goals exact ⟨ret_bool (by rw [stat_eq]; simp_all), by go_grown⟩
end Go.Proofs.YtfoeihbajichpaaDoor
