

/- The law of Check: its walk. The library's variables are as the program lays them. -/
import Derived.Test.YtfoeihbajichpaaDoorChecked
import Derived.Deep.RegionHeld3
import Derived.Deep.DrawnRows
import Derived.Deep.DeepCutAuto
import Derived.Deep.LoopGhost
import Derived.Outline
import Derived.Handy
import Derived.OwnWalk
import Derived.Laws.EntriesVeiled
import Derived.Test.YtfoeihbajichpaaDoorSq
import Derived.Test.YtfoeihbajichpaaDoorKm
set_option linter.unusedVariables false
set_option linter.unusedSimpArgs false
set_option linter.unusedSectionVars false
namespace Go.Proofs.YtfoeihbajichpaaDoor
open Go.RowKit Go.Lib Go.Maps Go.WideShapes
attribute [local go_sem ↓] Go.wp_at_zero Go.wp_at_succ
theorem check_all (t c v x l : Int) (w : World) (hok : Rq.ok ⟨t, c, v, x, l⟩) :
    Calls Tryd.prog 15 #[.agg #[.int .u8 (t), .int .u8 (c), .int .u16 (v), .int .u16 (x), .int .u16 (l)]] w fun e w' => e = .returned (.int .i64 (checkC t c v x l)) ∧ Kept w w' := by
  obtain ⟨⟨t0, t1⟩, ⟨c0, c1⟩, ⟨v0, v1⟩, ⟨x0, x1⟩, ⟨l0, l1⟩⟩ := hok
  dsimp only at t0 t1 c0 c1 v0 v1 x0 x1 l0 l1
  by_cases hk : t / 32 % 4 ≠ 0
  · rw [show checkC t c v x l = 1 by unfold checkC; rw [if_pos hk]]; exact check_kind t c v x l w t0 t1 hk
  have hk0 : t / 32 % 4 = 0 := by omega
  cases hr : rowF c with
  | none =>
    rw [show checkC t c v x l = 7 by unfold checkC; rw [if_neg hk, hr]]
    exact check_none t c v x l w t0 t1 c0 c1 hk0 hr
  | some q =>
    obtain ⟨i, n, k⟩ := q
    exact check_row t c v x l n i k w t0 t1 c0 c1 v0 v1 x0 x1 l0 l1 hk0 hr
set_option maxRecDepth 100000 in
set_option maxHeartbeats 4000000 in
theorem lawcheck (t c v x l : Int) (w : World) (hT : Tabs w) (hok : Rq.ok ⟨t, c, v, x, l⟩) :
    Calls Tryd.prog 4 #[.agg #[.int .u8 (t), .int .u8 (c), .int .u16 (v), .int .u16 (x), .int .u16 (l)]] w fun e w' => e = .returned (.bool true) ∧ Kept w w' := by
  have HC := fun W => check_all t c v x l W hok
  have HL := fun W => lawcheck_any t c v x l W hok
  rw [lawC_eq t c v x l hok] at HL
  generalize checkC t c v x l = K at *
  go_enter Tryd.func4, Tryd.ntmps4
  go_upto_region 1 with (fail)
  refine wp_at (fun W => W.heap[w.heap.size]? = some (.cells #[.int .u8 (t), .int .u8 (c), .int .u16 (v), .int .u16 (x), .int .u16 (l)] 25 (0, 0)) ∧ Kept w W) ⟨heap_at _ rfl, by go_grown⟩ (fun W hW => ?_)
  obtain ⟨HX, hkW⟩ := hW
  have hTW := Lib.hid (hT.kept hkW)
  have r0 := cell_heap HX (o := 0) rfl
  have r1 := cell_heap HX (o := 1) rfl
  have r2 := cell_heap HX (o := 2) rfl
  have r3 := cell_heap HX (o := 3) rfl
  have r4 := cell_heap HX (o := 4) rfl
  have hxl := heap_lt HX
  go_region_held3 (fun w' => (∀ b o, b < W.heap.size → w'.cell? ⟨b, o, none⟩ = W.cell? ⟨b, o, none⟩) ∧ Below W.heap.size W w') (first | assumption | exact since_start | exact since_keep (by assumption) (Nat.le_refl _) hk) (first
    | (go_at_call 15; refine (HC _).mono ?_; rintro e w5 ⟨rfl, hk⟩; dsimp only)
    | (go_at_call 16; refine (HL _).mono ?_; rintro e w5 ⟨rfl, hk⟩; dsimp only)
    | (go_at_call 11; refine (lives_any _ (hTW.out.kept (Below.mono (by assumption : _ ∧ _).2 (Nat.le_refl _)))).mono ?_; rintro e w5 ⟨rfl, hk⟩; dsimp only))
  all_goals go_wp2
  all_goals go_ret
  all_goals exact ⟨rfl, hkW.trans' (since_kept (Below.refl _ _) (by assumption) (Nat.le_refl _))⟩
end Go.Proofs.YtfoeihbajichpaaDoor
