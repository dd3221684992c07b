
/- The law's own check of a request: what it answers, code by code. The numbers lie in their kinds. -/
import Derived.Test.YtfoeihbajichpaaDoorChecked
import Derived.Deep.RegionHeld3
import Derived.Deep.DrawnRows
import Derived.Deep.DeepCutAuto
import Derived.Deep.LoopGhost
import Derived.Outline
import Derived.Handy
import Derived.OwnWalk
import Derived.Laws.EntriesVeiled
import Derived.Test.YtfoeihbajichpaaDoorSi
import Derived.Test.YtfoeihbajichpaaDoorSd
set_option linter.unusedVariables false
set_option linter.unusedSimpArgs false
set_option linter.unusedSectionVars false
namespace Go.Proofs.YtfoeihbajichpaaDoor
open Go.RowKit Go.Lib
attribute [local go_sem ↓] Go.wp_at_zero Go.wp_at_succ

/-- what the law asks of a request with a code: the direction, the three receivers as truths -/
def fitsL (c : Int) (I D N E : Bool) (r v l : Int) : Bool :=
  if c = 0 then I && v == 0 && l == 2 && (D || N || E)
  else if c = 1 ∨ c = 3 then !I && l == 0 && (D && v == 1 || E && v == 0)
  else if c = 5 then !I && D && decide (v < 128) && l == 0
  else if c = 6 then I && decide (r < 2)
  else if c = 7 then !I && r == 0
  else if c = 8 then I && D && v == 0 && l == 1
  else if c = 9 then !I && D && decide (v < 256) && l == 0
  else if c = 10 then I && N && v == 0 && l == 1
  else if c = 11 then !I && N && decide (v < 16) && l == 0
  else I && E && v == 0 && l == 2
def ansL (b : Bool) : Int := if b then 0 else 4
theorem ansL_if {b : Bool} {P : Prop} [Decidable P] (h : b = true ↔ ¬ P) : ansL b = if P then 4 else 0 := by
  unfold ansL
  by_cases hp : P
  · have hb : b = false := by cases b with | false => rfl | true => exact absurd hp (h.1 rfl)
    rw [hb, if_pos hp]; rfl
  · rw [h.2 hp, if_neg hp]; rfl
def devL (t x : Int) : Bool := t % 32 == 0 && x == 0
def numL (t x : Int) : Bool := t % 32 == 1 && decide (x < 16)
def endL (t x : Int) : Bool := t % 32 == 2 && epB x
set_option maxRecDepth 100000 in
theorem lawcheck_kind (t c v x l : Int) (w : World) (t0 : 0 ≤ t) (t1 : t < 256) (hk0 : t / 32 % 4 ≠ 0) :
    Calls Tryd.prog 16 #[.agg #[.int .u8 (t), .int .u8 (c), .int .u16 (v), .int .u16 (x), .int .u16 (l)]] w fun e w' => e = .returned (.int .i64 1) ∧ Kept w w' := by
  have hb : (t / 32 % 4 != 0) = true := by simpa using hk0
  go_enter Tryd.func16, Tryd.ntmps16
  go_wp2
  go_ret
  exact ⟨rfl, by go_grown⟩
set_option maxRecDepth 100000 in
set_option maxHeartbeats 2000000 in
theorem lawcheck_none (t c v x l : Int) (w : World) (t0 : 0 ≤ t) (t1 : t < 256) (c0 : 0 ≤ c) (c1 : c < 256) (hk0 : t / 32 % 4 = 0) (hn : nameW c = []) :
    Calls Tryd.prog 16 #[.agg #[.int .u8 (t), .int .u8 (c), .int .u16 (v), .int .u16 (x), .int .u16 (l)]] w fun e w' => e = .returned (.int .i64 7) ∧ Kept w w' := by
  have hb : (t / 32 % 4 != 0) = false := by simp [hk0]
  have HN := fun W => nameL_any c W c0 c1
  rw [hn] at HN
  have hz1 : (B8 []).toList.isEmpty = true := by decide +kernel
  have hz2 : (B8 []).toList = [] := by decide +kernel
  clear hk0 hn
  go_enter Tryd.func16, Tryd.ntmps16
  go_wp2_with (go_at_call 34; refine (HN _).mono ?_; rintro e w1 ⟨rfl, rfl⟩)
  go_ret
  exact ⟨rfl, by go_grown⟩
theorem fit_0 (t v x l : Int) (v0 : 0 ≤ v) (x0 : 0 ≤ x) (l0 : 0 ≤ l) : ansL (fitsL 0 (decide (128 ≤ t)) (devL t x) (numL t x) (endL t x) (t % 32) v l) = match rowF 0 with
  | none => 7
  | some (i, n, k) => if i ≠ decide (128 ≤ t) ∨ (0 ≤ n ∧ l ≠ n) ∨ k.fits (t % 32) v x = false then 4 else 0 := by
  rw [show rowF 0 = some (true, 2, FK.status) from rfl]
  dsimp only
  refine ansL_if ?_
  cases he : epB x <;> simp [fitsL, devL, numL, endL, FK.fits, he] <;> omega
theorem fit_1 (t v x l : Int) (v0 : 0 ≤ v) (x0 : 0 ≤ x) (l0 : 0 ≤ l) : ansL (fitsL 1 (decide (128 ≤ t)) (devL t x) (numL t x) (endL t x) (t % 32) v l) = match rowF 1 with
  | none => 7
  | some (i, n, k) => if i ≠ decide (128 ≤ t) ∨ (0 ≤ n ∧ l ≠ n) ∨ k.fits (t % 32) v x = false then 4 else 0 := by
  rw [show rowF 1 = some (false, 0, FK.feature) from rfl]
  dsimp only
  refine ansL_if ?_
  cases he : epB x <;> simp [fitsL, devL, numL, endL, FK.fits, he] <;> omega
theorem fit_3 (t v x l : Int) (v0 : 0 ≤ v) (x0 : 0 ≤ x) (l0 : 0 ≤ l) : ansL (fitsL 3 (decide (128 ≤ t)) (devL t x) (numL t x) (endL t x) (t % 32) v l) = match rowF 3 with
  | none => 7
  | some (i, n, k) => if i ≠ decide (128 ≤ t) ∨ (0 ≤ n ∧ l ≠ n) ∨ k.fits (t % 32) v x = false then 4 else 0 := by
  rw [show rowF 3 = some (false, 0, FK.feature) from rfl]
  dsimp only
  refine ansL_if ?_
  cases he : epB x <;> simp [fitsL, devL, numL, endL, FK.fits, he] <;> omega
theorem fit_5 (t v x l : Int) (v0 : 0 ≤ v) (x0 : 0 ≤ x) (l0 : 0 ≤ l) : ansL (fitsL 5 (decide (128 ≤ t)) (devL t x) (numL t x) (endL t x) (t % 32) v l) = match rowF 5 with
  | none => 7
  | some (i, n, k) => if i ≠ decide (128 ≤ t) ∨ (0 ≤ n ∧ l ≠ n) ∨ k.fits (t % 32) v x = false then 4 else 0 := by
  rw [show rowF 5 = some (false, 0, FK.device 127) from rfl]
  dsimp only
  refine ansL_if ?_
  cases he : epB x <;> simp [fitsL, devL, numL, endL, FK.fits, he] <;> omega
theorem fit_6 (t v x l : Int) (v0 : 0 ≤ v) (x0 : 0 ≤ x) (l0 : 0 ≤ l) : ansL (fitsL 6 (decide (128 ≤ t)) (devL t x) (numL t x) (endL t x) (t % 32) v l) = match rowF 6 with
  | none => 7
  | some (i, n, k) => if i ≠ decide (128 ≤ t) ∨ (0 ≤ n ∧ l ≠ n) ∨ k.fits (t % 32) v x = false then 4 else 0 := by
  rw [show rowF 6 = some (true, -1, FK.most1) from rfl]
  dsimp only
  refine ansL_if ?_
  cases he : epB x <;> simp [fitsL, devL, numL, endL, FK.fits, he] <;> omega
theorem fit_7 (t v x l : Int) (v0 : 0 ≤ v) (x0 : 0 ≤ x) (l0 : 0 ≤ l) : ansL (fitsL 7 (decide (128 ≤ t)) (devL t x) (numL t x) (endL t x) (t % 32) v l) = match rowF 7 with
  | none => 7
  | some (i, n, k) => if i ≠ decide (128 ≤ t) ∨ (0 ≤ n ∧ l ≠ n) ∨ k.fits (t % 32) v x = false then 4 else 0 := by
  rw [show rowF 7 = some (false, -1, FK.only0) from rfl]
  dsimp only
  refine ansL_if ?_
  cases he : epB x <;> simp [fitsL, devL, numL, endL, FK.fits, he] <;> omega
theorem fit_8 (t v x l : Int) (v0 : 0 ≤ v) (x0 : 0 ≤ x) (l0 : 0 ≤ l) : ansL (fitsL 8 (decide (128 ≤ t)) (devL t x) (numL t x) (endL t x) (t % 32) v l) = match rowF 8 with
  | none => 7
  | some (i, n, k) => if i ≠ decide (128 ≤ t) ∨ (0 ≤ n ∧ l ≠ n) ∨ k.fits (t % 32) v x = false then 4 else 0 := by
  rw [show rowF 8 = some (true, 1, FK.device 0) from rfl]
  dsimp only
  refine ansL_if ?_
  cases he : epB x <;> simp [fitsL, devL, numL, endL, FK.fits, he] <;> omega
theorem fit_9 (t v x l : Int) (v0 : 0 ≤ v) (x0 : 0 ≤ x) (l0 : 0 ≤ l) : ansL (fitsL 9 (decide (128 ≤ t)) (devL t x) (numL t x) (endL t x) (t % 32) v l) = match rowF 9 with
  | none => 7
  | some (i, n, k) => if i ≠ decide (128 ≤ t) ∨ (0 ≤ n ∧ l ≠ n) ∨ k.fits (t % 32) v x = false then 4 else 0 := by
  rw [show rowF 9 = some (false, 0, FK.device 255) from rfl]
  dsimp only
  refine ansL_if ?_
  cases he : epB x <;> simp [fitsL, devL, numL, endL, FK.fits, he] <;> omega
theorem fit_10 (t v x l : Int) (v0 : 0 ≤ v) (x0 : 0 ≤ x) (l0 : 0 ≤ l) : ansL (fitsL 10 (decide (128 ≤ t)) (devL t x) (numL t x) (endL t x) (t % 32) v l) = match rowF 10 with
  | none => 7
  | some (i, n, k) => if i ≠ decide (128 ≤ t) ∨ (0 ≤ n ∧ l ≠ n) ∨ k.fits (t % 32) v x = false then 4 else 0 := by
  rw [show rowF 10 = some (true, 1, FK.setting 0) from rfl]
  dsimp only
  refine ansL_if ?_
  cases he : epB x <;> simp [fitsL, devL, numL, endL, FK.fits, he] <;> omega
theorem fit_11 (t v x l : Int) (v0 : 0 ≤ v) (x0 : 0 ≤ x) (l0 : 0 ≤ l) : ansL (fitsL 11 (decide (128 ≤ t)) (devL t x) (numL t x) (endL t x) (t % 32) v l) = match rowF 11 with
  | none => 7
  | some (i, n, k) => if i ≠ decide (128 ≤ t) ∨ (0 ≤ n ∧ l ≠ n) ∨ k.fits (t % 32) v x = false then 4 else 0 := by
  rw [show rowF 11 = some (false, 0, FK.setting 15) from rfl]
  dsimp only
  refine ansL_if ?_
  cases he : epB x <;> simp [fitsL, devL, numL, endL, FK.fits, he] <;> omega
theorem fit_12 (t v x l : Int) (v0 : 0 ≤ v) (x0 : 0 ≤ x) (l0 : 0 ≤ l) : ansL (fitsL 12 (decide (128 ≤ t)) (devL t x) (numL t x) (endL t x) (t % 32) v l) = match rowF 12 with
  | none => 7
  | some (i, n, k) => if i ≠ decide (128 ≤ t) ∨ (0 ≤ n ∧ l ≠ n) ∨ k.fits (t % 32) v x = false then 4 else 0 := by
  rw [show rowF 12 = some (true, 2, FK.endp) from rfl]
  dsimp only
  refine ansL_if ?_
  cases he : epB x <;> simp [fitsL, devL, numL, endL, FK.fits, he] <;> omega
end Go.Proofs.YtfoeihbajichpaaDoor
