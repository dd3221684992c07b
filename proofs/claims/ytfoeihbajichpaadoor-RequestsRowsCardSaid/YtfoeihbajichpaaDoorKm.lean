
/- The law's own check of a request: what it answers, whole. The numbers lie in their kinds. -/
import Derived.Test.YtfoeihbajichpaaDoorChecked
import Derived.Deep.RegionHeld3
import Derived.Deep.DrawnRows
import Derived.Deep.DeepCutAuto
import Derived.Deep.LoopGhost
import Derived.Outline
import Derived.Handy
import Derived.OwnWalk
import Derived.Laws.EntriesVeiled
import Derived.Test.YtfoeihbajichpaaDoorKj
import Derived.Test.YtfoeihbajichpaaDoorKk
import Derived.Test.YtfoeihbajichpaaDoorKl
import Derived.Test.YtfoeihbajichpaaDoorSd
set_option linter.unusedVariables false
set_option linter.unusedSimpArgs false
set_option linter.unusedSectionVars false
namespace Go.Proofs.YtfoeihbajichpaaDoor
open Go.RowKit Go.Lib
attribute [local go_sem ↓] Go.wp_at_zero Go.wp_at_succ

theorem lawcheck_some (c t v x l : Int) (w : World) (t0 : 0 ≤ t) (t1 : t < 256) (c0 : 0 ≤ c) (c1 : c < 256) (v0 : 0 ≤ v) (x0 : 0 ≤ x) (l0 : 0 ≤ l) (hk0 : t / 32 % 4 = 0) (hn : nameW c ≠ [])
    (hcs : c = 0 ∨ c = 1 ∨ c = 3 ∨ c = 5 ∨ c = 6 ∨ c = 7 ∨ c = 8 ∨ c = 9 ∨ c = 10 ∨ c = 11 ∨ c = 12) :
    Calls Tryd.prog 16 #[.agg #[.int .u8 (t), .int .u8 (c), .int .u16 (v), .int .u16 (x), .int .u16 (l)]] w fun e w' => e = .returned (.int .i64 (ansL (fitsL c (decide (128 ≤ t)) (devL t x) (numL t x) (endL t x) (t % 32) v l))) ∧ Kept w w' := by
  have hr : t % 32 = 0 ∨ t % 32 = 1 ∨ t % 32 = 2 ∨ 3 ≤ t % 32 := by omega
  rcases hr with h | h | h | h
  · by_cases hx : x = 0
    · exact lawcheck_R0T c t v x l w t0 t1 c0 c1 v0 x0 l0 hk0 hn hcs h hx
    · exact lawcheck_R0F c t v x l w t0 t1 c0 c1 v0 x0 l0 hk0 hn hcs h hx
  · by_cases hx : x < 16
    · exact lawcheck_R1T c t v x l w t0 t1 c0 c1 v0 x0 l0 hk0 hn hcs h hx
    · exact lawcheck_R1F c t v x l w t0 t1 c0 c1 v0 x0 l0 hk0 hn hcs h (by omega)
  · cases hx : epB x
    · exact lawcheck_R2F c t v x l w t0 t1 c0 c1 v0 x0 l0 hk0 hn hcs h hx
    · exact lawcheck_R2T c t v x l w t0 t1 c0 c1 v0 x0 l0 hk0 hn hcs h hx
  · exact lawcheck_RX c t v x l w t0 t1 c0 c1 v0 x0 l0 hk0 hn hcs h trivial
/-- what the law's check answers, whole -/
def lawC (t c v x l : Int) : Int :=
  if t / 32 % 4 ≠ 0 then 1 else if nameW c = [] then 7 else ansL (fitsL c (decide (128 ≤ t)) (devL t x) (numL t x) (endL t x) (t % 32) v l)
theorem lawcheck_any (t c v x l : Int) (w : World) (hok : Rq.ok ⟨t, c, v, x, l⟩) :
    Calls Tryd.prog 16 #[.agg #[.int .u8 (t), .int .u8 (c), .int .u16 (v), .int .u16 (x), .int .u16 (l)]] w fun e w' => e = .returned (.int .i64 (lawC t c v x l)) ∧ Kept w w' := by
  obtain ⟨⟨t0, t1⟩, ⟨c0, c1⟩, ⟨v0, v1⟩, ⟨x0, x1⟩, ⟨l0, l1⟩⟩ := hok
  dsimp only at t0 t1 c0 c1 v0 v1 x0 x1 l0 l1
  unfold lawC
  by_cases hk : t / 32 % 4 ≠ 0
  · rw [if_pos hk]; exact lawcheck_kind t c v x l w t0 t1 hk
  rw [if_neg hk]
  have hk0 : t / 32 % 4 = 0 := by omega
  by_cases hn : nameW c = []
  · rw [if_pos hn]; exact lawcheck_none t c v x l w t0 t1 c0 c1 hk0 hn
  rw [if_neg hn]
  have hc := nameW_lt hn
  have hcs : c = 0 ∨ c = 1 ∨ c = 2 ∨ c = 3 ∨ c = 4 ∨ c = 5 ∨ c = 6 ∨ c = 7 ∨ c = 8 ∨ c = 9 ∨ c = 10 ∨ c = 11 ∨ c = 12 := by omega
  rcases hcs with rfl | rfl | rfl | rfl | rfl | rfl | rfl | rfl | rfl | rfl | rfl | rfl | rfl
  · exact lawcheck_some 0 t v x l w t0 t1 (by decide) (by decide) v0 x0 l0 hk0 hn (by decide)
  · exact lawcheck_some 1 t v x l w t0 t1 (by decide) (by decide) v0 x0 l0 hk0 hn (by decide)
  · exact absurd rfl hn
  · exact lawcheck_some 3 t v x l w t0 t1 (by decide) (by decide) v0 x0 l0 hk0 hn (by decide)
  · exact absurd rfl hn
  · exact lawcheck_some 5 t v x l w t0 t1 (by decide) (by decide) v0 x0 l0 hk0 hn (by decide)
  · exact lawcheck_some 6 t v x l w t0 t1 (by decide) (by decide) v0 x0 l0 hk0 hn (by decide)
  · exact lawcheck_some 7 t v x l w t0 t1 (by decide) (by decide) v0 x0 l0 hk0 hn (by decide)
  · exact lawcheck_some 8 t v x l w t0 t1 (by decide) (by decide) v0 x0 l0 hk0 hn (by decide)
  · exact lawcheck_some 9 t v x l w t0 t1 (by decide) (by decide) v0 x0 l0 hk0 hn (by decide)
  · exact lawcheck_some 10 t v x l w t0 t1 (by decide) (by decide) v0 x0 l0 hk0 hn (by decide)
  · exact lawcheck_some 11 t v x l w t0 t1 (by decide) (by decide) v0 x0 l0 hk0 hn (by decide)
  · exact lawcheck_some 12 t v x l w t0 t1 (by decide) (by decide) v0 x0 l0 hk0 hn (by decide)
/-- the law's check answers what Check answers -/
theorem lawC_eq (t c v x l : Int) (hok : Rq.ok ⟨t, c, v, x, l⟩) : lawC t c v x l = checkC t c v x l := by
  obtain ⟨⟨t0, t1⟩, ⟨c0, c1⟩, ⟨v0, v1⟩, ⟨x0, x1⟩, ⟨l0, l1⟩⟩ := hok
  dsimp only at t0 t1 c0 c1 v0 v1 x0 x1 l0 l1
  unfold lawC checkC
  by_cases hk : t / 32 % 4 ≠ 0
  · rw [if_pos hk, if_pos hk]
  rw [if_neg hk, if_neg hk]
  by_cases hn : nameW c = []
  · rw [if_pos hn]
    have hr : rowF c = none := by
      unfold rowF
      repeat' (rw [if_neg (fun h => by subst h; exact absurd hn (by decide))])
    rw [hr]
  rw [if_neg hn]
  have hc := nameW_lt hn
  have hcs : c = 0 ∨ c = 1 ∨ c = 2 ∨ c = 3 ∨ c = 4 ∨ c = 5 ∨ c = 6 ∨ c = 7 ∨ c = 8 ∨ c = 9 ∨ c = 10 ∨ c = 11 ∨ c = 12 := by omega
  rcases hcs with rfl | rfl | rfl | rfl | rfl | rfl | rfl | rfl | rfl | rfl | rfl | rfl | rfl
  · exact fit_0 t v x l v0 x0 l0
  · exact fit_1 t v x l v0 x0 l0
  · exact absurd rfl hn
  · exact fit_3 t v x l v0 x0 l0
  · exact absurd rfl hn
  · exact fit_5 t v x l v0 x0 l0
  · exact fit_6 t v x l v0 x0 l0
  · exact fit_7 t v x l v0 x0 l0
  · exact fit_8 t v x l v0 x0 l0
  · exact fit_9 t v x l v0 x0 l0
  · exact fit_10 t v x l v0 x0 l0
  · exact fit_11 t v x l v0 x0 l0
  · exact fit_12 t v x l v0 x0 l0
end Go.Proofs.YtfoeihbajichpaaDoor
