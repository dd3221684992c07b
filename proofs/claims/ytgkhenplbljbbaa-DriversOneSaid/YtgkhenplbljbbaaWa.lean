
/- What the functions on single rules return: counted, Score and the definition's score; the rules and the interfaces of the plain data. The numbers lie in their kinds. -/
import Derived.Test.YtgkhenplbljbbaaChecked
import Derived.Deep.RegionHeld3
import Derived.Deep.DrawnRows
import Derived.Deep.DeepCutAuto
import Derived.Deep.LoopGhost
import Derived.Outline
import Derived.Handy
import Derived.Test.YtgkhenplbljbbaaDa
set_option linter.unusedVariables false
set_option linter.unusedSimpArgs false
set_option linter.unusedSectionVars false
namespace Go.Proofs.Ytgkhenplbljbbaa
open Go.RowKit
attribute [local go_sem ↓] Go.wp_at_zero Go.wp_at_succ

set_option maxHeartbeats 4000000 in
theorem counted_any (u v p c s q : Int) (w : World) :
    Calls Try.prog 29 #[.agg #[.int .u8 (u), .int .u16 (v), .int .u16 (p), .int .u8 (c), .int .u8 (s), .int .u8 (q)]] w fun e w' => e = .returned (.agg #[.int .u8 (u), .int .u16 (pick u 16 v), .int .u16 (pick u 8 p), .int .u8 (pick u 4 c), .int .u8 (pick u 2 s), .int .u8 (pick u 1 q)]) ∧ Kept w w' := by
  go_enter Try.func29, Try.ntmps29
  go_wp2
  all_goals (refine bodyPost_ret (v := .agg #[.int .u8 (u), .int .u16 (pick u 16 v), .int .u16 (pick u 8 p), .int .u8 (pick u 4 c), .int .u8 (pick u 2 s), .int .u8 (pick u 1 q)]) (by simp [results, Try.results29, go_sem, pick, has, *]) rfl ⟨rfl, by go_grown⟩)

theorem neq43 (a b c d e f a' b' c' d' e' f' : Int) (w : World) :
   (binOp .neq 43 (.agg #[.int .u8 (a), .int .u16 (b), .int .u16 (c), .int .u8 (d), .int .u8 (e), .int .u8 (f)]) (.agg #[.int .u8 (a'), .int .u16 (b'), .int .u16 (c'), .int .u8 (d'), .int .u8 (e'), .int .u8 (f')])).run Try.prog w = .ok (.bool (neqB a b c d e f a' b' c' d' e' f')) w := by
  simp only [binOp]
  simp [go_sem, Op.equal, Op.maxDepth]
  repeat' split
  all_goals simp_all [neqB]
attribute [local go_sem ↓] neq43

set_option maxHeartbeats 1000000 in
theorem score_any (u v p c s q d0 d1 d2 d3 d4 d5 d6 d7 d8 d9 d10 d11 i0 i1 i2 i3 i4 i5 i6 : Int) (w : World) (h0 : 0 ≤ u) (h1 : u < 256) :
    Calls Try.prog 11 #[.agg #[.int .u8 (u), .int .u16 (v), .int .u16 (p), .int .u8 (c), .int .u8 (s), .int .u8 (q)], .agg #[.int .u16 d0, .int .u8 d1, .int .u8 d2, .int .u8 d3, .int .u8 d4, .int .u16 d5, .int .u16 d6, .int .u16 d7, .int .u8 d8, .int .u8 d9, .int .u8 d10, .int .u8 d11], .agg #[.int .u8 i0, .int .u8 i1, .int .u8 i2, .int .u8 i3, .int .u8 i4, .int .u8 i5, .int .u8 i6]] w fun e w' => e = .returned (.int .i64 (scoreS u v p c s q d5 d6 i3 i4 i5)) ∧ Kept w w' := by
  go_enter Try.func11, Try.ntmps11
  go_wp2_with fail
  refine wp_name (B := w.heap.size) (w0 := w) (by go_grown) (fun W hcW hfW hz hkW => ?_)
  simp only [World.size_alloc] at hz
  go_region_held3 (fun w' => (∀ b o, b < W.heap.size → w'.cell? ⟨b, o, none⟩ = W.cell? ⟨b, o, none⟩) ∧ Below W.heap.size W w') (first | assumption | exact since_start | exact since_keep (by assumption) (Nat.le_refl _) hk) (first | (go_at_call 29; refine (counted_any _ _ _ _ _ _ _).mono ?_; rintro e w1 ⟨rfl, hk⟩))
  all_goals go_wp2_with fail
  all_goals go_ret
  · refine ⟨ret_int ?_, since_kept hkW (by assumption) (Nat.le_refl _)⟩
    unfold scoreS; rw [if_pos ‹_›]
  · refine ⟨ret_int ?_, since_kept hkW (by assumption) (Nat.le_refl _)⟩
    unfold scoreS; rw [if_neg (by simp [*])]
end Go.Proofs.Ytgkhenplbljbbaa
