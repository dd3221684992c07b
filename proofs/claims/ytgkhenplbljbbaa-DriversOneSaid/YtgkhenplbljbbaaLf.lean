
/- The device without configurations. The numbers are bytes. -/
import Derived.Test.YtgkhenplbljbbaaChecked
import Derived.Deep.RegionHeld3
import Derived.Deep.DrawnRows
import Derived.Deep.DeepCutAuto
import Derived.Deep.LoopGhost
import Derived.Outline
import Derived.Handy
import Derived.Test.YtgkhenplbljbbaaWa
set_option linter.unusedVariables false
set_option linter.unusedSimpArgs false
set_option linter.unusedSectionVars false
namespace Go.Proofs.Ytgkhenplbljbbaa
open Go.RowKit
attribute [local go_sem ↓] Go.wp_at_zero Go.wp_at_succ

def venOf (ids : Int) : Int := 4660 + ids % 2
def proOf (ids : Int) : Int := 7 + ids / 2 % 2
set_option maxRecDepth 100000 in
set_option maxHeartbeats 1000000 in
/-- the device without configurations -/
theorem fof0_any (ids a : Int) (w : World) (h0 : 0 ≤ ids) (h1 : ids < 256) :
    Calls Try.prog 10 #[.agg #[.int .u8 ids, .slice none 0 0], .int .u8 a] w fun e w' => e = .returned (.agg #[.int .u8 (a), .slice none 0 0, .int .u8 0, .int .u8 0, .int .u8 0, .int .u16 0, .int .u8 0, .int .u8 0, .int .u8 0, .int .u8 0, .int .u16 (venOf ids), .int .u16 (proOf ids), .int .u16 0, .int .u8 0, .int .u8 0, .int .u8 0, .int .u8 0, .slice none 0 0]) ∧ Kept w w' := by
  go_enter Try.func10, Try.ntmps10
  go_wp2_with (first
    | (refine wpList_store_row rfl 34 (.tmp 5) (.tmp 24) rfl _ _ (by rfl) (by rfl) 34 _ (by repeat' first | exact heap_at _ (by first | rfl | (simp; done) | (simp; omega)) | exact heap_row (by assumption) | assumption | refine heap_past ?_ | refine heap_drew ?_) (by kernel_rfl) (by rfl) (by simp [Value.oneCell']) ?_))
  refine wp_at (fun W => Kept w W ∧ W.cell? ⟨w.heap.size, 0, none⟩ = some (.int .u8 ids) ∧ W.cell? ⟨w.heap.size, 1, none⟩ = some (.slice none 0 0) ∧
    W.heap[w.heap.size + 1]? = some (.cells #[.int .u8 (0), .slice none 0 0, .int .u8 0, .int .u8 0, .int .u8 0, .int .u16 0, .int .u8 0, .int .u8 0, .int .u8 0, .int .u8 0, .int .u16 (0), .int .u16 (0), .int .u16 0, .int .u8 0, .int .u8 0, .int .u8 0, .int .u8 0, .slice none 0 0] 34 (0, 0)) ∧ W.heap[w.heap.size + 1 + 1]? = some (.cells #[.int .u8 (a), .slice none 0 0, .int .u8 0, .int .u8 0, .int .u8 0, .int .u16 0, .int .u8 0, .int .u8 0, .int .u8 0, .int .u8 0, .int .u16 (venOf ids), .int .u16 (proOf ids), .int .u16 0, .int .u8 0, .int .u8 0, .int .u8 0, .int .u8 0, .slice none 0 0] 34 (0, 0))) ?_ (fun W hW => ?_)
  · refine ⟨?_, ?_, ?_, ?_, ?_⟩
    · exact below_row (by go_grown) (by omega) _
    · exact range_cell (cs := [.int .u8 ids, .slice none 0 0]) (range_of_heap (t := 37) (fr := (0, 0)) (cs := #[.int .u8 ids, .slice none 0 0]) (heap_row_other (by omega) (heap_past (heap_past (heap_at _ rfl))))) 0 rfl
    · exact range_cell (cs := [.int .u8 ids, .slice none 0 0]) (range_of_heap (t := 37) (fr := (0, 0)) (cs := #[.int .u8 ids, .slice none 0 0]) (heap_row_other (by omega) (heap_past (heap_past (heap_at _ rfl))))) 1 rfl
    · exact heap_row_other (by omega) (heap_past (heap_at _ (by simp)))
    · exact heap_row (heap_at _ (by simp))
  obtain ⟨hkW, hc0, hc1, hZ, hF⟩ := hW
  go_loopg [6] 1 (fun g s6 wr => s6 = .int .i64 0 ∧ W = wr)
  case atStart => exact ⟨rfl, rfl⟩
  case round =>
    obtain ⟨rfl, rfl⟩ := hrel
    have HZ := hide hZ
    have HF := hide hF
    clear hZ hF
    go_wp2_with (first
      | (refine wpList_load_row rfl 34 (.tmp 5) rfl (w.heap.size + 1 + 1) (by rfl) 34 _ (0, 0) _ HF.out Try.underlying34 rfl (by kernel_rfl) ?_)
      | (refine wpList_store_row rfl 34 (.tmp 4) (.tmp 99) rfl (w.heap.size + 1) _ (by rfl) (by rfl) 34 _ HZ.out (by kernel_rfl) (by rfl) (by simp [Value.oneCell']) ?_))
    refine bodyPost_ret (v := .agg #[.int .u8 (a), .slice none 0 0, .int .u8 0, .int .u8 0, .int .u8 0, .int .u16 0, .int .u8 0, .int .u8 0, .int .u8 0, .int .u8 0, .int .u16 (venOf ids), .int .u16 (proOf ids), .int .u16 0, .int .u8 0, .int .u8 0, .int .u8 0, .int .u8 0, .slice none 0 0]) ?_ rfl ⟨rfl, below_row hkW (by omega) _⟩
    exact results_cell_row (P := Try.prog) rfl _ _ (w.heap.size + 1) 34 _ (0, 0) _ (by rfl) (heap_row HZ.out) Try.underlying34 rfl (by kernel_rfl)

end Go.Proofs.Ytgkhenplbljbbaa
