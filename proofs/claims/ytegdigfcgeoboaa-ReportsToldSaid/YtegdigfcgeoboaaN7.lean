/- Limits of a field. -/
import Derived.Test.YtegdigfcgeoboaaChecked
import Derived.Deep.RegionHeld3
import Derived.Deep.DrawnRows
import Derived.Deep.DeepCutAuto
import Derived.Deep.LoopGhost
import Derived.Outline
import Derived.Handy
import Derived.OwnWalk
import Derived.BigQuiet
import Derived.Test.YtegdigfcgeoboaaN6
set_option linter.unusedVariables false
set_option linter.unusedSimpArgs false
set_option linter.unusedSectionVars false
/- The reader's field: more limits. (UNDER WAY) -/
namespace Go.Proofs.Ytegdigfcgeoboaa
open Go.RowKit Go.Maps
attribute [local go_sem ↓] Go.wp_at_zero Go.wp_at_succ

set_option maxRecDepth 100000 in
set_option maxHeartbeats 4000000 in
theorem field_wide {w : World} {base R m : Nat} {vs vu vf vc : Value} {s : RS} (h : Rd w base R m vs vu vf vc s) (hb : base ≤ w.heap.size) (hs : s.Fine) (k : Int) (x : It) (c : ¬ s.opn < 0) (c1 : 32 < s.g.size) :
    Calls Try.prog 60 #[.pointer (some ⟨R, 0, none⟩), .int .u8 k, itV x] w (Did base R m w (fieldS s k x)) := by
  have hE : fieldS s k x = (3, s) := by unfold fieldS; rw [if_neg c, if_pos (.inr (.inl c1))]
  rw [hE]
  clear hE
  have d1 : decide (s.g.size < 1) = false := decide_eq_false (by omega)
  have c' : 0 ≤ s.opn := by omega
  have hRl := heap_lt h.box
  have hml : m < w.heap.size := Nat.lt_of_lt_of_le h.low.2.1 hb
  have hrp := hs.report
  have hwr : IntKind.u8.wrap s.g.report = s.g.report := by rw [IntKind.wrap_u8]; omega
  have c5 : w.cell? ⟨R, 5, none⟩ = some (.int .u32 s.g.report) := cell_heap h.box (o := 5) rfl
  have c10 : w.cell? ⟨R, 10, none⟩ = some (.int .i64 s.opn) := cell_heap h.box (o := 10) rfl
  unfold itV
  go_enter Try.func60, Try.ntmps60
  go_upto_region 4 with (fail)
  refine wp_at (fun W => Rd W base R m vs vu vf vc s ∧ W.heap[w.heap.size + 1]? = some (.cells #[.int .u8 k, .int .u8 s.g.report] 90 (0, 0)) ∧ W.heap[w.heap.size]? = some (.cells #[.int .u8 x.ty, .int .u8 x.tg, .int .i64 x.size, .int .u32 x.data] 29 (0, 0)) ∧ Kept w W ∧ W.heap.size = w.heap.size + 2) ⟨h.kept (by go_grown), heap_at _ (by simp), heap_past (heap_at _ rfl), by go_grown, by simp⟩ (fun W hW => ?_)
  obtain ⟨hr, hb1, hb2, hkW, hz⟩ := hW
  clear c5 c10
  have c3 : W.cell? ⟨R, 3, none⟩ = some (.int .u32 s.g.size) := cell_heap hr.box (o := 3) rfl
  have c4 : W.cell? ⟨R, 4, none⟩ = some (.int .u32 s.g.count) := cell_heap hr.box (o := 4) rfl
  have c5 : W.cell? ⟨R, 5, none⟩ = some (.int .u32 s.g.report) := cell_heap hr.box (o := 5) rfl
  have Hkw := hide hkW
  clear hkW hz hb1 hb2 hr hrp hs hml
  go_quiet (fail)
  go_wp2_with fail
  go_ret
  exact ⟨rfl, Fr.kept (below_drewN Hkw.out _) hb, fun e => by cases e⟩
end Go.Proofs.Ytegdigfcgeoboaa
/- The reader's field: more limits. (UNDER WAY) -/
namespace Go.Proofs.Ytegdigfcgeoboaa
open Go.RowKit Go.Maps
attribute [local go_sem ↓] Go.wp_at_zero Go.wp_at_succ

set_option maxRecDepth 100000 in
set_option maxHeartbeats 4000000 in
theorem field_none {w : World} {base R m : Nat} {vs vu vf vc : Value} {s : RS} (h : Rd w base R m vs vu vf vc s) (hb : base ≤ w.heap.size) (hs : s.Fine) (k : Int) (x : It) (c : ¬ s.opn < 0) (c1 : 1 ≤ s.g.size ∧ s.g.size ≤ 32) (c2 : s.g.count < 1) :
    Calls Try.prog 60 #[.pointer (some ⟨R, 0, none⟩), .int .u8 k, itV x] w (Did base R m w (fieldS s k x)) := by
  have hE : fieldS s k x = (3, s) := by unfold fieldS; rw [if_neg c, if_pos (.inr (.inr (.inl c2)))]
  rw [hE]
  clear hE
  have d1 : decide (s.g.size < 1) = false := decide_eq_false (by omega)
  have d2 : decide (32 < s.g.size) = false := decide_eq_false (by omega)
  clear c1
  have c' : 0 ≤ s.opn := by omega
  have hRl := heap_lt h.box
  have hml : m < w.heap.size := Nat.lt_of_lt_of_le h.low.2.1 hb
  have hrp := hs.report
  have hwr : IntKind.u8.wrap s.g.report = s.g.report := by rw [IntKind.wrap_u8]; omega
  have c5 : w.cell? ⟨R, 5, none⟩ = some (.int .u32 s.g.report) := cell_heap h.box (o := 5) rfl
  have c10 : w.cell? ⟨R, 10, none⟩ = some (.int .i64 s.opn) := cell_heap h.box (o := 10) rfl
  unfold itV
  go_enter Try.func60, Try.ntmps60
  go_upto_region 4 with (fail)
  refine wp_at (fun W => Rd W base R m vs vu vf vc s ∧ W.heap[w.heap.size + 1]? = some (.cells #[.int .u8 k, .int .u8 s.g.report] 90 (0, 0)) ∧ W.heap[w.heap.size]? = some (.cells #[.int .u8 x.ty, .int .u8 x.tg, .int .i64 x.size, .int .u32 x.data] 29 (0, 0)) ∧ Kept w W ∧ W.heap.size = w.heap.size + 2) ⟨h.kept (by go_grown), heap_at _ (by simp), heap_past (heap_at _ rfl), by go_grown, by simp⟩ (fun W hW => ?_)
  obtain ⟨hr, hb1, hb2, hkW, hz⟩ := hW
  clear c5 c10
  have c3 : W.cell? ⟨R, 3, none⟩ = some (.int .u32 s.g.size) := cell_heap hr.box (o := 3) rfl
  have c4 : W.cell? ⟨R, 4, none⟩ = some (.int .u32 s.g.count) := cell_heap hr.box (o := 4) rfl
  have c5 : W.cell? ⟨R, 5, none⟩ = some (.int .u32 s.g.report) := cell_heap hr.box (o := 5) rfl
  have Hkw := hide hkW
  clear hkW hz hb1 hb2 hr hrp hs hml
  go_quiet (fail)
  go_wp2_with fail
  go_ret
  exact ⟨rfl, Fr.kept (below_drewN Hkw.out _) hb, fun e => by cases e⟩
end Go.Proofs.Ytegdigfcgeoboaa
/- The reader's field: more limits. (UNDER WAY) -/
namespace Go.Proofs.Ytegdigfcgeoboaa
open Go.RowKit Go.Maps
attribute [local go_sem ↓] Go.wp_at_zero Go.wp_at_succ

set_option maxRecDepth 100000 in
set_option maxHeartbeats 4000000 in
theorem field_many {w : World} {base R m : Nat} {vs vu vf vc : Value} {s : RS} (h : Rd w base R m vs vu vf vc s) (hb : base ≤ w.heap.size) (hs : s.Fine) (k : Int) (x : It) (c : ¬ s.opn < 0) (c1 : 1 ≤ s.g.size ∧ s.g.size ≤ 32) (c2 : 256 < s.g.count) :
    Calls Try.prog 60 #[.pointer (some ⟨R, 0, none⟩), .int .u8 k, itV x] w (Did base R m w (fieldS s k x)) := by
  have hE : fieldS s k x = (3, s) := by unfold fieldS; rw [if_neg c, if_pos (.inr (.inr (.inr (.inl c2))))]
  rw [hE]
  clear hE
  have d1 : decide (s.g.size < 1) = false := decide_eq_false (by omega)
  have d2 : decide (32 < s.g.size) = false := decide_eq_false (by omega)
  have d3 : decide (s.g.count < 1) = false := decide_eq_false (by omega)
  clear c1
  have c' : 0 ≤ s.opn := by omega
  have hRl := heap_lt h.box
  have hml : m < w.heap.size := Nat.lt_of_lt_of_le h.low.2.1 hb
  have hrp := hs.report
  have hwr : IntKind.u8.wrap s.g.report = s.g.report := by rw [IntKind.wrap_u8]; omega
  have c5 : w.cell? ⟨R, 5, none⟩ = some (.int .u32 s.g.report) := cell_heap h.box (o := 5) rfl
  have c10 : w.cell? ⟨R, 10, none⟩ = some (.int .i64 s.opn) := cell_heap h.box (o := 10) rfl
  unfold itV
  go_enter Try.func60, Try.ntmps60
  go_upto_region 4 with (fail)
  refine wp_at (fun W => Rd W base R m vs vu vf vc s ∧ W.heap[w.heap.size + 1]? = some (.cells #[.int .u8 k, .int .u8 s.g.report] 90 (0, 0)) ∧ W.heap[w.heap.size]? = some (.cells #[.int .u8 x.ty, .int .u8 x.tg, .int .i64 x.size, .int .u32 x.data] 29 (0, 0)) ∧ Kept w W ∧ W.heap.size = w.heap.size + 2) ⟨h.kept (by go_grown), heap_at _ (by simp), heap_past (heap_at _ rfl), by go_grown, by simp⟩ (fun W hW => ?_)
  obtain ⟨hr, hb1, hb2, hkW, hz⟩ := hW
  clear c5 c10
  have c3 : W.cell? ⟨R, 3, none⟩ = some (.int .u32 s.g.size) := cell_heap hr.box (o := 3) rfl
  have c4 : W.cell? ⟨R, 4, none⟩ = some (.int .u32 s.g.count) := cell_heap hr.box (o := 4) rfl
  have c5 : W.cell? ⟨R, 5, none⟩ = some (.int .u32 s.g.report) := cell_heap hr.box (o := 5) rfl
  have Hkw := hide hkW
  clear hkW hz hb1 hb2 hr hrp hs hml
  go_quiet (fail)
  go_wp2_with fail
  go_ret
  exact ⟨rfl, Fr.kept (below_drewN Hkw.out _) hb, fun e => by cases e⟩
end Go.Proofs.Ytegdigfcgeoboaa
