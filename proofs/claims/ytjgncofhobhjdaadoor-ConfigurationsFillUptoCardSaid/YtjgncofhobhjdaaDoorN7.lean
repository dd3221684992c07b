/- Decode. -/
import Derived.Test.YtjgncofhobhjdaaDoorChecked
import Derived.Deep.RegionHeld3
import Derived.Deep.DrawnRows
import Derived.Deep.DeepCutAuto
import Derived.Deep.LoopGhost
import Derived.Outline
import Derived.Handy
import Derived.OwnWalk
import Derived.BigQuiet
import Derived.Test.YtjgncofhobhjdaaDoorN6
import Derived.Test.YtjgncofhobhjdaaDoorN4
set_option linter.unusedVariables false
set_option linter.unusedSimpArgs false
set_option linter.unusedSectionVars false
/- decode of the descriptor of an interface. Printed by gen_sh.py. -/
namespace Go.Proofs.YtjgncofhobhjdaaDoor
open Go.RowKit
attribute [local go_sem ↓] Go.wp_at_zero Go.wp_at_succ

theorem difRet {tm : Array Value} {w : World} {R : Nat} {a b c d e f g : Value} {E : Int} (h2 : tm[8]? = some (.pointer (some ⟨R, 0, none⟩))) (h3 : tm[9]? = some (.int .i64 E)) (h : w.heap[R]? = some (.cells #[a, b, c, d, e, f, g] 53 (0, 0))) : (results Tryd.f80 tm).run Tryd.prog w = .ok (.tuple #[.agg #[a, b, c, d, e, f, g], .int .i64 E]) w := by
  have c0 : w.cell? ⟨R, 0, none⟩ = some a := cell_heap h (o := 0) rfl
  have c1 : w.cell? ⟨R, 1, none⟩ = some b := cell_heap h (o := 1) rfl
  have c2 : w.cell? ⟨R, 2, none⟩ = some c := cell_heap h (o := 2) rfl
  have c3 : w.cell? ⟨R, 3, none⟩ = some d := cell_heap h (o := 3) rfl
  have c4 : w.cell? ⟨R, 4, none⟩ = some e := cell_heap h (o := 4) rfl
  have c5 : w.cell? ⟨R, 5, none⟩ = some f := cell_heap h (o := 5) rfl
  have c6 : w.cell? ⟨R, 6, none⟩ = some g := cell_heap h (o := 6) rfl
  simp [results, Tryd.results80, go_sem, Array.getD_eq_getD_getElem?, h2, h3, c0, c1, c2, c3, c4, c5, c6]
theorem decIf_no {b : List Int} (h : decIf b = none) (hl : b.length = 9) : okIf (readIf b) = false ∨ (okIf (readIf b) = true ∧ ¬ rawIf (readIf b) = b) := by
  unfold decIf at h
  cases ho : okIf (readIf b) with
  | false => exact .inl rfl
  | true =>
    refine .inr ⟨rfl, fun e => ?_⟩
    rw [if_pos ⟨hl, ho, e⟩] at h
    cases h
theorem decIf_yes {b : List Int} {d : IfD} (h : decIf b = some d) : b.length = 9 ∧ okIf d = true ∧ rawIf d = b ∧ readIf b = d := by
  unfold decIf at h
  by_cases hc : b.length = 9 ∧ okIf (readIf b) = true ∧ rawIf (readIf b) = b
  · rw [if_pos hc] at h
    injection h with h
    rw [h] at hc
    exact ⟨hc.1, hc.2.1, hc.2.2, h⟩
  · rw [if_neg hc] at h
    cases h
set_option maxRecDepth 100000 in
set_option maxHeartbeats 4000000 in
theorem dif_size (A : Option Addr) (n c : Nat) (l : List Int) (w : World) (hl : Sl u8T w (low w.heap.size) A n l) (hn : n ≠ 9) :
    Calls Tryd.prog 80 #[.slice A n c, .int .i64 9, .func (.func 81) #[] #[], .func (.func 72) #[] #[]] w fun e w' => (∃ E : Int, e = .returned (.tuple #[.agg #[.int .u8 0, .int .u8 0, .int .u8 0, .int .u8 0, .int .u8 0, .int .u8 0, .int .u8 0], .int .i64 E]) ∧ E ≠ 0) ∧ Kept w w' := by
  have hne : ((n : Int) != 9) = true := by simp; omega
  have hne2 : decide ((n : Int) = 9) = false := decide_eq_false (by omega)
  go_enter Tryd.func80, Tryd.ntmps80
  go_upto_region 3 with (fail)
  have k2 : True := trivial
  refine wp_at (fun V => V.heap[w.heap.size]? = some (.cells #[.int .u8 0, .int .u8 0, .int .u8 0, .int .u8 0, .int .u8 0, .int .u8 0, .int .u8 0] 53 (0, 0)) ∧ V.heap[w.heap.size + 1]? = some (.cells #[.int .u8 0, .int .u8 0, .int .u8 0, .int .u8 0, .int .u8 0, .int .u8 0, .int .u8 0] 53 (0, 0)) ∧ Kept w V) ⟨heap_past (heap_at _ rfl), heap_at _ (by simp), by go_grown⟩ (fun V2 hV2 => ?_)
  obtain ⟨hB3, hC3, hk3⟩ := hV2
  have hlb := heap_lt hB3
  have hlc := heap_lt hC3
  have b0 := cell_heap hB3 (o := 0) rfl
  have p0 := frozen_heap hB3 (o := 0)
  have q0 := cell_heap hC3 (o := 0) rfl
  have b1 := cell_heap hB3 (o := 1) rfl
  have p1 := frozen_heap hB3 (o := 1)
  have q1 := cell_heap hC3 (o := 1) rfl
  have b2 := cell_heap hB3 (o := 2) rfl
  have p2 := frozen_heap hB3 (o := 2)
  have q2 := cell_heap hC3 (o := 2) rfl
  have b3 := cell_heap hB3 (o := 3) rfl
  have p3 := frozen_heap hB3 (o := 3)
  have q3 := cell_heap hC3 (o := 3) rfl
  have b4 := cell_heap hB3 (o := 4) rfl
  have p4 := frozen_heap hB3 (o := 4)
  have q4 := cell_heap hC3 (o := 4) rfl
  have b5 := cell_heap hB3 (o := 5) rfl
  have p5 := frozen_heap hB3 (o := 5)
  have q5 := cell_heap hC3 (o := 5) rfl
  have b6 := cell_heap hB3 (o := 6) rfl
  have p6 := frozen_heap hB3 (o := 6)
  have q6 := cell_heap hC3 (o := 6) rfl
  go_wp2_with fail
  refine bodyPost_ret (difRet (R := w.heap.size) rfl rfl (heap_store (heap_store (heap_store (heap_store (heap_store (heap_store (heap_store hB3 _) _) _) _) _) _) _)) rfl ⟨⟨_, rfl, by decide⟩, ?_⟩
  exact hk3.trans ((((((((Below.refl _ _).setCell (p := ⟨w.heap.size, 0, none⟩) (Nat.le_refl _) _).setCell (p := ⟨w.heap.size, 1, none⟩) (Nat.le_refl _) _).setCell (p := ⟨w.heap.size, 2, none⟩) (Nat.le_refl _) _).setCell (p := ⟨w.heap.size, 3, none⟩) (Nat.le_refl _) _).setCell (p := ⟨w.heap.size, 4, none⟩) (Nat.le_refl _) _).setCell (p := ⟨w.heap.size, 5, none⟩) (Nat.le_refl _) _).setCell (p := ⟨w.heap.size, 6, none⟩) (Nat.le_refl _) _)
set_option maxRecDepth 100000 in
set_option maxHeartbeats 4000000 in
theorem dif_bad (A : Option Addr) (c : Nat) (l : List Int) (w : World) (hl : Sl u8T w (low w.heap.size) A 9 l) (d : IfD) (hdd : readIf l = d) (ho : okIf d = false) :
    Calls Tryd.prog 80 #[.slice A 9 c, .int .i64 9, .func (.func 81) #[] #[], .func (.func 72) #[] #[]] w fun e w' => (∃ E : Int, e = .returned (.tuple #[.agg #[.int .u8 0, .int .u8 0, .int .u8 0, .int .u8 0, .int .u8 0, .int .u8 0, .int .u8 0], .int .i64 E]) ∧ E ≠ 0) ∧ Kept w w' := by
  have hd8 := hl.all8
  have hrd : ∀ w', Kept w w' → Calls Tryd.prog 81 #[.slice A 9 c] w' fun e w'' => e = .returned (.agg #[.int .u8 d.num, .int .u8 d.alt, .int .u8 d.eps, .int .u8 d.cls, .int .u8 d.sub, .int .u8 d.proto, .int .u8 d.text]) ∧ Kept w' w'' := fun w' hk => by
    have := rdIf_any A c l w' (hl.kept hk)
    rw [hdd] at this
    exact this
  have hdo : d.ok := by rw [← hdd]; exact readIf_ok hd8
  have hen := fun w' => encIf_bad d w' ho
  unfold IfD.cells at hen
  go_enter Tryd.func80, Tryd.ntmps80
  go_upto_region 4 with (fail)
  refine wp_at (fun W => W.heap[w.heap.size]? = some (.cells #[.int .u8 0, .int .u8 0, .int .u8 0, .int .u8 0, .int .u8 0, .int .u8 0, .int .u8 0] 53 (0, 0)) ∧ W.heap[w.heap.size + 1]? = some (.cells #[.int .u8 0, .int .u8 0, .int .u8 0, .int .u8 0, .int .u8 0, .int .u8 0, .int .u8 0] 53 (0, 0)) ∧ Kept w W) ⟨heap_past (heap_at _ rfl), heap_at _ (by simp), by go_grown⟩ (fun W hW => ?_)
  obtain ⟨hB, hC, hkW⟩ := hW
  have HB := hide hB
  have HC := hide hC
  clear hB hC
  go_upto_region 5 with (go_at_call 81; refine (hrd _ hkW).mono ?_; rintro e w1 ⟨rfl, hk1⟩)
  refine wp_at (fun V => V.heap[w1.heap.size]? = some (.cells #[.int .u8 d.num, .int .u8 d.alt, .int .u8 d.eps, .int .u8 d.cls, .int .u8 d.sub, .int .u8 d.proto, .int .u8 d.text] 53 (0, 0)) ∧ Kept w1 V) ⟨heap_at _ rfl, by go_grown⟩ (fun V hV => ?_)
  obtain ⟨hD, hkV⟩ := hV
  have hlD := heap_lt hD
  have HD := hide hD
  have d0 := cell_heap hD (o := 0) rfl
  have d1 := cell_heap hD (o := 1) rfl
  have d2 := cell_heap hD (o := 2) rfl
  have d3 := cell_heap hD (o := 3) rfl
  have d4 := cell_heap hD (o := 4) rfl
  have d5 := cell_heap hD (o := 5) rfl
  have d6 := cell_heap hD (o := 6) rfl
  have k2 : Kept w V := (hkW.trans' hk1).trans' hkV
  have hB := heap_kept (hk1.trans' hkV) HB.out
  have hC := heap_kept (hk1.trans' hkV) HC.out
  have HB2 := hide hB
  have HC2 := hide hC
  have HD2 := hide hD
  clear hB hC hD hrd
  go_upto_region 7 with (go_at_call 72; refine (hen _).mono ?_; rintro e w2 ⟨rfl, hk2⟩)
  refine wp_at (fun V => V.heap[w.heap.size]? = some (.cells #[.int .u8 0, .int .u8 0, .int .u8 0, .int .u8 0, .int .u8 0, .int .u8 0, .int .u8 0] 53 (0, 0)) ∧ V.heap[w.heap.size + 1]? = some (.cells #[.int .u8 0, .int .u8 0, .int .u8 0, .int .u8 0, .int .u8 0, .int .u8 0, .int .u8 0] 53 (0, 0)) ∧ Kept w V) ⟨heap_kept hk2 HB2.out, heap_kept hk2 HC2.out, k2.trans' hk2⟩ (fun V2 hV2 => ?_)
  obtain ⟨hB3, hC3, hk3⟩ := hV2
  have hlb := heap_lt hB3
  have hlc := heap_lt hC3
  have b0 := cell_heap hB3 (o := 0) rfl
  have p0 := frozen_heap hB3 (o := 0)
  have q0 := cell_heap hC3 (o := 0) rfl
  have b1 := cell_heap hB3 (o := 1) rfl
  have p1 := frozen_heap hB3 (o := 1)
  have q1 := cell_heap hC3 (o := 1) rfl
  have b2 := cell_heap hB3 (o := 2) rfl
  have p2 := frozen_heap hB3 (o := 2)
  have q2 := cell_heap hC3 (o := 2) rfl
  have b3 := cell_heap hB3 (o := 3) rfl
  have p3 := frozen_heap hB3 (o := 3)
  have q3 := cell_heap hC3 (o := 3) rfl
  have b4 := cell_heap hB3 (o := 4) rfl
  have p4 := frozen_heap hB3 (o := 4)
  have q4 := cell_heap hC3 (o := 4) rfl
  have b5 := cell_heap hB3 (o := 5) rfl
  have p5 := frozen_heap hB3 (o := 5)
  have q5 := cell_heap hC3 (o := 5) rfl
  have b6 := cell_heap hB3 (o := 6) rfl
  have p6 := frozen_heap hB3 (o := 6)
  have q6 := cell_heap hC3 (o := 6) rfl
  go_wp2_with fail
  refine bodyPost_ret (difRet (R := w.heap.size) rfl rfl (heap_store (heap_store (heap_store (heap_store (heap_store (heap_store (heap_store hB3 _) _) _) _) _) _) _)) rfl ⟨⟨_, rfl, by decide⟩, ?_⟩
  exact hk3.trans ((((((((Below.refl _ _).setCell (p := ⟨w.heap.size, 0, none⟩) (Nat.le_refl _) _).setCell (p := ⟨w.heap.size, 1, none⟩) (Nat.le_refl _) _).setCell (p := ⟨w.heap.size, 2, none⟩) (Nat.le_refl _) _).setCell (p := ⟨w.heap.size, 3, none⟩) (Nat.le_refl _) _).setCell (p := ⟨w.heap.size, 4, none⟩) (Nat.le_refl _) _).setCell (p := ⟨w.heap.size, 5, none⟩) (Nat.le_refl _) _).setCell (p := ⟨w.heap.size, 6, none⟩) (Nat.le_refl _) _)
set_option maxRecDepth 100000 in
set_option maxHeartbeats 4000000 in
theorem dif_other (A : Option Addr) (c : Nat) (l : List Int) (w : World) (hl : Sl u8T w (low w.heap.size) A 9 l) (d : IfD) (hdd : readIf l = d) (ho : okIf d = true) (hne : ¬ rawIf d = l) :
    Calls Tryd.prog 80 #[.slice A 9 c, .int .i64 9, .func (.func 81) #[] #[], .func (.func 72) #[] #[]] w fun e w' => (∃ E : Int, e = .returned (.tuple #[.agg #[.int .u8 0, .int .u8 0, .int .u8 0, .int .u8 0, .int .u8 0, .int .u8 0, .int .u8 0], .int .i64 E]) ∧ E ≠ 0) ∧ Kept w w' := by
  have hd8 := hl.all8
  have hrd : ∀ w', Kept w w' → Calls Tryd.prog 81 #[.slice A 9 c] w' fun e w'' => e = .returned (.agg #[.int .u8 d.num, .int .u8 d.alt, .int .u8 d.eps, .int .u8 d.cls, .int .u8 d.sub, .int .u8 d.proto, .int .u8 d.text]) ∧ Kept w' w'' := fun w' hk => by
    have := rdIf_any A c l w' (hl.kept hk)
    rw [hdd] at this
    exact this
  have hdo : d.ok := by rw [← hdd]; exact readIf_ok hd8
  have hen := fun w' => encIf_ok d w' hdo ho
  have heq : ∀ w' (A' : Option Addr) (cap : Nat), Kept w w' → Sl u8T w' (low w'.heap.size) A' 9 (rawIf d) → Calls Tryd.prog 42 #[.slice A' 9 cap, .slice A 9 c] w' fun e w'' => e = .returned (.bool false) ∧ Kept w' w'' := fun w' A' cap hk hs => by
    have := eqB_any A' A 9 cap 9 c (rawIf d) l w' (by decide) hs (hl.kept hk)
    rw [decide_eq_false hne] at this
    exact this
  unfold IfD.cells at hen
  have Heq := hide heq
  clear heq
  go_enter Tryd.func80, Tryd.ntmps80
  go_upto_region 4 with (fail)
  refine wp_at (fun W => W.heap[w.heap.size]? = some (.cells #[.int .u8 0, .int .u8 0, .int .u8 0, .int .u8 0, .int .u8 0, .int .u8 0, .int .u8 0] 53 (0, 0)) ∧ W.heap[w.heap.size + 1]? = some (.cells #[.int .u8 0, .int .u8 0, .int .u8 0, .int .u8 0, .int .u8 0, .int .u8 0, .int .u8 0] 53 (0, 0)) ∧ Kept w W) ⟨heap_past (heap_at _ rfl), heap_at _ (by simp), by go_grown⟩ (fun W hW => ?_)
  obtain ⟨hB, hC, hkW⟩ := hW
  have HB := hide hB
  have HC := hide hC
  clear hB hC
  go_upto_region 5 with (go_at_call 81; refine (hrd _ hkW).mono ?_; rintro e w1 ⟨rfl, hk1⟩)
  refine wp_at (fun V => V.heap[w1.heap.size]? = some (.cells #[.int .u8 d.num, .int .u8 d.alt, .int .u8 d.eps, .int .u8 d.cls, .int .u8 d.sub, .int .u8 d.proto, .int .u8 d.text] 53 (0, 0)) ∧ Kept w1 V) ⟨heap_at _ rfl, by go_grown⟩ (fun V hV => ?_)
  obtain ⟨hD, hkV⟩ := hV
  have hlD := heap_lt hD
  have HD := hide hD
  have d0 := cell_heap hD (o := 0) rfl
  have d1 := cell_heap hD (o := 1) rfl
  have d2 := cell_heap hD (o := 2) rfl
  have d3 := cell_heap hD (o := 3) rfl
  have d4 := cell_heap hD (o := 4) rfl
  have d5 := cell_heap hD (o := 5) rfl
  have d6 := cell_heap hD (o := 6) rfl
  have k2 : Kept w V := (hkW.trans' hk1).trans' hkV
  have hB := heap_kept (hk1.trans' hkV) HB.out
  have hC := heap_kept (hk1.trans' hkV) HC.out
  have HB2 := hide hB
  have HC2 := hide hC
  have HD2 := hide hD
  clear hB hC hD hrd
  go_upto_region 7 with (first
    | (go_at_call 72; refine (hen _).mono ?_; rintro e w2 ⟨A', cap, rfl, hs2', hk2⟩; have hs2 := hs2'.newlow)
    | (go_at_call 42; refine (Heq.out _ _ _ (k2.trans' hk2) hs2).mono ?_; rintro e w3 ⟨rfl, hk3⟩; have hk23 := hk2.trans' hk3))
  refine wp_at (fun V => V.heap[w.heap.size]? = some (.cells #[.int .u8 0, .int .u8 0, .int .u8 0, .int .u8 0, .int .u8 0, .int .u8 0, .int .u8 0] 53 (0, 0)) ∧ V.heap[w.heap.size + 1]? = some (.cells #[.int .u8 0, .int .u8 0, .int .u8 0, .int .u8 0, .int .u8 0, .int .u8 0, .int .u8 0] 53 (0, 0)) ∧ Kept w V) ⟨heap_kept hk23 HB2.out, heap_kept hk23 HC2.out, k2.trans' hk23⟩ (fun V2 hV2 => ?_)
  obtain ⟨hB3, hC3, hk4⟩ := hV2
  have hlb := heap_lt hB3
  have hlc := heap_lt hC3
  have b0 := cell_heap hB3 (o := 0) rfl
  have p0 := frozen_heap hB3 (o := 0)
  have q0 := cell_heap hC3 (o := 0) rfl
  have b1 := cell_heap hB3 (o := 1) rfl
  have p1 := frozen_heap hB3 (o := 1)
  have q1 := cell_heap hC3 (o := 1) rfl
  have b2 := cell_heap hB3 (o := 2) rfl
  have p2 := frozen_heap hB3 (o := 2)
  have q2 := cell_heap hC3 (o := 2) rfl
  have b3 := cell_heap hB3 (o := 3) rfl
  have p3 := frozen_heap hB3 (o := 3)
  have q3 := cell_heap hC3 (o := 3) rfl
  have b4 := cell_heap hB3 (o := 4) rfl
  have p4 := frozen_heap hB3 (o := 4)
  have q4 := cell_heap hC3 (o := 4) rfl
  have b5 := cell_heap hB3 (o := 5) rfl
  have p5 := frozen_heap hB3 (o := 5)
  have q5 := cell_heap hC3 (o := 5) rfl
  have b6 := cell_heap hB3 (o := 6) rfl
  have p6 := frozen_heap hB3 (o := 6)
  have q6 := cell_heap hC3 (o := 6) rfl
  go_wp2_with fail
  refine bodyPost_ret (difRet (R := w.heap.size) rfl rfl (heap_store (heap_store (heap_store (heap_store (heap_store (heap_store (heap_store hB3 _) _) _) _) _) _) _)) rfl ⟨⟨_, rfl, by decide⟩, ?_⟩
  exact hk4.trans ((((((((Below.refl _ _).setCell (p := ⟨w.heap.size, 0, none⟩) (Nat.le_refl _) _).setCell (p := ⟨w.heap.size, 1, none⟩) (Nat.le_refl _) _).setCell (p := ⟨w.heap.size, 2, none⟩) (Nat.le_refl _) _).setCell (p := ⟨w.heap.size, 3, none⟩) (Nat.le_refl _) _).setCell (p := ⟨w.heap.size, 4, none⟩) (Nat.le_refl _) _).setCell (p := ⟨w.heap.size, 5, none⟩) (Nat.le_refl _) _).setCell (p := ⟨w.heap.size, 6, none⟩) (Nat.le_refl _) _)
set_option maxRecDepth 100000 in
set_option maxHeartbeats 4000000 in
theorem dif_good (A : Option Addr) (c : Nat) (l : List Int) (w : World) (hl : Sl u8T w (low w.heap.size) A 9 l) (d : IfD) (hdd : readIf l = d) (ho : okIf d = true) (hne : rawIf d = l) :
    Calls Tryd.prog 80 #[.slice A 9 c, .int .i64 9, .func (.func 81) #[] #[], .func (.func 72) #[] #[]] w fun e w' => e = .returned (.tuple #[.agg #[.int .u8 d.num, .int .u8 d.alt, .int .u8 d.eps, .int .u8 d.cls, .int .u8 d.sub, .int .u8 d.proto, .int .u8 d.text], .int .i64 0]) ∧ Kept w w' := by
  have hd8 := hl.all8
  have hrd : ∀ w', Kept w w' → Calls Tryd.prog 81 #[.slice A 9 c] w' fun e w'' => e = .returned (.agg #[.int .u8 d.num, .int .u8 d.alt, .int .u8 d.eps, .int .u8 d.cls, .int .u8 d.sub, .int .u8 d.proto, .int .u8 d.text]) ∧ Kept w' w'' := fun w' hk => by
    have := rdIf_any A c l w' (hl.kept hk)
    rw [hdd] at this
    exact this
  have hdo : d.ok := by rw [← hdd]; exact readIf_ok hd8
  have hen := fun w' => encIf_ok d w' hdo ho
  have heq : ∀ w' (A' : Option Addr) (cap : Nat), Kept w w' → Sl u8T w' (low w'.heap.size) A' 9 (rawIf d) → Calls Tryd.prog 42 #[.slice A' 9 cap, .slice A 9 c] w' fun e w'' => e = .returned (.bool true) ∧ Kept w' w'' := fun w' A' cap hk hs => by
    have := eqB_any A' A 9 cap 9 c (rawIf d) l w' (by decide) hs (hl.kept hk)
    rw [decide_eq_true hne] at this
    exact this
  unfold IfD.cells at hen
  have Heq := hide heq
  clear heq
  go_enter Tryd.func80, Tryd.ntmps80
  go_upto_region 4 with (fail)
  refine wp_at (fun W => W.heap[w.heap.size]? = some (.cells #[.int .u8 0, .int .u8 0, .int .u8 0, .int .u8 0, .int .u8 0, .int .u8 0, .int .u8 0] 53 (0, 0)) ∧ W.heap[w.heap.size + 1]? = some (.cells #[.int .u8 0, .int .u8 0, .int .u8 0, .int .u8 0, .int .u8 0, .int .u8 0, .int .u8 0] 53 (0, 0)) ∧ Kept w W) ⟨heap_past (heap_at _ rfl), heap_at _ (by simp), by go_grown⟩ (fun W hW => ?_)
  obtain ⟨hB, hC, hkW⟩ := hW
  have HB := hide hB
  have HC := hide hC
  clear hB hC
  go_upto_region 5 with (go_at_call 81; refine (hrd _ hkW).mono ?_; rintro e w1 ⟨rfl, hk1⟩)
  refine wp_at (fun V => V.heap[w1.heap.size]? = some (.cells #[.int .u8 d.num, .int .u8 d.alt, .int .u8 d.eps, .int .u8 d.cls, .int .u8 d.sub, .int .u8 d.proto, .int .u8 d.text] 53 (0, 0)) ∧ Kept w1 V) ⟨heap_at _ rfl, by go_grown⟩ (fun V hV => ?_)
  obtain ⟨hD, hkV⟩ := hV
  have hlD := heap_lt hD
  have HD := hide hD
  have d0 := cell_heap hD (o := 0) rfl
  have d1 := cell_heap hD (o := 1) rfl
  have d2 := cell_heap hD (o := 2) rfl
  have d3 := cell_heap hD (o := 3) rfl
  have d4 := cell_heap hD (o := 4) rfl
  have d5 := cell_heap hD (o := 5) rfl
  have d6 := cell_heap hD (o := 6) rfl
  have k2 : Kept w V := (hkW.trans' hk1).trans' hkV
  have hB := heap_kept (hk1.trans' hkV) HB.out
  have hC := heap_kept (hk1.trans' hkV) HC.out
  have HB2 := hide hB
  have HC2 := hide hC
  have HD2 := hide hD
  clear hB hC hD hrd
  go_upto_region 8 with (first
    | (go_at_call 72; refine (hen _).mono ?_; rintro e w2 ⟨A', cap, rfl, hs2', hk2⟩; have hs2 := hs2'.newlow)
    | (go_at_call 42; refine (Heq.out _ _ _ (k2.trans' hk2) hs2).mono ?_; rintro e w3 ⟨rfl, hk3⟩; have hk23 := hk2.trans' hk3))
  refine wp_at (fun V => V.heap[w.heap.size]? = some (.cells #[.int .u8 0, .int .u8 0, .int .u8 0, .int .u8 0, .int .u8 0, .int .u8 0, .int .u8 0] 53 (0, 0)) ∧ V.heap[w1.heap.size]? = some (.cells #[.int .u8 d.num, .int .u8 d.alt, .int .u8 d.eps, .int .u8 d.cls, .int .u8 d.sub, .int .u8 d.proto, .int .u8 d.text] 53 (0, 0)) ∧ Kept w V) ⟨heap_kept hk23 HB2.out, heap_kept hk23 HD2.out, k2.trans' hk23⟩ (fun V2 hV2 => ?_)
  obtain ⟨hB3, hC3, hk4⟩ := hV2
  have hlb := heap_lt hB3
  have hlc := heap_lt hC3
  have b0 := cell_heap hB3 (o := 0) rfl
  have p0 := frozen_heap hB3 (o := 0)
  have q0 := cell_heap hC3 (o := 0) rfl
  have b1 := cell_heap hB3 (o := 1) rfl
  have p1 := frozen_heap hB3 (o := 1)
  have q1 := cell_heap hC3 (o := 1) rfl
  have b2 := cell_heap hB3 (o := 2) rfl
  have p2 := frozen_heap hB3 (o := 2)
  have q2 := cell_heap hC3 (o := 2) rfl
  have b3 := cell_heap hB3 (o := 3) rfl
  have p3 := frozen_heap hB3 (o := 3)
  have q3 := cell_heap hC3 (o := 3) rfl
  have b4 := cell_heap hB3 (o := 4) rfl
  have p4 := frozen_heap hB3 (o := 4)
  have q4 := cell_heap hC3 (o := 4) rfl
  have b5 := cell_heap hB3 (o := 5) rfl
  have p5 := frozen_heap hB3 (o := 5)
  have q5 := cell_heap hC3 (o := 5) rfl
  have b6 := cell_heap hB3 (o := 6) rfl
  have p6 := frozen_heap hB3 (o := 6)
  have q6 := cell_heap hC3 (o := 6) rfl
  go_wp2_with fail
  refine bodyPost_ret (difRet (R := w.heap.size) rfl rfl (heap_store (heap_store (heap_store (heap_store (heap_store (heap_store (heap_store hB3 _) _) _) _) _) _) _)) rfl ⟨rfl, ?_⟩
  exact hk4.trans ((((((((Below.refl _ _).setCell (p := ⟨w.heap.size, 0, none⟩) (Nat.le_refl _) _).setCell (p := ⟨w.heap.size, 1, none⟩) (Nat.le_refl _) _).setCell (p := ⟨w.heap.size, 2, none⟩) (Nat.le_refl _) _).setCell (p := ⟨w.heap.size, 3, none⟩) (Nat.le_refl _) _).setCell (p := ⟨w.heap.size, 4, none⟩) (Nat.le_refl _) _).setCell (p := ⟨w.heap.size, 5, none⟩) (Nat.le_refl _) _).setCell (p := ⟨w.heap.size, 6, none⟩) (Nat.le_refl _) _)
end Go.Proofs.YtjgncofhobhjdaaDoor
/- decode of the descriptor of an endpoint. Printed by gen_sh.py. -/
namespace Go.Proofs.YtjgncofhobhjdaaDoor
open Go.RowKit
attribute [local go_sem ↓] Go.wp_at_zero Go.wp_at_succ

theorem depRet {tm : Array Value} {w : World} {R : Nat} {a b c d e : Value} {E : Int} (h2 : tm[8]? = some (.pointer (some ⟨R, 0, none⟩))) (h3 : tm[9]? = some (.int .i64 E)) (h : w.heap[R]? = some (.cells #[a, b, c, d, e] 59 (0, 0))) : (results Tryd.f83 tm).run Tryd.prog w = .ok (.tuple #[.agg #[a, b, c, d, e], .int .i64 E]) w := by
  have c0 : w.cell? ⟨R, 0, none⟩ = some a := cell_heap h (o := 0) rfl
  have c1 : w.cell? ⟨R, 1, none⟩ = some b := cell_heap h (o := 1) rfl
  have c2 : w.cell? ⟨R, 2, none⟩ = some c := cell_heap h (o := 2) rfl
  have c3 : w.cell? ⟨R, 3, none⟩ = some d := cell_heap h (o := 3) rfl
  have c4 : w.cell? ⟨R, 4, none⟩ = some e := cell_heap h (o := 4) rfl
  simp [results, Tryd.results83, go_sem, Array.getD_eq_getD_getElem?, h2, h3, c0, c1, c2, c3, c4]
theorem decEp_no {b : List Int} (h : decEp b = none) (hl : b.length = 7) : okEp (readEp b) = false ∨ (okEp (readEp b) = true ∧ ¬ rawEp (readEp b) = b) := by
  unfold decEp at h
  cases ho : okEp (readEp b) with
  | false => exact .inl rfl
  | true =>
    refine .inr ⟨rfl, fun e => ?_⟩
    rw [if_pos ⟨hl, ho, e⟩] at h
    cases h
theorem decEp_yes {b : List Int} {d : EpD} (h : decEp b = some d) : b.length = 7 ∧ okEp d = true ∧ rawEp d = b ∧ readEp b = d := by
  unfold decEp at h
  by_cases hc : b.length = 7 ∧ okEp (readEp b) = true ∧ rawEp (readEp b) = b
  · rw [if_pos hc] at h
    injection h with h
    rw [h] at hc
    exact ⟨hc.1, hc.2.1, hc.2.2, h⟩
  · rw [if_neg hc] at h
    cases h
set_option maxRecDepth 100000 in
set_option maxHeartbeats 4000000 in
theorem dep_size (A : Option Addr) (n c : Nat) (l : List Int) (w : World) (hl : Sl u8T w (low w.heap.size) A n l) (hn : n ≠ 7) :
    Calls Tryd.prog 83 #[.slice A n c, .int .i64 7, .func (.func 84) #[] #[], .func (.func 75) #[] #[]] w fun e w' => (∃ E : Int, e = .returned (.tuple #[.agg #[.int .u8 0, .bool false, .int .u8 0, .int .u16 0, .int .u8 0], .int .i64 E]) ∧ E ≠ 0) ∧ Kept w w' := by
  have hne : ((n : Int) != 7) = true := by simp; omega
  have hne2 : decide ((n : Int) = 7) = false := decide_eq_false (by omega)
  go_enter Tryd.func83, Tryd.ntmps83
  go_upto_region 3 with (fail)
  have k2 : True := trivial
  refine wp_at (fun V => V.heap[w.heap.size]? = some (.cells #[.int .u8 0, .bool false, .int .u8 0, .int .u16 0, .int .u8 0] 59 (0, 0)) ∧ V.heap[w.heap.size + 1]? = some (.cells #[.int .u8 0, .bool false, .int .u8 0, .int .u16 0, .int .u8 0] 59 (0, 0)) ∧ Kept w V) ⟨heap_past (heap_at _ rfl), heap_at _ (by simp), by go_grown⟩ (fun V2 hV2 => ?_)
  obtain ⟨hB3, hC3, hk3⟩ := hV2
  have hlb := heap_lt hB3
  have hlc := heap_lt hC3
  have b0 := cell_heap hB3 (o := 0) rfl
  have p0 := frozen_heap hB3 (o := 0)
  have q0 := cell_heap hC3 (o := 0) rfl
  have b1 := cell_heap hB3 (o := 1) rfl
  have p1 := frozen_heap hB3 (o := 1)
  have q1 := cell_heap hC3 (o := 1) rfl
  have b2 := cell_heap hB3 (o := 2) rfl
  have p2 := frozen_heap hB3 (o := 2)
  have q2 := cell_heap hC3 (o := 2) rfl
  have b3 := cell_heap hB3 (o := 3) rfl
  have p3 := frozen_heap hB3 (o := 3)
  have q3 := cell_heap hC3 (o := 3) rfl
  have b4 := cell_heap hB3 (o := 4) rfl
  have p4 := frozen_heap hB3 (o := 4)
  have q4 := cell_heap hC3 (o := 4) rfl
  go_wp2_with fail
  refine bodyPost_ret (depRet (R := w.heap.size) rfl rfl (heap_store (heap_store (heap_store (heap_store (heap_store hB3 _) _) _) _) _)) rfl ⟨⟨_, rfl, by decide⟩, ?_⟩
  exact hk3.trans ((((((Below.refl _ _).setCell (p := ⟨w.heap.size, 0, none⟩) (Nat.le_refl _) _).setCell (p := ⟨w.heap.size, 1, none⟩) (Nat.le_refl _) _).setCell (p := ⟨w.heap.size, 2, none⟩) (Nat.le_refl _) _).setCell (p := ⟨w.heap.size, 3, none⟩) (Nat.le_refl _) _).setCell (p := ⟨w.heap.size, 4, none⟩) (Nat.le_refl _) _)
set_option maxRecDepth 100000 in
set_option maxHeartbeats 4000000 in
theorem dep_bad (A : Option Addr) (c : Nat) (l : List Int) (w : World) (hl : Sl u8T w (low w.heap.size) A 7 l) (d : EpD) (hdd : readEp l = d) (ho : okEp d = false) :
    Calls Tryd.prog 83 #[.slice A 7 c, .int .i64 7, .func (.func 84) #[] #[], .func (.func 75) #[] #[]] w fun e w' => (∃ E : Int, e = .returned (.tuple #[.agg #[.int .u8 0, .bool false, .int .u8 0, .int .u16 0, .int .u8 0], .int .i64 E]) ∧ E ≠ 0) ∧ Kept w w' := by
  have hd8 := hl.all8
  have hrd : ∀ w', Kept w w' → Calls Tryd.prog 84 #[.slice A 7 c] w' fun e w'' => e = .returned (.agg #[.int .u8 d.num, .bool d.inn, .int .u8 d.kind, .int .u16 d.max, .int .u8 d.ivl]) ∧ Kept w' w'' := fun w' hk => by
    have := rdEp_any A c l w' (hl.kept hk)
    rw [hdd] at this
    exact this
  have hdo : d.ok := by rw [← hdd]; exact readEp_ok hd8
  have hen := fun w' => encEp_bad d w' hdo ho
  unfold EpD.cells at hen
  go_enter Tryd.func83, Tryd.ntmps83
  go_upto_region 4 with (fail)
  refine wp_at (fun W => W.heap[w.heap.size]? = some (.cells #[.int .u8 0, .bool false, .int .u8 0, .int .u16 0, .int .u8 0] 59 (0, 0)) ∧ W.heap[w.heap.size + 1]? = some (.cells #[.int .u8 0, .bool false, .int .u8 0, .int .u16 0, .int .u8 0] 59 (0, 0)) ∧ Kept w W) ⟨heap_past (heap_at _ rfl), heap_at _ (by simp), by go_grown⟩ (fun W hW => ?_)
  obtain ⟨hB, hC, hkW⟩ := hW
  have HB := hide hB
  have HC := hide hC
  clear hB hC
  go_upto_region 5 with (go_at_call 84; refine (hrd _ hkW).mono ?_; rintro e w1 ⟨rfl, hk1⟩)
  refine wp_at (fun V => V.heap[w1.heap.size]? = some (.cells #[.int .u8 d.num, .bool d.inn, .int .u8 d.kind, .int .u16 d.max, .int .u8 d.ivl] 59 (0, 0)) ∧ Kept w1 V) ⟨heap_at _ rfl, by go_grown⟩ (fun V hV => ?_)
  obtain ⟨hD, hkV⟩ := hV
  have hlD := heap_lt hD
  have HD := hide hD
  have d0 := cell_heap hD (o := 0) rfl
  have d1 := cell_heap hD (o := 1) rfl
  have d2 := cell_heap hD (o := 2) rfl
  have d3 := cell_heap hD (o := 3) rfl
  have d4 := cell_heap hD (o := 4) rfl
  have k2 : Kept w V := (hkW.trans' hk1).trans' hkV
  have hB := heap_kept (hk1.trans' hkV) HB.out
  have hC := heap_kept (hk1.trans' hkV) HC.out
  have HB2 := hide hB
  have HC2 := hide hC
  have HD2 := hide hD
  clear hB hC hD hrd
  go_upto_region 7 with (go_at_call 75; refine (hen _).mono ?_; rintro e w2 ⟨rfl, hk2⟩)
  refine wp_at (fun V => V.heap[w.heap.size]? = some (.cells #[.int .u8 0, .bool false, .int .u8 0, .int .u16 0, .int .u8 0] 59 (0, 0)) ∧ V.heap[w.heap.size + 1]? = some (.cells #[.int .u8 0, .bool false, .int .u8 0, .int .u16 0, .int .u8 0] 59 (0, 0)) ∧ Kept w V) ⟨heap_kept hk2 HB2.out, heap_kept hk2 HC2.out, k2.trans' hk2⟩ (fun V2 hV2 => ?_)
  obtain ⟨hB3, hC3, hk3⟩ := hV2
  have hlb := heap_lt hB3
  have hlc := heap_lt hC3
  have b0 := cell_heap hB3 (o := 0) rfl
  have p0 := frozen_heap hB3 (o := 0)
  have q0 := cell_heap hC3 (o := 0) rfl
  have b1 := cell_heap hB3 (o := 1) rfl
  have p1 := frozen_heap hB3 (o := 1)
  have q1 := cell_heap hC3 (o := 1) rfl
  have b2 := cell_heap hB3 (o := 2) rfl
  have p2 := frozen_heap hB3 (o := 2)
  have q2 := cell_heap hC3 (o := 2) rfl
  have b3 := cell_heap hB3 (o := 3) rfl
  have p3 := frozen_heap hB3 (o := 3)
  have q3 := cell_heap hC3 (o := 3) rfl
  have b4 := cell_heap hB3 (o := 4) rfl
  have p4 := frozen_heap hB3 (o := 4)
  have q4 := cell_heap hC3 (o := 4) rfl
  go_wp2_with fail
  refine bodyPost_ret (depRet (R := w.heap.size) rfl rfl (heap_store (heap_store (heap_store (heap_store (heap_store hB3 _) _) _) _) _)) rfl ⟨⟨_, rfl, by decide⟩, ?_⟩
  exact hk3.trans ((((((Below.refl _ _).setCell (p := ⟨w.heap.size, 0, none⟩) (Nat.le_refl _) _).setCell (p := ⟨w.heap.size, 1, none⟩) (Nat.le_refl _) _).setCell (p := ⟨w.heap.size, 2, none⟩) (Nat.le_refl _) _).setCell (p := ⟨w.heap.size, 3, none⟩) (Nat.le_refl _) _).setCell (p := ⟨w.heap.size, 4, none⟩) (Nat.le_refl _) _)
set_option maxRecDepth 100000 in
set_option maxHeartbeats 4000000 in
theorem dep_other (A : Option Addr) (c : Nat) (l : List Int) (w : World) (hl : Sl u8T w (low w.heap.size) A 7 l) (d : EpD) (hdd : readEp l = d) (ho : okEp d = true) (hne : ¬ rawEp d = l) :
    Calls Tryd.prog 83 #[.slice A 7 c, .int .i64 7, .func (.func 84) #[] #[], .func (.func 75) #[] #[]] w fun e w' => (∃ E : Int, e = .returned (.tuple #[.agg #[.int .u8 0, .bool false, .int .u8 0, .int .u16 0, .int .u8 0], .int .i64 E]) ∧ E ≠ 0) ∧ Kept w w' := by
  have hd8 := hl.all8
  have hrd : ∀ w', Kept w w' → Calls Tryd.prog 84 #[.slice A 7 c] w' fun e w'' => e = .returned (.agg #[.int .u8 d.num, .bool d.inn, .int .u8 d.kind, .int .u16 d.max, .int .u8 d.ivl]) ∧ Kept w' w'' := fun w' hk => by
    have := rdEp_any A c l w' (hl.kept hk)
    rw [hdd] at this
    exact this
  have hdo : d.ok := by rw [← hdd]; exact readEp_ok hd8
  have hen := fun w' => encEp_ok d w' hdo ho
  have heq : ∀ w' (A' : Option Addr) (cap : Nat), Kept w w' → Sl u8T w' (low w'.heap.size) A' 7 (rawEp d) → Calls Tryd.prog 42 #[.slice A' 7 cap, .slice A 7 c] w' fun e w'' => e = .returned (.bool false) ∧ Kept w' w'' := fun w' A' cap hk hs => by
    have := eqB_any A' A 7 cap 7 c (rawEp d) l w' (by decide) hs (hl.kept hk)
    rw [decide_eq_false hne] at this
    exact this
  unfold EpD.cells at hen
  have Heq := hide heq
  clear heq
  go_enter Tryd.func83, Tryd.ntmps83
  go_upto_region 4 with (fail)
  refine wp_at (fun W => W.heap[w.heap.size]? = some (.cells #[.int .u8 0, .bool false, .int .u8 0, .int .u16 0, .int .u8 0] 59 (0, 0)) ∧ W.heap[w.heap.size + 1]? = some (.cells #[.int .u8 0, .bool false, .int .u8 0, .int .u16 0, .int .u8 0] 59 (0, 0)) ∧ Kept w W) ⟨heap_past (heap_at _ rfl), heap_at _ (by simp), by go_grown⟩ (fun W hW => ?_)
  obtain ⟨hB, hC, hkW⟩ := hW
  have HB := hide hB
  have HC := hide hC
  clear hB hC
  go_upto_region 5 with (go_at_call 84; refine (hrd _ hkW).mono ?_; rintro e w1 ⟨rfl, hk1⟩)
  refine wp_at (fun V => V.heap[w1.heap.size]? = some (.cells #[.int .u8 d.num, .bool d.inn, .int .u8 d.kind, .int .u16 d.max, .int .u8 d.ivl] 59 (0, 0)) ∧ Kept w1 V) ⟨heap_at _ rfl, by go_grown⟩ (fun V hV => ?_)
  obtain ⟨hD, hkV⟩ := hV
  have hlD := heap_lt hD
  have HD := hide hD
  have d0 := cell_heap hD (o := 0) rfl
  have d1 := cell_heap hD (o := 1) rfl
  have d2 := cell_heap hD (o := 2) rfl
  have d3 := cell_heap hD (o := 3) rfl
  have d4 := cell_heap hD (o := 4) rfl
  have k2 : Kept w V := (hkW.trans' hk1).trans' hkV
  have hB := heap_kept (hk1.trans' hkV) HB.out
  have hC := heap_kept (hk1.trans' hkV) HC.out
  have HB2 := hide hB
  have HC2 := hide hC
  have HD2 := hide hD
  clear hB hC hD hrd
  go_upto_region 7 with (first
    | (go_at_call 75; refine (hen _).mono ?_; rintro e w2 ⟨A', cap, rfl, hs2', hk2⟩; have hs2 := hs2'.newlow)
    | (go_at_call 42; refine (Heq.out _ _ _ (k2.trans' hk2) hs2).mono ?_; rintro e w3 ⟨rfl, hk3⟩; have hk23 := hk2.trans' hk3))
  refine wp_at (fun V => V.heap[w.heap.size]? = some (.cells #[.int .u8 0, .bool false, .int .u8 0, .int .u16 0, .int .u8 0] 59 (0, 0)) ∧ V.heap[w.heap.size + 1]? = some (.cells #[.int .u8 0, .bool false, .int .u8 0, .int .u16 0, .int .u8 0] 59 (0, 0)) ∧ Kept w V) ⟨heap_kept hk23 HB2.out, heap_kept hk23 HC2.out, k2.trans' hk23⟩ (fun V2 hV2 => ?_)
  obtain ⟨hB3, hC3, hk4⟩ := hV2
  have hlb := heap_lt hB3
  have hlc := heap_lt hC3
  have b0 := cell_heap hB3 (o := 0) rfl
  have p0 := frozen_heap hB3 (o := 0)
  have q0 := cell_heap hC3 (o := 0) rfl
  have b1 := cell_heap hB3 (o := 1) rfl
  have p1 := frozen_heap hB3 (o := 1)
  have q1 := cell_heap hC3 (o := 1) rfl
  have b2 := cell_heap hB3 (o := 2) rfl
  have p2 := frozen_heap hB3 (o := 2)
  have q2 := cell_heap hC3 (o := 2) rfl
  have b3 := cell_heap hB3 (o := 3) rfl
  have p3 := frozen_heap hB3 (o := 3)
  have q3 := cell_heap hC3 (o := 3) rfl
  have b4 := cell_heap hB3 (o := 4) rfl
  have p4 := frozen_heap hB3 (o := 4)
  have q4 := cell_heap hC3 (o := 4) rfl
  go_wp2_with fail
  refine bodyPost_ret (depRet (R := w.heap.size) rfl rfl (heap_store (heap_store (heap_store (heap_store (heap_store hB3 _) _) _) _) _)) rfl ⟨⟨_, rfl, by decide⟩, ?_⟩
  exact hk4.trans ((((((Below.refl _ _).setCell (p := ⟨w.heap.size, 0, none⟩) (Nat.le_refl _) _).setCell (p := ⟨w.heap.size, 1, none⟩) (Nat.le_refl _) _).setCell (p := ⟨w.heap.size, 2, none⟩) (Nat.le_refl _) _).setCell (p := ⟨w.heap.size, 3, none⟩) (Nat.le_refl _) _).setCell (p := ⟨w.heap.size, 4, none⟩) (Nat.le_refl _) _)
set_option maxRecDepth 100000 in
set_option maxHeartbeats 4000000 in
theorem dep_good (A : Option Addr) (c : Nat) (l : List Int) (w : World) (hl : Sl u8T w (low w.heap.size) A 7 l) (d : EpD) (hdd : readEp l = d) (ho : okEp d = true) (hne : rawEp d = l) :
    Calls Tryd.prog 83 #[.slice A 7 c, .int .i64 7, .func (.func 84) #[] #[], .func (.func 75) #[] #[]] w fun e w' => e = .returned (.tuple #[.agg #[.int .u8 d.num, .bool d.inn, .int .u8 d.kind, .int .u16 d.max, .int .u8 d.ivl], .int .i64 0]) ∧ Kept w w' := by
  have hd8 := hl.all8
  have hrd : ∀ w', Kept w w' → Calls Tryd.prog 84 #[.slice A 7 c] w' fun e w'' => e = .returned (.agg #[.int .u8 d.num, .bool d.inn, .int .u8 d.kind, .int .u16 d.max, .int .u8 d.ivl]) ∧ Kept w' w'' := fun w' hk => by
    have := rdEp_any A c l w' (hl.kept hk)
    rw [hdd] at this
    exact this
  have hdo : d.ok := by rw [← hdd]; exact readEp_ok hd8
  have hen := fun w' => encEp_ok d w' hdo ho
  have heq : ∀ w' (A' : Option Addr) (cap : Nat), Kept w w' → Sl u8T w' (low w'.heap.size) A' 7 (rawEp d) → Calls Tryd.prog 42 #[.slice A' 7 cap, .slice A 7 c] w' fun e w'' => e = .returned (.bool true) ∧ Kept w' w'' := fun w' A' cap hk hs => by
    have := eqB_any A' A 7 cap 7 c (rawEp d) l w' (by decide) hs (hl.kept hk)
    rw [decide_eq_true hne] at this
    exact this
  unfold EpD.cells at hen
  have Heq := hide heq
  clear heq
  go_enter Tryd.func83, Tryd.ntmps83
  go_upto_region 4 with (fail)
  refine wp_at (fun W => W.heap[w.heap.size]? = some (.cells #[.int .u8 0, .bool false, .int .u8 0, .int .u16 0, .int .u8 0] 59 (0, 0)) ∧ W.heap[w.heap.size + 1]? = some (.cells #[.int .u8 0, .bool false, .int .u8 0, .int .u16 0, .int .u8 0] 59 (0, 0)) ∧ Kept w W) ⟨heap_past (heap_at _ rfl), heap_at _ (by simp), by go_grown⟩ (fun W hW => ?_)
  obtain ⟨hB, hC, hkW⟩ := hW
  have HB := hide hB
  have HC := hide hC
  clear hB hC
  go_upto_region 5 with (go_at_call 84; refine (hrd _ hkW).mono ?_; rintro e w1 ⟨rfl, hk1⟩)
  refine wp_at (fun V => V.heap[w1.heap.size]? = some (.cells #[.int .u8 d.num, .bool d.inn, .int .u8 d.kind, .int .u16 d.max, .int .u8 d.ivl] 59 (0, 0)) ∧ Kept w1 V) ⟨heap_at _ rfl, by go_grown⟩ (fun V hV => ?_)
  obtain ⟨hD, hkV⟩ := hV
  have hlD := heap_lt hD
  have HD := hide hD
  have d0 := cell_heap hD (o := 0) rfl
  have d1 := cell_heap hD (o := 1) rfl
  have d2 := cell_heap hD (o := 2) rfl
  have d3 := cell_heap hD (o := 3) rfl
  have d4 := cell_heap hD (o := 4) rfl
  have k2 : Kept w V := (hkW.trans' hk1).trans' hkV
  have hB := heap_kept (hk1.trans' hkV) HB.out
  have hC := heap_kept (hk1.trans' hkV) HC.out
  have HB2 := hide hB
  have HC2 := hide hC
  have HD2 := hide hD
  clear hB hC hD hrd
  go_upto_region 8 with (first
    | (go_at_call 75; refine (hen _).mono ?_; rintro e w2 ⟨A', cap, rfl, hs2', hk2⟩; have hs2 := hs2'.newlow)
    | (go_at_call 42; refine (Heq.out _ _ _ (k2.trans' hk2) hs2).mono ?_; rintro e w3 ⟨rfl, hk3⟩; have hk23 := hk2.trans' hk3))
  refine wp_at (fun V => V.heap[w.heap.size]? = some (.cells #[.int .u8 0, .bool false, .int .u8 0, .int .u16 0, .int .u8 0] 59 (0, 0)) ∧ V.heap[w1.heap.size]? = some (.cells #[.int .u8 d.num, .bool d.inn, .int .u8 d.kind, .int .u16 d.max, .int .u8 d.ivl] 59 (0, 0)) ∧ Kept w V) ⟨heap_kept hk23 HB2.out, heap_kept hk23 HD2.out, k2.trans' hk23⟩ (fun V2 hV2 => ?_)
  obtain ⟨hB3, hC3, hk4⟩ := hV2
  have hlb := heap_lt hB3
  have hlc := heap_lt hC3
  have b0 := cell_heap hB3 (o := 0) rfl
  have p0 := frozen_heap hB3 (o := 0)
  have q0 := cell_heap hC3 (o := 0) rfl
  have b1 := cell_heap hB3 (o := 1) rfl
  have p1 := frozen_heap hB3 (o := 1)
  have q1 := cell_heap hC3 (o := 1) rfl
  have b2 := cell_heap hB3 (o := 2) rfl
  have p2 := frozen_heap hB3 (o := 2)
  have q2 := cell_heap hC3 (o := 2) rfl
  have b3 := cell_heap hB3 (o := 3) rfl
  have p3 := frozen_heap hB3 (o := 3)
  have q3 := cell_heap hC3 (o := 3) rfl
  have b4 := cell_heap hB3 (o := 4) rfl
  have p4 := frozen_heap hB3 (o := 4)
  have q4 := cell_heap hC3 (o := 4) rfl
  go_wp2_with fail
  refine bodyPost_ret (depRet (R := w.heap.size) rfl rfl (heap_store (heap_store (heap_store (heap_store (heap_store hB3 _) _) _) _) _)) rfl ⟨rfl, ?_⟩
  exact hk4.trans ((((((Below.refl _ _).setCell (p := ⟨w.heap.size, 0, none⟩) (Nat.le_refl _) _).setCell (p := ⟨w.heap.size, 1, none⟩) (Nat.le_refl _) _).setCell (p := ⟨w.heap.size, 2, none⟩) (Nat.le_refl _) _).setCell (p := ⟨w.heap.size, 3, none⟩) (Nat.le_refl _) _).setCell (p := ⟨w.heap.size, 4, none⟩) (Nat.le_refl _) _)
end Go.Proofs.YtjgncofhobhjdaaDoor
/- DecodeConfiguration, DecodeInterface, DecodeEndpoint. Printed by gen_sk.py. -/
namespace Go.Proofs.YtjgncofhobhjdaaDoor
open Go.RowKit
attribute [local go_sem ↓] Go.wp_at_zero Go.wp_at_succ

theorem dcfg_none (A : Option Addr) (n c : Nat) (l : List Int) (w : World) (hl : Sl u8T w (low w.heap.size) A n l) (h : decCfg l = none) :
    Calls Tryd.prog 77 #[.slice A n c, .int .i64 9, .func (.func 78) #[] #[], .func (.func 71) #[] #[]] w fun e w' => (∃ E : Int, e = .returned (.tuple #[.agg #[.int .u16 0, .int .u8 0, .int .u8 0, .int .u8 0, .bool false, .bool false, .int .u8 0], .int .i64 E]) ∧ E ≠ 0) ∧ Kept w w' := by
  by_cases hn : n = 9
  · subst hn
    rcases decCfg_no h hl.1 with h1 | ⟨h1, h2⟩
    · exact dcfg_bad A c l w hl _ rfl h1
    · exact dcfg_other A c l w hl _ rfl h1 h2
  · exact dcfg_size A n c l w hl hn
theorem dcfg_some (A : Option Addr) (n c : Nat) (l : List Int) (w : World) (hl : Sl u8T w (low w.heap.size) A n l) (d : CfgD) (h : decCfg l = some d) :
    Calls Tryd.prog 77 #[.slice A n c, .int .i64 9, .func (.func 78) #[] #[], .func (.func 71) #[] #[]] w fun e w' => e = .returned (.tuple #[.agg #[.int .u16 d.total, .int .u8 d.ifs, .int .u8 d.number, .int .u8 d.text, .bool d.self, .bool d.wake, .int .u8 d.power], .int .i64 0]) ∧ Kept w w' := by
  obtain ⟨h1, h2, h3, h4⟩ := decCfg_yes h
  have hn : n = 9 := hl.1.symm.trans h1
  subst hn
  exact dcfg_good A c l w hl d h4 h2 h3
theorem decCfgRet2 {tm : Array Value} {w : World} {R : Nat} {a b c d e f g : Value} {E : Int} (h2 : tm[2]? = some (.pointer (some ⟨R, 0, none⟩))) (h3 : tm[3]? = some (.int .i64 E)) (h : w.heap[R]? = some (.cells #[a, b, c, d, e, f, g] 29 (0, 0))) : (results Tryd.f33 tm).run Tryd.prog w = .ok (.tuple #[.agg #[a, b, c, d, e, f, g], .int .i64 E]) w := by
  have c0 : w.cell? ⟨R, 0, none⟩ = some a := cell_heap h (o := 0) rfl
  have c1 : w.cell? ⟨R, 1, none⟩ = some b := cell_heap h (o := 1) rfl
  have c2 : w.cell? ⟨R, 2, none⟩ = some c := cell_heap h (o := 2) rfl
  have c3 : w.cell? ⟨R, 3, none⟩ = some d := cell_heap h (o := 3) rfl
  have c4 : w.cell? ⟨R, 4, none⟩ = some e := cell_heap h (o := 4) rfl
  have c5 : w.cell? ⟨R, 5, none⟩ = some f := cell_heap h (o := 5) rfl
  have c6 : w.cell? ⟨R, 6, none⟩ = some g := cell_heap h (o := 6) rfl
  simp [results, Tryd.results33, go_sem, Array.getD_eq_getD_getElem?, h2, h3, c0, c1, c2, c3, c4, c5, c6]
set_option maxRecDepth 100000 in
theorem decCfg_none_any (A : Option Addr) (n c : Nat) (l : List Int) (w : World) (hl : Sl u8T w (low w.heap.size) A n l) (h : decCfg l = none) :
    Calls Tryd.prog 33 #[.slice A n c] w fun e w' => (∃ E : Int, e = .returned (.tuple #[.agg #[.int .u16 0, .int .u8 0, .int .u8 0, .int .u8 0, .bool false, .bool false, .int .u8 0], .int .i64 E]) ∧ E ≠ 0) ∧ Kept w w' := by
  have hc := fun w' h1 => dcfg_none A n c l w' h1 h
  go_enter Tryd.func33, Tryd.ntmps33
  go_upto_region 1 with (fail)
  refine wp_at (fun V => V.heap[w.heap.size]? = some (.cells #[.int .u16 0, .int .u8 0, .int .u8 0, .int .u8 0, .bool false, .bool false, .int .u8 0] 29 (0, 0)) ∧ Kept w V) ⟨heap_at _ rfl, by go_grown⟩ (fun V hV => ?_)
  obtain ⟨hB, hkV⟩ := hV
  have HB := hide hB
  clear hB
  go_wp2_with (go_at_call 77; refine (hc _ (hl.kept hkV)).mono ?_; rintro e w1 ⟨⟨E, rfl, hE⟩, hk1⟩; have hB1 := heap_kept hk1 HB.out; have hl1 := heap_lt hB1; have b0 := cell_heap hB1 (o := 0) rfl; have p0 := frozen_heap hB1 (o := 0); have b1 := cell_heap hB1 (o := 1) rfl; have p1 := frozen_heap hB1 (o := 1); have b2 := cell_heap hB1 (o := 2) rfl; have p2 := frozen_heap hB1 (o := 2); have b3 := cell_heap hB1 (o := 3) rfl; have p3 := frozen_heap hB1 (o := 3); have b4 := cell_heap hB1 (o := 4) rfl; have p4 := frozen_heap hB1 (o := 4); have b5 := cell_heap hB1 (o := 5) rfl; have p5 := frozen_heap hB1 (o := 5); have b6 := cell_heap hB1 (o := 6) rfl; have p6 := frozen_heap hB1 (o := 6))
  refine bodyPost_ret (decCfgRet2 (R := w.heap.size) rfl rfl (heap_store (heap_store (heap_store (heap_store (heap_store (heap_store (heap_store hB1 _) _) _) _) _) _) _)) rfl ⟨⟨E, rfl, hE⟩, ?_⟩
  exact (hkV.trans' hk1).trans ((((((((Below.refl _ _).setCell (p := ⟨w.heap.size, 0, none⟩) (Nat.le_refl _) _).setCell (p := ⟨w.heap.size, 1, none⟩) (Nat.le_refl _) _).setCell (p := ⟨w.heap.size, 2, none⟩) (Nat.le_refl _) _).setCell (p := ⟨w.heap.size, 3, none⟩) (Nat.le_refl _) _).setCell (p := ⟨w.heap.size, 4, none⟩) (Nat.le_refl _) _).setCell (p := ⟨w.heap.size, 5, none⟩) (Nat.le_refl _) _).setCell (p := ⟨w.heap.size, 6, none⟩) (Nat.le_refl _) _)
set_option maxRecDepth 100000 in
theorem decCfg_some_any (A : Option Addr) (n c : Nat) (l : List Int) (w : World) (hl : Sl u8T w (low w.heap.size) A n l) (d : CfgD) (h : decCfg l = some d) :
    Calls Tryd.prog 33 #[.slice A n c] w fun e w' => e = .returned (.tuple #[.agg #[.int .u16 d.total, .int .u8 d.ifs, .int .u8 d.number, .int .u8 d.text, .bool d.self, .bool d.wake, .int .u8 d.power], .int .i64 0]) ∧ Kept w w' := by
  have hc := fun w' h1 => dcfg_some A n c l w' h1 d h
  go_enter Tryd.func33, Tryd.ntmps33
  go_upto_region 1 with (fail)
  refine wp_at (fun V => V.heap[w.heap.size]? = some (.cells #[.int .u16 0, .int .u8 0, .int .u8 0, .int .u8 0, .bool false, .bool false, .int .u8 0] 29 (0, 0)) ∧ Kept w V) ⟨heap_at _ rfl, by go_grown⟩ (fun V hV => ?_)
  obtain ⟨hB, hkV⟩ := hV
  have HB := hide hB
  clear hB
  go_wp2_with (go_at_call 77; refine (hc _ (hl.kept hkV)).mono ?_; rintro e w1 ⟨rfl, hk1⟩; have hB1 := heap_kept hk1 HB.out; have hl1 := heap_lt hB1; have b0 := cell_heap hB1 (o := 0) rfl; have p0 := frozen_heap hB1 (o := 0); have b1 := cell_heap hB1 (o := 1) rfl; have p1 := frozen_heap hB1 (o := 1); have b2 := cell_heap hB1 (o := 2) rfl; have p2 := frozen_heap hB1 (o := 2); have b3 := cell_heap hB1 (o := 3) rfl; have p3 := frozen_heap hB1 (o := 3); have b4 := cell_heap hB1 (o := 4) rfl; have p4 := frozen_heap hB1 (o := 4); have b5 := cell_heap hB1 (o := 5) rfl; have p5 := frozen_heap hB1 (o := 5); have b6 := cell_heap hB1 (o := 6) rfl; have p6 := frozen_heap hB1 (o := 6))
  refine bodyPost_ret (decCfgRet2 (R := w.heap.size) rfl rfl (heap_store (heap_store (heap_store (heap_store (heap_store (heap_store (heap_store hB1 _) _) _) _) _) _) _)) rfl ⟨rfl, ?_⟩
  exact (hkV.trans' hk1).trans ((((((((Below.refl _ _).setCell (p := ⟨w.heap.size, 0, none⟩) (Nat.le_refl _) _).setCell (p := ⟨w.heap.size, 1, none⟩) (Nat.le_refl _) _).setCell (p := ⟨w.heap.size, 2, none⟩) (Nat.le_refl _) _).setCell (p := ⟨w.heap.size, 3, none⟩) (Nat.le_refl _) _).setCell (p := ⟨w.heap.size, 4, none⟩) (Nat.le_refl _) _).setCell (p := ⟨w.heap.size, 5, none⟩) (Nat.le_refl _) _).setCell (p := ⟨w.heap.size, 6, none⟩) (Nat.le_refl _) _)
theorem dif_none (A : Option Addr) (n c : Nat) (l : List Int) (w : World) (hl : Sl u8T w (low w.heap.size) A n l) (h : decIf l = none) :
    Calls Tryd.prog 80 #[.slice A n c, .int .i64 9, .func (.func 81) #[] #[], .func (.func 72) #[] #[]] w fun e w' => (∃ E : Int, e = .returned (.tuple #[.agg #[.int .u8 0, .int .u8 0, .int .u8 0, .int .u8 0, .int .u8 0, .int .u8 0, .int .u8 0], .int .i64 E]) ∧ E ≠ 0) ∧ Kept w w' := by
  by_cases hn : n = 9
  · subst hn
    rcases decIf_no h hl.1 with h1 | ⟨h1, h2⟩
    · exact dif_bad A c l w hl _ rfl h1
    · exact dif_other A c l w hl _ rfl h1 h2
  · exact dif_size A n c l w hl hn
theorem dif_some (A : Option Addr) (n c : Nat) (l : List Int) (w : World) (hl : Sl u8T w (low w.heap.size) A n l) (d : IfD) (h : decIf l = some d) :
    Calls Tryd.prog 80 #[.slice A n c, .int .i64 9, .func (.func 81) #[] #[], .func (.func 72) #[] #[]] w fun e w' => e = .returned (.tuple #[.agg #[.int .u8 d.num, .int .u8 d.alt, .int .u8 d.eps, .int .u8 d.cls, .int .u8 d.sub, .int .u8 d.proto, .int .u8 d.text], .int .i64 0]) ∧ Kept w w' := by
  obtain ⟨h1, h2, h3, h4⟩ := decIf_yes h
  have hn : n = 9 := hl.1.symm.trans h1
  subst hn
  exact dif_good A c l w hl d h4 h2 h3
theorem decIfRet2 {tm : Array Value} {w : World} {R : Nat} {a b c d e f g : Value} {E : Int} (h2 : tm[2]? = some (.pointer (some ⟨R, 0, none⟩))) (h3 : tm[3]? = some (.int .i64 E)) (h : w.heap[R]? = some (.cells #[a, b, c, d, e, f, g] 53 (0, 0))) : (results Tryd.f35 tm).run Tryd.prog w = .ok (.tuple #[.agg #[a, b, c, d, e, f, g], .int .i64 E]) w := by
  have c0 : w.cell? ⟨R, 0, none⟩ = some a := cell_heap h (o := 0) rfl
  have c1 : w.cell? ⟨R, 1, none⟩ = some b := cell_heap h (o := 1) rfl
  have c2 : w.cell? ⟨R, 2, none⟩ = some c := cell_heap h (o := 2) rfl
  have c3 : w.cell? ⟨R, 3, none⟩ = some d := cell_heap h (o := 3) rfl
  have c4 : w.cell? ⟨R, 4, none⟩ = some e := cell_heap h (o := 4) rfl
  have c5 : w.cell? ⟨R, 5, none⟩ = some f := cell_heap h (o := 5) rfl
  have c6 : w.cell? ⟨R, 6, none⟩ = some g := cell_heap h (o := 6) rfl
  simp [results, Tryd.results35, go_sem, Array.getD_eq_getD_getElem?, h2, h3, c0, c1, c2, c3, c4, c5, c6]
set_option maxRecDepth 100000 in
theorem decIf_none_any (A : Option Addr) (n c : Nat) (l : List Int) (w : World) (hl : Sl u8T w (low w.heap.size) A n l) (h : decIf l = none) :
    Calls Tryd.prog 35 #[.slice A n c] w fun e w' => (∃ E : Int, e = .returned (.tuple #[.agg #[.int .u8 0, .int .u8 0, .int .u8 0, .int .u8 0, .int .u8 0, .int .u8 0, .int .u8 0], .int .i64 E]) ∧ E ≠ 0) ∧ Kept w w' := by
  have hc := fun w' h1 => dif_none A n c l w' h1 h
  go_enter Tryd.func35, Tryd.ntmps35
  go_upto_region 1 with (fail)
  refine wp_at (fun V => V.heap[w.heap.size]? = some (.cells #[.int .u8 0, .int .u8 0, .int .u8 0, .int .u8 0, .int .u8 0, .int .u8 0, .int .u8 0] 53 (0, 0)) ∧ Kept w V) ⟨heap_at _ rfl, by go_grown⟩ (fun V hV => ?_)
  obtain ⟨hB, hkV⟩ := hV
  have HB := hide hB
  clear hB
  go_wp2_with (go_at_call 80; refine (hc _ (hl.kept hkV)).mono ?_; rintro e w1 ⟨⟨E, rfl, hE⟩, hk1⟩; have hB1 := heap_kept hk1 HB.out; have hl1 := heap_lt hB1; have b0 := cell_heap hB1 (o := 0) rfl; have p0 := frozen_heap hB1 (o := 0); have b1 := cell_heap hB1 (o := 1) rfl; have p1 := frozen_heap hB1 (o := 1); have b2 := cell_heap hB1 (o := 2) rfl; have p2 := frozen_heap hB1 (o := 2); have b3 := cell_heap hB1 (o := 3) rfl; have p3 := frozen_heap hB1 (o := 3); have b4 := cell_heap hB1 (o := 4) rfl; have p4 := frozen_heap hB1 (o := 4); have b5 := cell_heap hB1 (o := 5) rfl; have p5 := frozen_heap hB1 (o := 5); have b6 := cell_heap hB1 (o := 6) rfl; have p6 := frozen_heap hB1 (o := 6))
  refine bodyPost_ret (decIfRet2 (R := w.heap.size) rfl rfl (heap_store (heap_store (heap_store (heap_store (heap_store (heap_store (heap_store hB1 _) _) _) _) _) _) _)) rfl ⟨⟨E, rfl, hE⟩, ?_⟩
  exact (hkV.trans' hk1).trans ((((((((Below.refl _ _).setCell (p := ⟨w.heap.size, 0, none⟩) (Nat.le_refl _) _).setCell (p := ⟨w.heap.size, 1, none⟩) (Nat.le_refl _) _).setCell (p := ⟨w.heap.size, 2, none⟩) (Nat.le_refl _) _).setCell (p := ⟨w.heap.size, 3, none⟩) (Nat.le_refl _) _).setCell (p := ⟨w.heap.size, 4, none⟩) (Nat.le_refl _) _).setCell (p := ⟨w.heap.size, 5, none⟩) (Nat.le_refl _) _).setCell (p := ⟨w.heap.size, 6, none⟩) (Nat.le_refl _) _)
set_option maxRecDepth 100000 in
theorem decIf_some_any (A : Option Addr) (n c : Nat) (l : List Int) (w : World) (hl : Sl u8T w (low w.heap.size) A n l) (d : IfD) (h : decIf l = some d) :
    Calls Tryd.prog 35 #[.slice A n c] w fun e w' => e = .returned (.tuple #[.agg #[.int .u8 d.num, .int .u8 d.alt, .int .u8 d.eps, .int .u8 d.cls, .int .u8 d.sub, .int .u8 d.proto, .int .u8 d.text], .int .i64 0]) ∧ Kept w w' := by
  have hc := fun w' h1 => dif_some A n c l w' h1 d h
  go_enter Tryd.func35, Tryd.ntmps35
  go_upto_region 1 with (fail)
  refine wp_at (fun V => V.heap[w.heap.size]? = some (.cells #[.int .u8 0, .int .u8 0, .int .u8 0, .int .u8 0, .int .u8 0, .int .u8 0, .int .u8 0] 53 (0, 0)) ∧ Kept w V) ⟨heap_at _ rfl, by go_grown⟩ (fun V hV => ?_)
  obtain ⟨hB, hkV⟩ := hV
  have HB := hide hB
  clear hB
  go_wp2_with (go_at_call 80; refine (hc _ (hl.kept hkV)).mono ?_; rintro e w1 ⟨rfl, hk1⟩; have hB1 := heap_kept hk1 HB.out; have hl1 := heap_lt hB1; have b0 := cell_heap hB1 (o := 0) rfl; have p0 := frozen_heap hB1 (o := 0); have b1 := cell_heap hB1 (o := 1) rfl; have p1 := frozen_heap hB1 (o := 1); have b2 := cell_heap hB1 (o := 2) rfl; have p2 := frozen_heap hB1 (o := 2); have b3 := cell_heap hB1 (o := 3) rfl; have p3 := frozen_heap hB1 (o := 3); have b4 := cell_heap hB1 (o := 4) rfl; have p4 := frozen_heap hB1 (o := 4); have b5 := cell_heap hB1 (o := 5) rfl; have p5 := frozen_heap hB1 (o := 5); have b6 := cell_heap hB1 (o := 6) rfl; have p6 := frozen_heap hB1 (o := 6))
  refine bodyPost_ret (decIfRet2 (R := w.heap.size) rfl rfl (heap_store (heap_store (heap_store (heap_store (heap_store (heap_store (heap_store hB1 _) _) _) _) _) _) _)) rfl ⟨rfl, ?_⟩
  exact (hkV.trans' hk1).trans ((((((((Below.refl _ _).setCell (p := ⟨w.heap.size, 0, none⟩) (Nat.le_refl _) _).setCell (p := ⟨w.heap.size, 1, none⟩) (Nat.le_refl _) _).setCell (p := ⟨w.heap.size, 2, none⟩) (Nat.le_refl _) _).setCell (p := ⟨w.heap.size, 3, none⟩) (Nat.le_refl _) _).setCell (p := ⟨w.heap.size, 4, none⟩) (Nat.le_refl _) _).setCell (p := ⟨w.heap.size, 5, none⟩) (Nat.le_refl _) _).setCell (p := ⟨w.heap.size, 6, none⟩) (Nat.le_refl _) _)
theorem dep_none (A : Option Addr) (n c : Nat) (l : List Int) (w : World) (hl : Sl u8T w (low w.heap.size) A n l) (h : decEp l = none) :
    Calls Tryd.prog 83 #[.slice A n c, .int .i64 7, .func (.func 84) #[] #[], .func (.func 75) #[] #[]] w fun e w' => (∃ E : Int, e = .returned (.tuple #[.agg #[.int .u8 0, .bool false, .int .u8 0, .int .u16 0, .int .u8 0], .int .i64 E]) ∧ E ≠ 0) ∧ Kept w w' := by
  by_cases hn : n = 7
  · subst hn
    rcases decEp_no h hl.1 with h1 | ⟨h1, h2⟩
    · exact dep_bad A c l w hl _ rfl h1
    · exact dep_other A c l w hl _ rfl h1 h2
  · exact dep_size A n c l w hl hn
theorem dep_some (A : Option Addr) (n c : Nat) (l : List Int) (w : World) (hl : Sl u8T w (low w.heap.size) A n l) (d : EpD) (h : decEp l = some d) :
    Calls Tryd.prog 83 #[.slice A n c, .int .i64 7, .func (.func 84) #[] #[], .func (.func 75) #[] #[]] w fun e w' => e = .returned (.tuple #[.agg #[.int .u8 d.num, .bool d.inn, .int .u8 d.kind, .int .u16 d.max, .int .u8 d.ivl], .int .i64 0]) ∧ Kept w w' := by
  obtain ⟨h1, h2, h3, h4⟩ := decEp_yes h
  have hn : n = 7 := hl.1.symm.trans h1
  subst hn
  exact dep_good A c l w hl d h4 h2 h3
theorem decEpRet2 {tm : Array Value} {w : World} {R : Nat} {a b c d e : Value} {E : Int} (h2 : tm[2]? = some (.pointer (some ⟨R, 0, none⟩))) (h3 : tm[3]? = some (.int .i64 E)) (h : w.heap[R]? = some (.cells #[a, b, c, d, e] 59 (0, 0))) : (results Tryd.f37 tm).run Tryd.prog w = .ok (.tuple #[.agg #[a, b, c, d, e], .int .i64 E]) w := by
  have c0 : w.cell? ⟨R, 0, none⟩ = some a := cell_heap h (o := 0) rfl
  have c1 : w.cell? ⟨R, 1, none⟩ = some b := cell_heap h (o := 1) rfl
  have c2 : w.cell? ⟨R, 2, none⟩ = some c := cell_heap h (o := 2) rfl
  have c3 : w.cell? ⟨R, 3, none⟩ = some d := cell_heap h (o := 3) rfl
  have c4 : w.cell? ⟨R, 4, none⟩ = some e := cell_heap h (o := 4) rfl
  simp [results, Tryd.results37, go_sem, Array.getD_eq_getD_getElem?, h2, h3, c0, c1, c2, c3, c4]
set_option maxRecDepth 100000 in
theorem decEp_none_any (A : Option Addr) (n c : Nat) (l : List Int) (w : World) (hl : Sl u8T w (low w.heap.size) A n l) (h : decEp l = none) :
    Calls Tryd.prog 37 #[.slice A n c] w fun e w' => (∃ E : Int, e = .returned (.tuple #[.agg #[.int .u8 0, .bool false, .int .u8 0, .int .u16 0, .int .u8 0], .int .i64 E]) ∧ E ≠ 0) ∧ Kept w w' := by
  have hc := fun w' h1 => dep_none A n c l w' h1 h
  go_enter Tryd.func37, Tryd.ntmps37
  go_upto_region 1 with (fail)
  refine wp_at (fun V => V.heap[w.heap.size]? = some (.cells #[.int .u8 0, .bool false, .int .u8 0, .int .u16 0, .int .u8 0] 59 (0, 0)) ∧ Kept w V) ⟨heap_at _ rfl, by go_grown⟩ (fun V hV => ?_)
  obtain ⟨hB, hkV⟩ := hV
  have HB := hide hB
  clear hB
  go_wp2_with (go_at_call 83; refine (hc _ (hl.kept hkV)).mono ?_; rintro e w1 ⟨⟨E, rfl, hE⟩, hk1⟩; have hB1 := heap_kept hk1 HB.out; have hl1 := heap_lt hB1; have b0 := cell_heap hB1 (o := 0) rfl; have p0 := frozen_heap hB1 (o := 0); have b1 := cell_heap hB1 (o := 1) rfl; have p1 := frozen_heap hB1 (o := 1); have b2 := cell_heap hB1 (o := 2) rfl; have p2 := frozen_heap hB1 (o := 2); have b3 := cell_heap hB1 (o := 3) rfl; have p3 := frozen_heap hB1 (o := 3); have b4 := cell_heap hB1 (o := 4) rfl; have p4 := frozen_heap hB1 (o := 4))
  refine bodyPost_ret (decEpRet2 (R := w.heap.size) rfl rfl (heap_store (heap_store (heap_store (heap_store (heap_store hB1 _) _) _) _) _)) rfl ⟨⟨E, rfl, hE⟩, ?_⟩
  exact (hkV.trans' hk1).trans ((((((Below.refl _ _).setCell (p := ⟨w.heap.size, 0, none⟩) (Nat.le_refl _) _).setCell (p := ⟨w.heap.size, 1, none⟩) (Nat.le_refl _) _).setCell (p := ⟨w.heap.size, 2, none⟩) (Nat.le_refl _) _).setCell (p := ⟨w.heap.size, 3, none⟩) (Nat.le_refl _) _).setCell (p := ⟨w.heap.size, 4, none⟩) (Nat.le_refl _) _)
set_option maxRecDepth 100000 in
theorem decEp_some_any (A : Option Addr) (n c : Nat) (l : List Int) (w : World) (hl : Sl u8T w (low w.heap.size) A n l) (d : EpD) (h : decEp l = some d) :
    Calls Tryd.prog 37 #[.slice A n c] w fun e w' => e = .returned (.tuple #[.agg #[.int .u8 d.num, .bool d.inn, .int .u8 d.kind, .int .u16 d.max, .int .u8 d.ivl], .int .i64 0]) ∧ Kept w w' := by
  have hc := fun w' h1 => dep_some A n c l w' h1 d h
  go_enter Tryd.func37, Tryd.ntmps37
  go_upto_region 1 with (fail)
  refine wp_at (fun V => V.heap[w.heap.size]? = some (.cells #[.int .u8 0, .bool false, .int .u8 0, .int .u16 0, .int .u8 0] 59 (0, 0)) ∧ Kept w V) ⟨heap_at _ rfl, by go_grown⟩ (fun V hV => ?_)
  obtain ⟨hB, hkV⟩ := hV
  have HB := hide hB
  clear hB
  go_wp2_with (go_at_call 83; refine (hc _ (hl.kept hkV)).mono ?_; rintro e w1 ⟨rfl, hk1⟩; have hB1 := heap_kept hk1 HB.out; have hl1 := heap_lt hB1; have b0 := cell_heap hB1 (o := 0) rfl; have p0 := frozen_heap hB1 (o := 0); have b1 := cell_heap hB1 (o := 1) rfl; have p1 := frozen_heap hB1 (o := 1); have b2 := cell_heap hB1 (o := 2) rfl; have p2 := frozen_heap hB1 (o := 2); have b3 := cell_heap hB1 (o := 3) rfl; have p3 := frozen_heap hB1 (o := 3); have b4 := cell_heap hB1 (o := 4) rfl; have p4 := frozen_heap hB1 (o := 4))
  refine bodyPost_ret (decEpRet2 (R := w.heap.size) rfl rfl (heap_store (heap_store (heap_store (heap_store (heap_store hB1 _) _) _) _) _)) rfl ⟨rfl, ?_⟩
  exact (hkV.trans' hk1).trans ((((((Below.refl _ _).setCell (p := ⟨w.heap.size, 0, none⟩) (Nat.le_refl _) _).setCell (p := ⟨w.heap.size, 1, none⟩) (Nat.le_refl _) _).setCell (p := ⟨w.heap.size, 2, none⟩) (Nat.le_refl _) _).setCell (p := ⟨w.heap.size, 3, none⟩) (Nat.le_refl _) _).setCell (p := ⟨w.heap.size, 4, none⟩) (Nat.le_refl _) _)
end Go.Proofs.YtjgncofhobhjdaaDoor
