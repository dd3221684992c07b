

/- The law of the rows: its walk. The library's variables are as the program lays them. -/
import Derived.Test.YtfoeihbajichpaaDoorChecked
import Derived.Deep.RegionHeld3
import Derived.Deep.DrawnRows
import Derived.Deep.DeepCutAuto
import Derived.Deep.LoopGhost
import Derived.Outline
import Derived.Handy
import Derived.OwnWalk
import Derived.Laws.EntriesVeiled
import Derived.Test.YtfoeihbajichpaaDoorKd
set_option linter.unusedVariables false
set_option linter.unusedSimpArgs false
set_option linter.unusedSectionVars false
namespace Go.Proofs.YtfoeihbajichpaaDoor
open Go.RowKit Go.Lib Go.Maps Go.WideShapes
attribute [local go_sem ↓] Go.wp_at_zero Go.wp_at_succ
theorem check_is (t c v x l k : Int) (w : World) (hok : Rq.ok ⟨t, c, v, x, l⟩) (h : checkC t c v x l = k) :
    Calls Tryd.prog 15 #[.agg #[.int .u8 (t), .int .u8 (c), .int .u16 (v), .int .u16 (x), .int .u16 (l)]] w fun e w' => e = .returned (.int .i64 k) ∧ Kept w w' := by
  rw [← h]; exact check_all t c v x l w hok
theorem row_t {t c v x l : Int} (h : RowOk t c v x l) : t ≤ 130 := by
  rcases h with ⟨rfl, _⟩ | ⟨rfl, _⟩ | ⟨rfl, _⟩ | ⟨rfl, _⟩ | ⟨rfl, _⟩ | ⟨rfl, _⟩ | ⟨rfl, _⟩ | ⟨rfl, _⟩ | ⟨rfl, _⟩ | ⟨rfl, _⟩ | ⟨rfl, _⟩ | ⟨rfl, _⟩ | ⟨rfl, _⟩ | ⟨rfl, _⟩ <;> decide
theorem bits_u8 (t n : Int) : 0 ≤ bits BinOp.xor IntKind.u8 t n ∧ bits BinOp.xor IntKind.u8 t n < 256 := by
  show 0 ≤ IntKind.u8.wrap _ ∧ IntKind.u8.wrap _ < 256
  rw [IntKind.wrap_u8]; omega
set_option maxRecDepth 100000 in
set_option maxHeartbeats 8000000 in
theorem lawrows_0 (a q i n z t c v x l : Int) (b : Bool) (w : World) (hT : Tabs w) (HR : ∀ W, Calls Tryd.prog 20 #[.agg #[.int .u8 a, .int .u16 q, .int .u8 i, .bool b, .int .u16 n]] W fun e w' => e = .returned (.agg #[.int .u8 (t), .int .u8 (c), .int .u16 (v), .int .u16 (x), .int .u16 (l)]) ∧ Kept W w')
    (hR : RowOk t c v x l) (hok : Rq.ok ⟨t, c, v, x, l⟩) (z0 : 0 ≤ z) (z1 : z < 256) (hm : z % 6 = 0) :
    Calls Tryd.prog 6 #[.agg #[.int .u8 a, .int .u16 q, .int .u8 i, .bool b, .int .u16 n], .int .u8 z] w fun e w' => e = .returned (.bool true) ∧ Kept w w' := by
  have hok' := hok
  obtain ⟨ht, hc, hv, hx, hl⟩ := hok'
  have t0 : 0 ≤ t := ht.1
  have t1 : t < 256 := ht.2
  have v0 : 0 ≤ v := hv.1
  have x0 : 0 ≤ x := hx.1
  have l0 : 0 ≤ l := hl.1
  have t3 : t ≤ 130 := row_t hR
  have HC0 := fun W => check_is t c v x l 0 W hok (row_fine hR v0 x0 l0)
  have HC1 := fun W => check_is (bits BinOp.xor IntKind.u8 t 128) c v x l 4 W ⟨bits_u8 _ _, hc, hv, hx, hl⟩ (row_way hR v0 x0 l0)
  clear hR hok ht hc hv hx hl
  go_enter Tryd.func6, Tryd.ntmps6
  go_upto_region 5 with (first
    | (go_at_call 20; refine (HR _).mono ?_; rintro e w1 ⟨rfl, hk1⟩)
    | (go_at_call 15; refine (HC0 _).mono ?_; rintro e w2 ⟨rfl, hk2⟩))
  have hX : w.heap.size ≤ w1.heap.size := by have := hk1.size; simp only [World.size_alloc] at this; omega
  refine wp_at (fun W => W.heap[w1.heap.size]? = some (.cells #[.int .u8 (t), .int .u8 (c), .int .u16 (v), .int .u16 (x), .int .u16 (l)] 25 (0, 0)) ∧ Kept w W) ⟨heap_kept hk2 (heap_at _ rfl), Kept.trans' (a := w) (b := w1) (Below.trans (by go_grown) (hk1.mono (by simp only [World.size_alloc]; omega))) (Below.trans (by go_grown) (hk2.mono (by simp only [World.size_alloc]; omega)))⟩ (fun W hW => ?_)
  clear hk2 HR HC0
  generalize w1.heap.size = X at *
  clear hk1 w1 w2
  obtain ⟨HX, hkW⟩ := hW
  have r0 := cell_heap HX (o := 0) rfl
  have r1 := cell_heap HX (o := 1) rfl
  have r2 := cell_heap HX (o := 2) rfl
  have r3 := cell_heap HX (o := 3) rfl
  have r4 := cell_heap HX (o := 4) rfl
  have f0 := frozen_heap HX (o := 0)
  have f2 := frozen_heap HX (o := 2)
  have f3 := frozen_heap HX (o := 3)
  have f4 := frozen_heap HX (o := 4)
  have hTw := Lib.hid hT
  clear HX hT
  obtain ⟨b6, hb6⟩ : ∃ b, (c == 6) = b := ⟨_, rfl⟩
  obtain ⟨b7, hb7⟩ : ∃ b, (c == 7) = b := ⟨_, rfl⟩
  have hA : anyC c = (b6 || b7) := by unfold anyC; rw [hb6, hb7]
  try rw [hA] at HC1
  clear hA
  cases b6
  · cases b7
    · skip
      try simp only [Bool.or_false, Bool.or_true, Bool.false_or, Bool.true_or, if_true, if_false, Bool.false_eq_true] at HC1
      go_wp2_with (first
        | (go_at_call 15; refine (HC1 _).mono ?_; rintro e w5 ⟨rfl, hk5⟩; have hk6 : Kept w w5 := (hkW.setCell hX _).trans (hk5.mono (by rw [World.size_setCell]; exact hkW.size)))
        | (go_at_call 11; refine (lives_any _ (hTw.out.kept hk6)).mono ?_; rintro e w7 ⟨rfl, hk7⟩))
      go_ret
      exact ⟨rfl, hk6.trans' hk7⟩
    · skip
      try simp only [Bool.or_false, Bool.or_true, Bool.false_or, Bool.true_or, if_true, if_false, Bool.false_eq_true] at HC1
      go_wp2_with (first
        | (go_at_call 15; refine (HC1 _).mono ?_; rintro e w5 ⟨rfl, hk5⟩; have hk6 : Kept w w5 := (hkW.setCell hX _).trans (hk5.mono (by rw [World.size_setCell]; exact hkW.size)))
        | (go_at_call 11; refine (lives_any _ (hTw.out.kept hk6)).mono ?_; rintro e w7 ⟨rfl, hk7⟩))
      go_ret
      exact ⟨rfl, hk6.trans' hk7⟩
  · skip
    try simp only [Bool.or_false, Bool.or_true, Bool.false_or, Bool.true_or, if_true, if_false, Bool.false_eq_true] at HC1
    go_wp2_with (first
      | (go_at_call 15; refine (HC1 _).mono ?_; rintro e w5 ⟨rfl, hk5⟩; have hk6 : Kept w w5 := (hkW.setCell hX _).trans (hk5.mono (by rw [World.size_setCell]; exact hkW.size)))
      | (go_at_call 11; refine (lives_any _ (hTw.out.kept hk6)).mono ?_; rintro e w7 ⟨rfl, hk7⟩))
    go_ret
    exact ⟨rfl, hk6.trans' hk7⟩
set_option maxRecDepth 100000 in
set_option maxHeartbeats 8000000 in
theorem lawrows_1 (a q i n z t c v x l : Int) (b : Bool) (w : World) (hT : Tabs w) (HR : ∀ W, Calls Tryd.prog 20 #[.agg #[.int .u8 a, .int .u16 q, .int .u8 i, .bool b, .int .u16 n]] W fun e w' => e = .returned (.agg #[.int .u8 (t), .int .u8 (c), .int .u16 (v), .int .u16 (x), .int .u16 (l)]) ∧ Kept W w')
    (hR : RowOk t c v x l) (hok : Rq.ok ⟨t, c, v, x, l⟩) (z0 : 0 ≤ z) (z1 : z < 256) (hm : z % 6 = 1) :
    Calls Tryd.prog 6 #[.agg #[.int .u8 a, .int .u16 q, .int .u8 i, .bool b, .int .u16 n], .int .u8 z] w fun e w' => e = .returned (.bool true) ∧ Kept w w' := by
  have hok' := hok
  obtain ⟨ht, hc, hv, hx, hl⟩ := hok'
  have t0 : 0 ≤ t := ht.1
  have t1 : t < 256 := ht.2
  have v0 : 0 ≤ v := hv.1
  have x0 : 0 ≤ x := hx.1
  have l0 : 0 ≤ l := hl.1
  have t3 : t ≤ 130 := row_t hR
  have HC0 := fun W => check_is t c v x l 0 W hok (row_fine hR v0 x0 l0)
  have HC1 := fun W => check_is (bits BinOp.xor IntKind.u8 t (32 * (1 + z / 6 % 3))) c v x l 1 W ⟨bits_u8 _ _, hc, hv, hx, hl⟩ (row_kind hR v0 x0 l0 z0)
  clear hR hok ht hc hv hx hl
  go_enter Tryd.func6, Tryd.ntmps6
  go_upto_region 5 with (first
    | (go_at_call 20; refine (HR _).mono ?_; rintro e w1 ⟨rfl, hk1⟩)
    | (go_at_call 15; refine (HC0 _).mono ?_; rintro e w2 ⟨rfl, hk2⟩))
  have hX : w.heap.size ≤ w1.heap.size := by have := hk1.size; simp only [World.size_alloc] at this; omega
  refine wp_at (fun W => W.heap[w1.heap.size]? = some (.cells #[.int .u8 (t), .int .u8 (c), .int .u16 (v), .int .u16 (x), .int .u16 (l)] 25 (0, 0)) ∧ Kept w W) ⟨heap_kept hk2 (heap_at _ rfl), Kept.trans' (a := w) (b := w1) (Below.trans (by go_grown) (hk1.mono (by simp only [World.size_alloc]; omega))) (Below.trans (by go_grown) (hk2.mono (by simp only [World.size_alloc]; omega)))⟩ (fun W hW => ?_)
  clear hk2 HR HC0
  generalize w1.heap.size = X at *
  clear hk1 w1 w2
  obtain ⟨HX, hkW⟩ := hW
  have r0 := cell_heap HX (o := 0) rfl
  have r1 := cell_heap HX (o := 1) rfl
  have r2 := cell_heap HX (o := 2) rfl
  have r3 := cell_heap HX (o := 3) rfl
  have r4 := cell_heap HX (o := 4) rfl
  have f0 := frozen_heap HX (o := 0)
  have f2 := frozen_heap HX (o := 2)
  have f3 := frozen_heap HX (o := 3)
  have f4 := frozen_heap HX (o := 4)
  have hTw := Lib.hid hT
  clear HX hT
  obtain ⟨b6, hb6⟩ : ∃ b, (c == 6) = b := ⟨_, rfl⟩
  obtain ⟨b7, hb7⟩ : ∃ b, (c == 7) = b := ⟨_, rfl⟩
  have hA : anyC c = (b6 || b7) := by unfold anyC; rw [hb6, hb7]
  try rw [hA] at HC1
  clear hA
  cases b6
  · cases b7
    · skip
      try simp only [Bool.or_false, Bool.or_true, Bool.false_or, Bool.true_or, if_true, if_false, Bool.false_eq_true] at HC1
      go_wp2_with (first
        | (go_at_call 15; refine (HC1 _).mono ?_; rintro e w5 ⟨rfl, hk5⟩; have hk6 : Kept w w5 := (hkW.setCell hX _).trans (hk5.mono (by rw [World.size_setCell]; exact hkW.size)))
        | (go_at_call 11; refine (lives_any _ (hTw.out.kept hk6)).mono ?_; rintro e w7 ⟨rfl, hk7⟩))
      go_ret
      exact ⟨rfl, hk6.trans' hk7⟩
    · skip
      try simp only [Bool.or_false, Bool.or_true, Bool.false_or, Bool.true_or, if_true, if_false, Bool.false_eq_true] at HC1
      go_wp2_with (first
        | (go_at_call 15; refine (HC1 _).mono ?_; rintro e w5 ⟨rfl, hk5⟩; have hk6 : Kept w w5 := (hkW.setCell hX _).trans (hk5.mono (by rw [World.size_setCell]; exact hkW.size)))
        | (go_at_call 11; refine (lives_any _ (hTw.out.kept hk6)).mono ?_; rintro e w7 ⟨rfl, hk7⟩))
      go_ret
      exact ⟨rfl, hk6.trans' hk7⟩
  · skip
    try simp only [Bool.or_false, Bool.or_true, Bool.false_or, Bool.true_or, if_true, if_false, Bool.false_eq_true] at HC1
    go_wp2_with (first
      | (go_at_call 15; refine (HC1 _).mono ?_; rintro e w5 ⟨rfl, hk5⟩; have hk6 : Kept w w5 := (hkW.setCell hX _).trans (hk5.mono (by rw [World.size_setCell]; exact hkW.size)))
      | (go_at_call 11; refine (lives_any _ (hTw.out.kept hk6)).mono ?_; rintro e w7 ⟨rfl, hk7⟩))
    go_ret
    exact ⟨rfl, hk6.trans' hk7⟩
set_option maxRecDepth 100000 in
set_option maxHeartbeats 8000000 in
theorem lawrows_2 (a q i n z t c v x l : Int) (b : Bool) (w : World) (hT : Tabs w) (HR : ∀ W, Calls Tryd.prog 20 #[.agg #[.int .u8 a, .int .u16 q, .int .u8 i, .bool b, .int .u16 n]] W fun e w' => e = .returned (.agg #[.int .u8 (t), .int .u8 (c), .int .u16 (v), .int .u16 (x), .int .u16 (l)]) ∧ Kept W w')
    (hR : RowOk t c v x l) (hok : Rq.ok ⟨t, c, v, x, l⟩) (z0 : 0 ≤ z) (z1 : z < 256) (hm : z % 6 = 2) :
    Calls Tryd.prog 6 #[.agg #[.int .u8 a, .int .u16 q, .int .u8 i, .bool b, .int .u16 n], .int .u8 z] w fun e w' => e = .returned (.bool true) ∧ Kept w w' := by
  have hok' := hok
  obtain ⟨ht, hc, hv, hx, hl⟩ := hok'
  have t0 : 0 ≤ t := ht.1
  have t1 : t < 256 := ht.2
  have v0 : 0 ≤ v := hv.1
  have x0 : 0 ≤ x := hx.1
  have l0 : 0 ≤ l := hl.1
  have t3 : t ≤ 130 := row_t hR
  have HC0 := fun W => check_is t c v x l 0 W hok (row_fine hR v0 x0 l0)
  have HC1 := fun W => check_is (t + 3) c v x l 4 W ⟨⟨by dsimp only; omega, by dsimp only; omega⟩, hc, hv, hx, hl⟩ (row_to hR v0 x0 l0)
  clear hR hok ht hc hv hx hl
  go_enter Tryd.func6, Tryd.ntmps6
  go_upto_region 5 with (first
    | (go_at_call 20; refine (HR _).mono ?_; rintro e w1 ⟨rfl, hk1⟩)
    | (go_at_call 15; refine (HC0 _).mono ?_; rintro e w2 ⟨rfl, hk2⟩))
  have hX : w.heap.size ≤ w1.heap.size := by have := hk1.size; simp only [World.size_alloc] at this; omega
  refine wp_at (fun W => W.heap[w1.heap.size]? = some (.cells #[.int .u8 (t), .int .u8 (c), .int .u16 (v), .int .u16 (x), .int .u16 (l)] 25 (0, 0)) ∧ Kept w W) ⟨heap_kept hk2 (heap_at _ rfl), Kept.trans' (a := w) (b := w1) (Below.trans (by go_grown) (hk1.mono (by simp only [World.size_alloc]; omega))) (Below.trans (by go_grown) (hk2.mono (by simp only [World.size_alloc]; omega)))⟩ (fun W hW => ?_)
  clear hk2 HR HC0
  generalize w1.heap.size = X at *
  clear hk1 w1 w2
  obtain ⟨HX, hkW⟩ := hW
  have r0 := cell_heap HX (o := 0) rfl
  have r1 := cell_heap HX (o := 1) rfl
  have r2 := cell_heap HX (o := 2) rfl
  have r3 := cell_heap HX (o := 3) rfl
  have r4 := cell_heap HX (o := 4) rfl
  have f0 := frozen_heap HX (o := 0)
  have f2 := frozen_heap HX (o := 2)
  have f3 := frozen_heap HX (o := 3)
  have f4 := frozen_heap HX (o := 4)
  have hTw := Lib.hid hT
  clear HX hT
  obtain ⟨b6, hb6⟩ : ∃ b, (c == 6) = b := ⟨_, rfl⟩
  obtain ⟨b7, hb7⟩ : ∃ b, (c == 7) = b := ⟨_, rfl⟩
  have hA : anyC c = (b6 || b7) := by unfold anyC; rw [hb6, hb7]
  try rw [hA] at HC1
  clear hA
  cases b6
  · cases b7
    · skip
      try simp only [Bool.or_false, Bool.or_true, Bool.false_or, Bool.true_or, if_true, if_false, Bool.false_eq_true] at HC1
      go_wp2_with (first
        | (go_at_call 15; refine (HC1 _).mono ?_; rintro e w5 ⟨rfl, hk5⟩; have hk6 : Kept w w5 := (hkW.setCell hX _).trans (hk5.mono (by rw [World.size_setCell]; exact hkW.size)))
        | (go_at_call 11; refine (lives_any _ (hTw.out.kept hk6)).mono ?_; rintro e w7 ⟨rfl, hk7⟩))
      go_ret
      exact ⟨rfl, hk6.trans' hk7⟩
    · skip
      try simp only [Bool.or_false, Bool.or_true, Bool.false_or, Bool.true_or, if_true, if_false, Bool.false_eq_true] at HC1
      go_wp2_with (first
        | (go_at_call 15; refine (HC1 _).mono ?_; rintro e w5 ⟨rfl, hk5⟩; have hk6 : Kept w w5 := (hkW.setCell hX _).trans (hk5.mono (by rw [World.size_setCell]; exact hkW.size)))
        | (go_at_call 11; refine (lives_any _ (hTw.out.kept hk6)).mono ?_; rintro e w7 ⟨rfl, hk7⟩))
      go_ret
      exact ⟨rfl, hk6.trans' hk7⟩
  · skip
    try simp only [Bool.or_false, Bool.or_true, Bool.false_or, Bool.true_or, if_true, if_false, Bool.false_eq_true] at HC1
    go_wp2_with (first
      | (go_at_call 15; refine (HC1 _).mono ?_; rintro e w5 ⟨rfl, hk5⟩; have hk6 : Kept w w5 := (hkW.setCell hX _).trans (hk5.mono (by rw [World.size_setCell]; exact hkW.size)))
      | (go_at_call 11; refine (lives_any _ (hTw.out.kept hk6)).mono ?_; rintro e w7 ⟨rfl, hk7⟩))
    go_ret
    exact ⟨rfl, hk6.trans' hk7⟩
set_option maxRecDepth 100000 in
set_option maxHeartbeats 8000000 in
theorem lawrows_3 (a q i n z t c v x l : Int) (b : Bool) (w : World) (hT : Tabs w) (HR : ∀ W, Calls Tryd.prog 20 #[.agg #[.int .u8 a, .int .u16 q, .int .u8 i, .bool b, .int .u16 n]] W fun e w' => e = .returned (.agg #[.int .u8 (t), .int .u8 (c), .int .u16 (v), .int .u16 (x), .int .u16 (l)]) ∧ Kept W w')
    (hR : RowOk t c v x l) (hok : Rq.ok ⟨t, c, v, x, l⟩) (z0 : 0 ≤ z) (z1 : z < 256) (hm : z % 6 = 3) :
    Calls Tryd.prog 6 #[.agg #[.int .u8 a, .int .u16 q, .int .u8 i, .bool b, .int .u16 n], .int .u8 z] w fun e w' => e = .returned (.bool true) ∧ Kept w w' := by
  have hok' := hok
  obtain ⟨ht, hc, hv, hx, hl⟩ := hok'
  have t0 : 0 ≤ t := ht.1
  have t1 : t < 256 := ht.2
  have v0 : 0 ≤ v := hv.1
  have x0 : 0 ≤ x := hx.1
  have l0 : 0 ≤ l := hl.1
  have t3 : t ≤ 130 := row_t hR
  have HC0 := fun W => check_is t c v x l 0 W hok (row_fine hR v0 x0 l0)
  have HC1 := fun W => check_is t c v x (IntKind.u16.wrap (l + (1 + z))) (if anyC c then 0 else 4) W ⟨ht, hc, hv, hx, by dsimp only; rw [IntKind.wrap_u16]; omega⟩ (row_len hR v0 x0 l0 z0 z1)
  clear hR hok ht hc hv hx hl
  go_enter Tryd.func6, Tryd.ntmps6
  go_upto_region 5 with (first
    | (go_at_call 20; refine (HR _).mono ?_; rintro e w1 ⟨rfl, hk1⟩)
    | (go_at_call 15; refine (HC0 _).mono ?_; rintro e w2 ⟨rfl, hk2⟩))
  have hX : w.heap.size ≤ w1.heap.size := by have := hk1.size; simp only [World.size_alloc] at this; omega
  refine wp_at (fun W => W.heap[w1.heap.size]? = some (.cells #[.int .u8 (t), .int .u8 (c), .int .u16 (v), .int .u16 (x), .int .u16 (l)] 25 (0, 0)) ∧ Kept w W) ⟨heap_kept hk2 (heap_at _ rfl), Kept.trans' (a := w) (b := w1) (Below.trans (by go_grown) (hk1.mono (by simp only [World.size_alloc]; omega))) (Below.trans (by go_grown) (hk2.mono (by simp only [World.size_alloc]; omega)))⟩ (fun W hW => ?_)
  clear hk2 HR HC0
  generalize w1.heap.size = X at *
  clear hk1 w1 w2
  obtain ⟨HX, hkW⟩ := hW
  have r0 := cell_heap HX (o := 0) rfl
  have r1 := cell_heap HX (o := 1) rfl
  have r2 := cell_heap HX (o := 2) rfl
  have r3 := cell_heap HX (o := 3) rfl
  have r4 := cell_heap HX (o := 4) rfl
  have f0 := frozen_heap HX (o := 0)
  have f2 := frozen_heap HX (o := 2)
  have f3 := frozen_heap HX (o := 3)
  have f4 := frozen_heap HX (o := 4)
  have hTw := Lib.hid hT
  clear HX hT
  obtain ⟨b6, hb6⟩ : ∃ b, (c == 6) = b := ⟨_, rfl⟩
  obtain ⟨b7, hb7⟩ : ∃ b, (c == 7) = b := ⟨_, rfl⟩
  have hA : anyC c = (b6 || b7) := by unfold anyC; rw [hb6, hb7]
  try rw [hA] at HC1
  clear hA
  cases b6
  · cases b7
    · skip
      try simp only [Bool.or_false, Bool.or_true, Bool.false_or, Bool.true_or, if_true, if_false, Bool.false_eq_true] at HC1
      go_wp2_with (first
        | (go_at_call 15; refine (HC1 _).mono ?_; rintro e w5 ⟨rfl, hk5⟩; have hk6 : Kept w w5 := (hkW.setCell hX _).trans (hk5.mono (by rw [World.size_setCell]; exact hkW.size)))
        | (go_at_call 11; refine (lives_any _ (hTw.out.kept hk6)).mono ?_; rintro e w7 ⟨rfl, hk7⟩))
      go_ret
      exact ⟨rfl, hk6.trans' hk7⟩
    · skip
      try simp only [Bool.or_false, Bool.or_true, Bool.false_or, Bool.true_or, if_true, if_false, Bool.false_eq_true] at HC1
      go_wp2_with (first
        | (go_at_call 15; refine (HC1 _).mono ?_; rintro e w5 ⟨rfl, hk5⟩; have hk6 : Kept w w5 := (hkW.setCell hX _).trans (hk5.mono (by rw [World.size_setCell]; exact hkW.size)))
        | (go_at_call 11; refine (lives_any _ (hTw.out.kept hk6)).mono ?_; rintro e w7 ⟨rfl, hk7⟩))
      go_ret
      exact ⟨rfl, hk6.trans' hk7⟩
  · skip
    try simp only [Bool.or_false, Bool.or_true, Bool.false_or, Bool.true_or, if_true, if_false, Bool.false_eq_true] at HC1
    go_wp2_with (first
      | (go_at_call 15; refine (HC1 _).mono ?_; rintro e w5 ⟨rfl, hk5⟩; have hk6 : Kept w w5 := (hkW.setCell hX _).trans (hk5.mono (by rw [World.size_setCell]; exact hkW.size)))
      | (go_at_call 11; refine (lives_any _ (hTw.out.kept hk6)).mono ?_; rintro e w7 ⟨rfl, hk7⟩))
    go_ret
    exact ⟨rfl, hk6.trans' hk7⟩
set_option maxRecDepth 100000 in
set_option maxHeartbeats 8000000 in
theorem lawrows_4 (a q i n z t c v x l : Int) (b : Bool) (w : World) (hT : Tabs w) (HR : ∀ W, Calls Tryd.prog 20 #[.agg #[.int .u8 a, .int .u16 q, .int .u8 i, .bool b, .int .u16 n]] W fun e w' => e = .returned (.agg #[.int .u8 (t), .int .u8 (c), .int .u16 (v), .int .u16 (x), .int .u16 (l)]) ∧ Kept W w')
    (hR : RowOk t c v x l) (hok : Rq.ok ⟨t, c, v, x, l⟩) (z0 : 0 ≤ z) (z1 : z < 256) (hm : z % 6 = 4) :
    Calls Tryd.prog 6 #[.agg #[.int .u8 a, .int .u16 q, .int .u8 i, .bool b, .int .u16 n], .int .u8 z] w fun e w' => e = .returned (.bool true) ∧ Kept w w' := by
  have hok' := hok
  obtain ⟨ht, hc, hv, hx, hl⟩ := hok'
  have t0 : 0 ≤ t := ht.1
  have t1 : t < 256 := ht.2
  have v0 : 0 ≤ v := hv.1
  have x0 : 0 ≤ x := hx.1
  have l0 : 0 ≤ l := hl.1
  have t3 : t ≤ 130 := row_t hR
  have hw0 : 0 ≤ IntKind.u16.wrap (16 * v) := by rw [IntKind.wrap_u16]; omega
  have hw1 : IntKind.u16.wrap (16 * v) < 65536 := by rw [IntKind.wrap_u16]; omega
  have HC0 := fun W => check_is t c v x l 0 W hok (row_fine hR v0 x0 l0)
  have HC1 := fun W => check_is t c (bits BinOp.or IntKind.u16 (IntKind.u16.wrap (16 * v)) 4096) x l (if anyC c then 0 else 4) W ⟨ht, hc, ⟨by have := (or4096 hw0 hw1).1; dsimp only; omega, (or4096 hw0 hw1).2⟩, hx, hl⟩ (row_val hR v0 x0 l0 (or4096 hw0 hw1).1)
  clear hw0 hw1
  clear hR hok ht hc hv hx hl
  go_enter Tryd.func6, Tryd.ntmps6
  go_upto_region 5 with (first
    | (go_at_call 20; refine (HR _).mono ?_; rintro e w1 ⟨rfl, hk1⟩)
    | (go_at_call 15; refine (HC0 _).mono ?_; rintro e w2 ⟨rfl, hk2⟩))
  have hX : w.heap.size ≤ w1.heap.size := by have := hk1.size; simp only [World.size_alloc] at this; omega
  refine wp_at (fun W => W.heap[w1.heap.size]? = some (.cells #[.int .u8 (t), .int .u8 (c), .int .u16 (v), .int .u16 (x), .int .u16 (l)] 25 (0, 0)) ∧ Kept w W) ⟨heap_kept hk2 (heap_at _ rfl), Kept.trans' (a := w) (b := w1) (Below.trans (by go_grown) (hk1.mono (by simp only [World.size_alloc]; omega))) (Below.trans (by go_grown) (hk2.mono (by simp only [World.size_alloc]; omega)))⟩ (fun W hW => ?_)
  clear hk2 HR HC0
  generalize w1.heap.size = X at *
  clear hk1 w1 w2
  obtain ⟨HX, hkW⟩ := hW
  have r0 := cell_heap HX (o := 0) rfl
  have r1 := cell_heap HX (o := 1) rfl
  have r2 := cell_heap HX (o := 2) rfl
  have r3 := cell_heap HX (o := 3) rfl
  have r4 := cell_heap HX (o := 4) rfl
  have f0 := frozen_heap HX (o := 0)
  have f2 := frozen_heap HX (o := 2)
  have f3 := frozen_heap HX (o := 3)
  have f4 := frozen_heap HX (o := 4)
  have hTw := Lib.hid hT
  clear HX hT
  obtain ⟨b6, hb6⟩ : ∃ b, (c == 6) = b := ⟨_, rfl⟩
  obtain ⟨b7, hb7⟩ : ∃ b, (c == 7) = b := ⟨_, rfl⟩
  have hA : anyC c = (b6 || b7) := by unfold anyC; rw [hb6, hb7]
  try rw [hA] at HC1
  clear hA
  cases b6
  · cases b7
    · skip
      try simp only [Bool.or_false, Bool.or_true, Bool.false_or, Bool.true_or, if_true, if_false, Bool.false_eq_true] at HC1
      go_wp2_with (first
        | (go_at_call 15; refine (HC1 _).mono ?_; rintro e w5 ⟨rfl, hk5⟩; have hk6 : Kept w w5 := (hkW.setCell hX _).trans (hk5.mono (by rw [World.size_setCell]; exact hkW.size)))
        | (go_at_call 11; refine (lives_any _ (hTw.out.kept hk6)).mono ?_; rintro e w7 ⟨rfl, hk7⟩))
      go_ret
      exact ⟨rfl, hk6.trans' hk7⟩
    · skip
      try simp only [Bool.or_false, Bool.or_true, Bool.false_or, Bool.true_or, if_true, if_false, Bool.false_eq_true] at HC1
      go_wp2_with (first
        | (go_at_call 15; refine (HC1 _).mono ?_; rintro e w5 ⟨rfl, hk5⟩; have hk6 : Kept w w5 := (hkW.setCell hX _).trans (hk5.mono (by rw [World.size_setCell]; exact hkW.size)))
        | (go_at_call 11; refine (lives_any _ (hTw.out.kept hk6)).mono ?_; rintro e w7 ⟨rfl, hk7⟩))
      go_ret
      exact ⟨rfl, hk6.trans' hk7⟩
  · skip
    try simp only [Bool.or_false, Bool.or_true, Bool.false_or, Bool.true_or, if_true, if_false, Bool.false_eq_true] at HC1
    go_wp2_with (first
      | (go_at_call 15; refine (HC1 _).mono ?_; rintro e w5 ⟨rfl, hk5⟩; have hk6 : Kept w w5 := (hkW.setCell hX _).trans (hk5.mono (by rw [World.size_setCell]; exact hkW.size)))
      | (go_at_call 11; refine (lives_any _ (hTw.out.kept hk6)).mono ?_; rintro e w7 ⟨rfl, hk7⟩))
    go_ret
    exact ⟨rfl, hk6.trans' hk7⟩
set_option maxRecDepth 100000 in
set_option maxHeartbeats 8000000 in
theorem lawrows_5 (a q i n z t c v x l : Int) (b : Bool) (w : World) (hT : Tabs w) (HR : ∀ W, Calls Tryd.prog 20 #[.agg #[.int .u8 a, .int .u16 q, .int .u8 i, .bool b, .int .u16 n]] W fun e w' => e = .returned (.agg #[.int .u8 (t), .int .u8 (c), .int .u16 (v), .int .u16 (x), .int .u16 (l)]) ∧ Kept W w')
    (hR : RowOk t c v x l) (hok : Rq.ok ⟨t, c, v, x, l⟩) (z0 : 0 ≤ z) (z1 : z < 256) (hm : z % 6 = 5) :
    Calls Tryd.prog 6 #[.agg #[.int .u8 a, .int .u16 q, .int .u8 i, .bool b, .int .u16 n], .int .u8 z] w fun e w' => e = .returned (.bool true) ∧ Kept w w' := by
  have hok' := hok
  obtain ⟨ht, hc, hv, hx, hl⟩ := hok'
  have t0 : 0 ≤ t := ht.1
  have t1 : t < 256 := ht.2
  have v0 : 0 ≤ v := hv.1
  have x0 : 0 ≤ x := hx.1
  have l0 : 0 ≤ l := hl.1
  have t3 : t ≤ 130 := row_t hR
  have hw0 : 0 ≤ IntKind.u16.wrap (16 * x) := by rw [IntKind.wrap_u16]; omega
  have hw1 : IntKind.u16.wrap (16 * x) < 65536 := by rw [IntKind.wrap_u16]; omega
  have HC0 := fun W => check_is t c v x l 0 W hok (row_fine hR v0 x0 l0)
  have HC1 := fun W => check_is t c v (bits BinOp.or IntKind.u16 (IntKind.u16.wrap (16 * x)) 4096) l (if anyC c then 0 else 4) W ⟨ht, hc, hv, ⟨by have := (or4096 hw0 hw1).1; dsimp only; omega, (or4096 hw0 hw1).2⟩, hl⟩ (row_idx hR v0 x0 l0 (or4096 hw0 hw1).1)
  clear hw0 hw1
  clear hR hok ht hc hv hx hl
  go_enter Tryd.func6, Tryd.ntmps6
  go_upto_region 5 with (first
    | (go_at_call 20; refine (HR _).mono ?_; rintro e w1 ⟨rfl, hk1⟩)
    | (go_at_call 15; refine (HC0 _).mono ?_; rintro e w2 ⟨rfl, hk2⟩))
  have hX : w.heap.size ≤ w1.heap.size := by have := hk1.size; simp only [World.size_alloc] at this; omega
  refine wp_at (fun W => W.heap[w1.heap.size]? = some (.cells #[.int .u8 (t), .int .u8 (c), .int .u16 (v), .int .u16 (x), .int .u16 (l)] 25 (0, 0)) ∧ Kept w W) ⟨heap_kept hk2 (heap_at _ rfl), Kept.trans' (a := w) (b := w1) (Below.trans (by go_grown) (hk1.mono (by simp only [World.size_alloc]; omega))) (Below.trans (by go_grown) (hk2.mono (by simp only [World.size_alloc]; omega)))⟩ (fun W hW => ?_)
  clear hk2 HR HC0
  generalize w1.heap.size = X at *
  clear hk1 w1 w2
  obtain ⟨HX, hkW⟩ := hW
  have r0 := cell_heap HX (o := 0) rfl
  have r1 := cell_heap HX (o := 1) rfl
  have r2 := cell_heap HX (o := 2) rfl
  have r3 := cell_heap HX (o := 3) rfl
  have r4 := cell_heap HX (o := 4) rfl
  have f0 := frozen_heap HX (o := 0)
  have f2 := frozen_heap HX (o := 2)
  have f3 := frozen_heap HX (o := 3)
  have f4 := frozen_heap HX (o := 4)
  have hTw := Lib.hid hT
  clear HX hT
  obtain ⟨b6, hb6⟩ : ∃ b, (c == 6) = b := ⟨_, rfl⟩
  obtain ⟨b7, hb7⟩ : ∃ b, (c == 7) = b := ⟨_, rfl⟩
  have hA : anyC c = (b6 || b7) := by unfold anyC; rw [hb6, hb7]
  try rw [hA] at HC1
  clear hA
  cases b6
  · cases b7
    · skip
      try simp only [Bool.or_false, Bool.or_true, Bool.false_or, Bool.true_or, if_true, if_false, Bool.false_eq_true] at HC1
      go_wp2_with (first
        | (go_at_call 15; refine (HC1 _).mono ?_; rintro e w5 ⟨rfl, hk5⟩; have hk6 : Kept w w5 := (hkW.setCell hX _).trans (hk5.mono (by rw [World.size_setCell]; exact hkW.size)))
        | (go_at_call 11; refine (lives_any _ (hTw.out.kept hk6)).mono ?_; rintro e w7 ⟨rfl, hk7⟩))
      go_ret
      exact ⟨rfl, hk6.trans' hk7⟩
    · skip
      try simp only [Bool.or_false, Bool.or_true, Bool.false_or, Bool.true_or, if_true, if_false, Bool.false_eq_true] at HC1
      go_wp2_with (first
        | (go_at_call 15; refine (HC1 _).mono ?_; rintro e w5 ⟨rfl, hk5⟩; have hk6 : Kept w w5 := (hkW.setCell hX _).trans (hk5.mono (by rw [World.size_setCell]; exact hkW.size)))
        | (go_at_call 11; refine (lives_any _ (hTw.out.kept hk6)).mono ?_; rintro e w7 ⟨rfl, hk7⟩))
      go_ret
      exact ⟨rfl, hk6.trans' hk7⟩
  · skip
    try simp only [Bool.or_false, Bool.or_true, Bool.false_or, Bool.true_or, if_true, if_false, Bool.false_eq_true] at HC1
    go_wp2_with (first
      | (go_at_call 15; refine (HC1 _).mono ?_; rintro e w5 ⟨rfl, hk5⟩; have hk6 : Kept w w5 := (hkW.setCell hX _).trans (hk5.mono (by rw [World.size_setCell]; exact hkW.size)))
      | (go_at_call 11; refine (lives_any _ (hTw.out.kept hk6)).mono ?_; rintro e w7 ⟨rfl, hk7⟩))
    go_ret
    exact ⟨rfl, hk6.trans' hk7⟩
theorem lawrows_any (a q i n z : Int) (b : Bool) (w : World) (hT : Tabs w) (a0 : 0 ≤ a) (a1 : a < 256) (q0 : 0 ≤ q) (q1 : q < 65536) (i0 : 0 ≤ i) (i1 : i < 256) (n0 : 0 ≤ n) (n1 : n < 65536) (z0 : 0 ≤ z) (z1 : z < 256) :
    Calls Tryd.prog 6 #[.agg #[.int .u8 a, .int .u16 q, .int .u8 i, .bool b, .int .u16 n], .int .u8 z] w fun e w' => e = .returned (.bool true) ∧ Kept w w' := by
  have HR := fun W => rowed_any a q i n b W a0 a1 q0 q1 i0 i1 n0 n1
  obtain ⟨hR, hok⟩ := row_ok (a % 15) q i n b (by omega) (by omega) q0 q1 i0 i1 n0 n1
  have hm : z % 6 = 0 ∨ z % 6 = 1 ∨ z % 6 = 2 ∨ z % 6 = 3 ∨ z % 6 = 4 ∨ z % 6 = 5 := by omega
  rcases hm with h | h | h | h | h | h
  · exact lawrows_0 a q i n z _ _ _ _ _ b w hT HR hR hok z0 z1 h
  · exact lawrows_1 a q i n z _ _ _ _ _ b w hT HR hR hok z0 z1 h
  · exact lawrows_2 a q i n z _ _ _ _ _ b w hT HR hR hok z0 z1 h
  · exact lawrows_3 a q i n z _ _ _ _ _ b w hT HR hR hok z0 z1 h
  · exact lawrows_4 a q i n z _ _ _ _ _ b w hT HR hR hok z0 z1 h
  · exact lawrows_5 a q i n z _ _ _ _ _ b w hT HR hR hok z0 z1 h
end Go.Proofs.YtfoeihbajichpaaDoor
