/- The law Items: its parts. -/
import Derived.Test.YtegdigfcgeoboaaChecked
import Derived.Deep.RegionHeld3
import Derived.Deep.DrawnRows
import Derived.Deep.DeepCutAuto
import Derived.Deep.LoopGhost
import Derived.Outline
import Derived.Handy
import Derived.OwnWalk
import Derived.Test.YtegdigfcgeoboaaN3
import Derived.Test.YtegdigfcgeoboaaScK
import Derived.Test.YtegdigfcgeoboaaN2
import Derived.Shelf.Bytes.SlSmallAll
import Derived.Lib.SlBytesRow
import Derived.Laws.MakeOwn
import Derived.Test.YtegdigfcgeoboaaSeK
set_option linter.unusedVariables false
set_option linter.unusedSimpArgs false
set_option linter.unusedSectionVars false
/- The law's wide and written. The item's numbers lie in their kinds. -/
namespace Go.Proofs.Ytegdigfcgeoboaa
open Go.RowKit
attribute [local go_sem ↓] Go.wp_at_zero Go.wp_at_succ

set_option maxRecDepth 100000 in
theorem wide9 (x : It) (hok : x.ok) (w : World) : Calls Try.prog 9 #[itV x] w fun e w' => e = .returned (.bool x.wide) ∧ Kept w w' := by
  obtain ⟨h1, h2, h3, h4⟩ := hok
  unfold u8k at h1 h2
  unfold i64k at h3
  unfold u32k at h4
  unfold itV
  have hW : x.wide = (decide (x.ty ≤ 2) && decide (x.tg ≤ 15) && ((x.size == 0 && x.data == 0) || (x.size == 1 && decide (x.data < 256)) || (x.size == 2 && decide (x.data < 65536)) || x.size == 4)) := rfl
  rw [hW]
  by_cases c1 : 2 < x.ty
  · have e : decide (x.ty ≤ 2) = false := decide_eq_false (by omega)
    rw [e, Bool.false_and, Bool.false_and]
    go_enter Try.func9, Try.ntmps9
    go_wp2_with fail
    go_ret
    exact ⟨rfl, by go_grown⟩
  have e1 : decide (x.ty ≤ 2) = true := decide_eq_true (by omega)
  have c1' : x.ty ≤ 2 := by omega
  rw [e1, Bool.true_and]
  clear e1
  by_cases c2 : 15 < x.tg
  · have e : decide (x.tg ≤ 15) = false := decide_eq_false (by omega)
    rw [e, Bool.false_and]
    go_enter Try.func9, Try.ntmps9
    go_wp2_with fail
    go_ret
    exact ⟨rfl, by go_grown⟩
  have e2 : decide (x.tg ≤ 15) = true := decide_eq_true (by omega)
  have c2' : x.tg ≤ 15 := by omega
  rw [e2, Bool.true_and]
  clear e2
  by_cases s0 : x.size = 0
  · rw [s0]
    have e : ((0 : Int) == 0 && x.data == 0 || (0 : Int) == 1 && decide (x.data < 256) || (0 : Int) == 2 && decide (x.data < 65536) || (0 : Int) == 4) = (x.data == 0) := by simp
    rw [e]
    go_enter Try.func9, Try.ntmps9
    go_wp2_with fail
    go_ret
    exact ⟨rfl, by go_grown⟩
  by_cases s1 : x.size = 1
  · rw [s1]
    have e : ((1 : Int) == 0 && x.data == 0 || (1 : Int) == 1 && decide (x.data < 256) || (1 : Int) == 2 && decide (x.data < 65536) || (1 : Int) == 4) = decide (x.data < 256) := by simp
    rw [e]
    clear s0
    go_enter Try.func9, Try.ntmps9
    go_wp2_with fail
    go_ret
    exact ⟨rfl, by go_grown⟩
  by_cases s2 : x.size = 2
  · rw [s2]
    have e : ((2 : Int) == 0 && x.data == 0 || (2 : Int) == 1 && decide (x.data < 256) || (2 : Int) == 2 && decide (x.data < 65536) || (2 : Int) == 4) = decide (x.data < 65536) := by simp
    rw [e]
    clear s0 s1
    go_enter Try.func9, Try.ntmps9
    go_wp2_with fail
    go_ret
    exact ⟨rfl, by go_grown⟩
  by_cases s4 : x.size = 4
  · rw [s4]
    have e : ((4 : Int) == 0 && x.data == 0 || (4 : Int) == 1 && decide (x.data < 256) || (4 : Int) == 2 && decide (x.data < 65536) || (4 : Int) == 4) = true := by simp
    rw [e]
    clear s0 s1 s2
    go_enter Try.func9, Try.ntmps9
    go_wp2_with fail
    go_ret
    exact ⟨rfl, by go_grown⟩
  · have e : (x.size == 0 && x.data == 0 || x.size == 1 && decide (x.data < 256) || x.size == 2 && decide (x.data < 65536) || x.size == 4) = false := by simp [s0, s1, s2, s4]
    rw [e]
    have t0 : (x.size == 0) = false := by simpa using s0
    have t1 : (x.size == 1) = false := by simpa using s1
    have t2 : (x.size == 2) = false := by simpa using s2
    have t4 : (x.size == 4) = false := by simpa using s4
    clear s0 s1 s2 s4
    go_enter Try.func9, Try.ntmps9
    go_wp2_with fail
    go_ret
    exact ⟨rfl, by go_grown⟩
theorem or_u8 {a b k : Nat} (ha : b < 2 ^ k) (h : a * 2 ^ k + b < 256) : bits .or .u8 ((a * 2 ^ k : Nat) : Int) (b : Int) = ((a * 2 ^ k + b : Nat) : Int) := by
  have h1 := (bits_nat .u8 8 (by decide) (fun n h0 h1 => by rw [IntKind.wrap_u8]; omega) (a * 2 ^ k) b (by omega) (by omega)).2
  rw [h1]
  have := Nat.shiftLeft_add_eq_or_of_lt ha a
  rw [Nat.shiftLeft_eq] at this
  rw [← this]
theorem or_head {t g c : Int} (ht : 0 ≤ t ∧ t ≤ 2) (hg : 0 ≤ g ∧ g ≤ 15) (hc : 0 ≤ c ∧ c ≤ 3) : bits .or .u8 (g * 16) (t * 4) = g * 16 + t * 4 ∧ bits .or .u8 (g * 16 + t * 4) c = g * 16 + t * 4 + c := by
  obtain ⟨a, rfl⟩ := Int.eq_ofNat_of_zero_le ht.1
  obtain ⟨b, rfl⟩ := Int.eq_ofNat_of_zero_le hg.1
  obtain ⟨d, rfl⟩ := Int.eq_ofNat_of_zero_le hc.1
  have h1 := or_u8 (a := b) (b := a * 4) (k := 4) (by omega) (by omega)
  have h2 := or_u8 (a := b * 4 + a) (b := d) (k := 2) (by omega) (by omega)
  refine ⟨?_, ?_⟩
  · have e1 : ((b * 2 ^ 4 : Nat) : Int) = (b : Int) * 16 := by omega
    have e2 : ((a * 4 : Nat) : Int) = (a : Int) * 4 := by omega
    have e3 : ((b * 2 ^ 4 + a * 4 : Nat) : Int) = (b : Int) * 16 + (a : Int) * 4 := by omega
    rw [e1, e2, e3] at h1; exact h1
  · have e1 : (((b * 4 + a) * 2 ^ 2 : Nat) : Int) = (b : Int) * 16 + (a : Int) * 4 := by omega
    have e3 : (((b * 4 + a) * 2 ^ 2 + d : Nat) : Int) = (b : Int) * 16 + (a : Int) * 4 + (d : Int) := by omega
    rw [e1, e3] at h2; exact h2
end Go.Proofs.Ytegdigfcgeoboaa
/- The law's written: the bytes of an item. The item can be written. -/
namespace Go.Proofs.Ytegdigfcgeoboaa
open Go.RowKit
attribute [local go_sem ↓] Go.wp_at_zero Go.wp_at_succ

theorem own_lit1 {w : World} {g base : Nat} {h : Int} (hb : base ≤ g) (hg : w.heap[g]? = some (.cells #[.int .u8 h] 5 (0, 0))) (hh : u8k h) : Own u8T 5 base w (.slice (some ⟨g, 0, none⟩) 1 1) 1 [h] := by
  refine ⟨rfl, [.int .u8 h], ⟨rfl, .inr ⟨g, 1, #[.int .u8 h], rfl, hb, hg, Nat.le_refl _, by decide, rfl, rfl⟩⟩, fun i x hx => ?_⟩
  cases i with
  | zero =>
    obtain rfl : h = x := by simpa using hx
    exact ⟨rfl, hh⟩
  | succ i => simp at hx
def WrittenPost (x : It) (w : World) (e : Ending) (w' : World) : Prop := ∃ A' c', e = .returned (.slice A' x.bytes.length c') ∧ x.bytes.length ≤ c' ∧ c' ≤ maxLen ∧ Sl u8T w' (fun b => w.heap.size ≤ b ∧ b < w'.heap.size) A' x.bytes.length x.bytes ∧ Kept w w'
set_option maxRecDepth 100000 in
set_option maxHeartbeats 4000000 in
theorem written10 (x : It) (hwd : x.wide = true) (hok : x.ok) (w : World) : Calls Try.prog 10 #[itV x] w (WrittenPost x w) := by
  obtain ⟨i5, hi5, hz50, hz51, hz52⟩ := info_parts info5
  have Hok := hide hok
  obtain ⟨q1, q2, q3, q4, q5⟩ := wide_iff hwd hok
  have hdd := data_lt hwd hok
  have d0 := hdd.1
  have d1 := hdd.2.1
  clear hdd
  obtain ⟨o0, o00⟩ := or_head (c := 0) ⟨q1, q2⟩ ⟨q3, q4⟩ (by decide)
  obtain ⟨_, o1⟩ := or_head (c := 1) ⟨q1, q2⟩ ⟨q3, q4⟩ (by decide)
  obtain ⟨_, o2⟩ := or_head (c := 2) ⟨q1, q2⟩ ⟨q3, q4⟩ (by decide)
  obtain ⟨_, o3⟩ := or_head (c := 3) ⟨q1, q2⟩ ⟨q3, q4⟩ (by decide)
  have m1 : IntKind.u8.wrap (x.tg * 16) = x.tg * 16 := by rw [IntKind.wrap_u8]; omega
  have m2 : IntKind.u8.wrap (x.ty * 4) = x.ty * 4 := by rw [IntKind.wrap_u8]; omega
  have r0 : IntKind.u8.wrap x.data = byteI x.data 0 := by rw [IntKind.wrap_u8]; unfold byteI; simp
  have r1 : IntKind.u8.wrap (x.data / 256) = byteI x.data 1 := by rw [IntKind.wrap_u8]; rfl
  have r2 : IntKind.u8.wrap (x.data / 65536) = byteI x.data 2 := by rw [IntKind.wrap_u8]; rfl
  have r3 : IntKind.u8.wrap (x.data / 16777216) = byteI x.data 3 := by rw [IntKind.wrap_u8]; rfl
  clear hok
  unfold itV
  rcases q5 with ⟨e, q⟩ | ⟨e, q⟩ | ⟨e, q⟩ | e
  · clear q
    rw [e]
    go_enter Try.func10, Try.ntmps10
    go_wp2_with fail
    refine wp_at (fun W => W.heap[w.heap.size]? = some (.cells #[.int .u8 x.ty, .int .u8 x.tg, .int .i64 0, .int .u32 x.data] 29 (0, 0)) ∧ W.heap[w.heap.size + 1]? = some (.cells #[.int .u8 (x.tg * 16 + x.ty * 4)] 5 (0, 0)) ∧ Kept w W ∧ w.heap.size + 2 ≤ W.heap.size) ⟨heap_past (heap_at _ rfl), heap_at _ (by simp), by go_grown, by simp⟩ (fun W hW => ?_)
    obtain ⟨HX, HR, hkW, hWz⟩ := hW
    have hown0 : Own u8T 5 (w.heap.size + 1) W (.slice (some ⟨w.heap.size + 1, 0, none⟩) 1 1) 1 [x.tg * 16 + x.ty * 4] := own_lit1 (Nat.le_refl _) HR (by unfold u8k; omega)
    have HX' := hide HX
    have HkW := hide hkW
    have hxl0 := heap_lt HX
    clear HX HR hkW
    go_loopg [4, 5] 0 (fun g s4 s5 wr => ∃ j : Nat, j + g = 0 ∧ s5 = .int .i64 j ∧ Own u8T 5 (w.heap.size + 1) wr s4 (1 + j) ([x.tg * 16 + x.ty * 4] ++ (List.range j).map (byteI x.data)) ∧ Below (w.heap.size + 1) W wr)
    case atStart => exact ⟨0, by omega, rfl, by simpa using hown0, Below.refl _ _⟩
    case round =>
      obtain ⟨j, hj, rfl, hown, hbj⟩ := hrel
      have HXj := heap_below hbj HX'.out (by omega)
      have x2 : wr.cell? ⟨w.heap.size, 2, none⟩ = some (.int .i64 0) := cell_heap HXj (o := 2) rfl
      have hxl := heap_lt HXj
      obtain rfl : j = 0 := by omega
      have hE : x.bytes = [x.tg * 16 + x.ty * 4] ++ (List.range 0).map (byteI x.data) := by rw [bytes_all hwd Hok.out (s := 0) e]; simp [headI, e]
      obtain ⟨A5, c5, rfl, h51, h52⟩ := hown.isSlice
      have hS := hown.sl_of (fun b => w.heap.size ≤ b ∧ b < wr.heap.size) (fun g h1 h2 => ⟨by omega, h2⟩) (fun _ _ h => h)
      have hll := hown.1
      have Hpost := hide (show WrittenPost x w (.returned (.slice A5 (1 + 0) c5)) wr from ⟨A5, c5, by rw [hE, hll], by rw [hE, hll]; exact h51, h52, by rw [hE, hll]; exact hS, HkW.out.trans (hbj.mono (by omega))⟩)
      clear hown hS hll hE h52
      go_wp2_with fail
      go_ret
      exact Hpost.out
  · rw [e]
    go_enter Try.func10, Try.ntmps10
    go_wp2_with fail
    refine wp_at (fun W => W.heap[w.heap.size]? = some (.cells #[.int .u8 x.ty, .int .u8 x.tg, .int .i64 1, .int .u32 x.data] 29 (0, 0)) ∧ W.heap[w.heap.size + 1]? = some (.cells #[.int .u8 (x.tg * 16 + x.ty * 4 + 1)] 5 (0, 0)) ∧ Kept w W ∧ w.heap.size + 2 ≤ W.heap.size) ⟨heap_past (heap_at _ rfl), heap_at _ (by simp), by go_grown, by simp⟩ (fun W hW => ?_)
    obtain ⟨HX, HR, hkW, hWz⟩ := hW
    have hown0 : Own u8T 5 (w.heap.size + 1) W (.slice (some ⟨w.heap.size + 1, 0, none⟩) 1 1) 1 [x.tg * 16 + x.ty * 4 + 1] := own_lit1 (Nat.le_refl _) HR (by unfold u8k; omega)
    have HX' := hide HX
    have HkW := hide hkW
    have hxl0 := heap_lt HX
    clear HX HR hkW
    go_loopg [4, 5] 1 (fun g s4 s5 wr => ∃ j : Nat, j + g = 1 ∧ s5 = .int .i64 j ∧ Own u8T 5 (w.heap.size + 1) wr s4 (1 + j) ([x.tg * 16 + x.ty * 4 + 1] ++ (List.range j).map (byteI x.data)) ∧ Below (w.heap.size + 1) W wr)
    case atStart => exact ⟨0, by omega, rfl, by simpa using hown0, Below.refl _ _⟩
    case round =>
      obtain ⟨j, hj, rfl, hown, hbj⟩ := hrel
      have HXj := heap_below hbj HX'.out (by omega)
      have x2 : wr.cell? ⟨w.heap.size, 2, none⟩ = some (.int .i64 1) := cell_heap HXj (o := 2) rfl
      have x3 : wr.cell? ⟨w.heap.size, 3, none⟩ = some (.int .u32 x.data) := cell_heap HXj (o := 3) rfl
      have hxl := heap_lt HXj
      rcases (by omega : j = 0 ∨ j = 1) with rfl | rfl
      · skip
        skip
        go_wp2_with (at_builtin; refine wpList_append_el (T := u8T) rfl (.tmp 27) (.tmp 34) 23 rfl (w.heap.size + 1) 5 i5 _ 1 Try.underlying23 hi5 hz50 hz51 hz52 rfl (by decide) _ _ _ (by rfl) (hown.alloc _) _ _ _ (byteI x.data 0) (by rfl) (heap_at _ rfl) ⟨rfl, byteI_u8 _ _⟩ (by simp [Value.oneCell']) (by unfold maxLen; omega) (by omega) (by have := hbj.size; simp; omega) ?_; intro g cap w5 hown5 hg5 hb5 hat5 hlt5)
        have hb6 : Below (w.heap.size + 1) W w5 := (hbj.alloc (by have := hbj.size; omega) _).trans hb5
        go_roundg (gk - 1)
        case measure => omega
        case rel => exact ⟨0 + 1, by omega, by go_num, by rw [range_map_snoc]; exact hown5, hb6⟩
      · skip
        have hE : x.bytes = [x.tg * 16 + x.ty * 4 + 1] ++ (List.range 1).map (byteI x.data) := by rw [bytes_all hwd Hok.out (s := 1) e]; simp [headI, e]
        obtain ⟨A5, c5, rfl, h51, h52⟩ := hown.isSlice
        have hS := hown.sl_of (fun b => w.heap.size ≤ b ∧ b < wr.heap.size) (fun g h1 h2 => ⟨by omega, h2⟩) (fun _ _ h => h)
        have hll := hown.1
        have Hpost := hide (show WrittenPost x w (.returned (.slice A5 (1 + 1) c5)) wr from ⟨A5, c5, by rw [hE, hll], by rw [hE, hll]; exact h51, h52, by rw [hE, hll]; exact hS, HkW.out.trans (hbj.mono (by omega))⟩)
        clear hown hS hll hE h52
        go_wp2_with fail
        go_ret
        exact Hpost.out
  · rw [e]
    go_enter Try.func10, Try.ntmps10
    go_wp2_with fail
    refine wp_at (fun W => W.heap[w.heap.size]? = some (.cells #[.int .u8 x.ty, .int .u8 x.tg, .int .i64 2, .int .u32 x.data] 29 (0, 0)) ∧ W.heap[w.heap.size + 1]? = some (.cells #[.int .u8 (x.tg * 16 + x.ty * 4 + 2)] 5 (0, 0)) ∧ Kept w W ∧ w.heap.size + 2 ≤ W.heap.size) ⟨heap_past (heap_at _ rfl), heap_at _ (by simp), by go_grown, by simp⟩ (fun W hW => ?_)
    obtain ⟨HX, HR, hkW, hWz⟩ := hW
    have hown0 : Own u8T 5 (w.heap.size + 1) W (.slice (some ⟨w.heap.size + 1, 0, none⟩) 1 1) 1 [x.tg * 16 + x.ty * 4 + 2] := own_lit1 (Nat.le_refl _) HR (by unfold u8k; omega)
    have HX' := hide HX
    have HkW := hide hkW
    have hxl0 := heap_lt HX
    clear HX HR hkW
    go_loopg [4, 5] 2 (fun g s4 s5 wr => ∃ j : Nat, j + g = 2 ∧ s5 = .int .i64 j ∧ Own u8T 5 (w.heap.size + 1) wr s4 (1 + j) ([x.tg * 16 + x.ty * 4 + 2] ++ (List.range j).map (byteI x.data)) ∧ Below (w.heap.size + 1) W wr)
    case atStart => exact ⟨0, by omega, rfl, by simpa using hown0, Below.refl _ _⟩
    case round =>
      obtain ⟨j, hj, rfl, hown, hbj⟩ := hrel
      have HXj := heap_below hbj HX'.out (by omega)
      have x2 : wr.cell? ⟨w.heap.size, 2, none⟩ = some (.int .i64 2) := cell_heap HXj (o := 2) rfl
      have x3 : wr.cell? ⟨w.heap.size, 3, none⟩ = some (.int .u32 x.data) := cell_heap HXj (o := 3) rfl
      have hxl := heap_lt HXj
      rcases (by omega : j = 0 ∨ j = 1 ∨ j = 2) with rfl | rfl | rfl
      · skip
        skip
        go_wp2_with (at_builtin; refine wpList_append_el (T := u8T) rfl (.tmp 27) (.tmp 34) 23 rfl (w.heap.size + 1) 5 i5 _ 1 Try.underlying23 hi5 hz50 hz51 hz52 rfl (by decide) _ _ _ (by rfl) (hown.alloc _) _ _ _ (byteI x.data 0) (by rfl) (heap_at _ rfl) ⟨rfl, byteI_u8 _ _⟩ (by simp [Value.oneCell']) (by unfold maxLen; omega) (by omega) (by have := hbj.size; simp; omega) ?_; intro g cap w5 hown5 hg5 hb5 hat5 hlt5)
        have hb6 : Below (w.heap.size + 1) W w5 := (hbj.alloc (by have := hbj.size; omega) _).trans hb5
        go_roundg (gk - 1)
        case measure => omega
        case rel => exact ⟨0 + 1, by omega, by go_num, by rw [range_map_snoc]; exact hown5, hb6⟩
      · skip
        skip
        go_wp2_with (at_builtin; refine wpList_append_el (T := u8T) rfl (.tmp 27) (.tmp 34) 23 rfl (w.heap.size + 1) 5 i5 _ 1 Try.underlying23 hi5 hz50 hz51 hz52 rfl (by decide) _ _ _ (by rfl) (hown.alloc _) _ _ _ (byteI x.data 1) (by rfl) (heap_at _ rfl) ⟨rfl, byteI_u8 _ _⟩ (by simp [Value.oneCell']) (by unfold maxLen; omega) (by omega) (by have := hbj.size; simp; omega) ?_; intro g cap w5 hown5 hg5 hb5 hat5 hlt5)
        have hb6 : Below (w.heap.size + 1) W w5 := (hbj.alloc (by have := hbj.size; omega) _).trans hb5
        go_roundg (gk - 1)
        case measure => omega
        case rel => exact ⟨1 + 1, by omega, by go_num, by rw [range_map_snoc]; exact hown5, hb6⟩
      · skip
        have hE : x.bytes = [x.tg * 16 + x.ty * 4 + 2] ++ (List.range 2).map (byteI x.data) := by rw [bytes_all hwd Hok.out (s := 2) e]; simp [headI, e]
        obtain ⟨A5, c5, rfl, h51, h52⟩ := hown.isSlice
        have hS := hown.sl_of (fun b => w.heap.size ≤ b ∧ b < wr.heap.size) (fun g h1 h2 => ⟨by omega, h2⟩) (fun _ _ h => h)
        have hll := hown.1
        have Hpost := hide (show WrittenPost x w (.returned (.slice A5 (1 + 2) c5)) wr from ⟨A5, c5, by rw [hE, hll], by rw [hE, hll]; exact h51, h52, by rw [hE, hll]; exact hS, HkW.out.trans (hbj.mono (by omega))⟩)
        clear hown hS hll hE h52
        go_wp2_with fail
        go_ret
        exact Hpost.out
  · rw [e]
    go_enter Try.func10, Try.ntmps10
    go_wp2_with fail
    refine wp_at (fun W => W.heap[w.heap.size]? = some (.cells #[.int .u8 x.ty, .int .u8 x.tg, .int .i64 4, .int .u32 x.data] 29 (0, 0)) ∧ W.heap[w.heap.size + 1]? = some (.cells #[.int .u8 (x.tg * 16 + x.ty * 4 + 3)] 5 (0, 0)) ∧ Kept w W ∧ w.heap.size + 2 ≤ W.heap.size) ⟨heap_past (heap_at _ rfl), heap_at _ (by simp), by go_grown, by simp⟩ (fun W hW => ?_)
    obtain ⟨HX, HR, hkW, hWz⟩ := hW
    have hown0 : Own u8T 5 (w.heap.size + 1) W (.slice (some ⟨w.heap.size + 1, 0, none⟩) 1 1) 1 [x.tg * 16 + x.ty * 4 + 3] := own_lit1 (Nat.le_refl _) HR (by unfold u8k; omega)
    have HX' := hide HX
    have HkW := hide hkW
    have hxl0 := heap_lt HX
    clear HX HR hkW
    go_loopg [4, 5] 4 (fun g s4 s5 wr => ∃ j : Nat, j + g = 4 ∧ s5 = .int .i64 j ∧ Own u8T 5 (w.heap.size + 1) wr s4 (1 + j) ([x.tg * 16 + x.ty * 4 + 3] ++ (List.range j).map (byteI x.data)) ∧ Below (w.heap.size + 1) W wr)
    case atStart => exact ⟨0, by omega, rfl, by simpa using hown0, Below.refl _ _⟩
    case round =>
      obtain ⟨j, hj, rfl, hown, hbj⟩ := hrel
      have HXj := heap_below hbj HX'.out (by omega)
      have x2 : wr.cell? ⟨w.heap.size, 2, none⟩ = some (.int .i64 4) := cell_heap HXj (o := 2) rfl
      have x3 : wr.cell? ⟨w.heap.size, 3, none⟩ = some (.int .u32 x.data) := cell_heap HXj (o := 3) rfl
      have hxl := heap_lt HXj
      rcases (by omega : j = 0 ∨ j = 1 ∨ j = 2 ∨ j = 3 ∨ j = 4) with rfl | rfl | rfl | rfl | rfl
      · skip
        skip
        go_wp2_with (at_builtin; refine wpList_append_el (T := u8T) rfl (.tmp 27) (.tmp 34) 23 rfl (w.heap.size + 1) 5 i5 _ 1 Try.underlying23 hi5 hz50 hz51 hz52 rfl (by decide) _ _ _ (by rfl) (hown.alloc _) _ _ _ (byteI x.data 0) (by rfl) (heap_at _ rfl) ⟨rfl, byteI_u8 _ _⟩ (by simp [Value.oneCell']) (by unfold maxLen; omega) (by omega) (by have := hbj.size; simp; omega) ?_; intro g cap w5 hown5 hg5 hb5 hat5 hlt5)
        have hb6 : Below (w.heap.size + 1) W w5 := (hbj.alloc (by have := hbj.size; omega) _).trans hb5
        go_roundg (gk - 1)
        case measure => omega
        case rel => exact ⟨0 + 1, by omega, by go_num, by rw [range_map_snoc]; exact hown5, hb6⟩
      · skip
        skip
        go_wp2_with (at_builtin; refine wpList_append_el (T := u8T) rfl (.tmp 27) (.tmp 34) 23 rfl (w.heap.size + 1) 5 i5 _ 1 Try.underlying23 hi5 hz50 hz51 hz52 rfl (by decide) _ _ _ (by rfl) (hown.alloc _) _ _ _ (byteI x.data 1) (by rfl) (heap_at _ rfl) ⟨rfl, byteI_u8 _ _⟩ (by simp [Value.oneCell']) (by unfold maxLen; omega) (by omega) (by have := hbj.size; simp; omega) ?_; intro g cap w5 hown5 hg5 hb5 hat5 hlt5)
        have hb6 : Below (w.heap.size + 1) W w5 := (hbj.alloc (by have := hbj.size; omega) _).trans hb5
        go_roundg (gk - 1)
        case measure => omega
        case rel => exact ⟨1 + 1, by omega, by go_num, by rw [range_map_snoc]; exact hown5, hb6⟩
      · skip
        skip
        go_wp2_with (at_builtin; refine wpList_append_el (T := u8T) rfl (.tmp 27) (.tmp 34) 23 rfl (w.heap.size + 1) 5 i5 _ 1 Try.underlying23 hi5 hz50 hz51 hz52 rfl (by decide) _ _ _ (by rfl) (hown.alloc _) _ _ _ (byteI x.data 2) (by rfl) (heap_at _ rfl) ⟨rfl, byteI_u8 _ _⟩ (by simp [Value.oneCell']) (by unfold maxLen; omega) (by omega) (by have := hbj.size; simp; omega) ?_; intro g cap w5 hown5 hg5 hb5 hat5 hlt5)
        have hb6 : Below (w.heap.size + 1) W w5 := (hbj.alloc (by have := hbj.size; omega) _).trans hb5
        go_roundg (gk - 1)
        case measure => omega
        case rel => exact ⟨2 + 1, by omega, by go_num, by rw [range_map_snoc]; exact hown5, hb6⟩
      · skip
        skip
        go_wp2_with (at_builtin; refine wpList_append_el (T := u8T) rfl (.tmp 27) (.tmp 34) 23 rfl (w.heap.size + 1) 5 i5 _ 1 Try.underlying23 hi5 hz50 hz51 hz52 rfl (by decide) _ _ _ (by rfl) (hown.alloc _) _ _ _ (byteI x.data 3) (by rfl) (heap_at _ rfl) ⟨rfl, byteI_u8 _ _⟩ (by simp [Value.oneCell']) (by unfold maxLen; omega) (by omega) (by have := hbj.size; simp; omega) ?_; intro g cap w5 hown5 hg5 hb5 hat5 hlt5)
        have hb6 : Below (w.heap.size + 1) W w5 := (hbj.alloc (by have := hbj.size; omega) _).trans hb5
        go_roundg (gk - 1)
        case measure => omega
        case rel => exact ⟨3 + 1, by omega, by go_num, by rw [range_map_snoc]; exact hown5, hb6⟩
      · skip
        have hE : x.bytes = [x.tg * 16 + x.ty * 4 + 3] ++ (List.range 4).map (byteI x.data) := by rw [bytes_all hwd Hok.out (s := 4) e]; simp [headI, e]
        obtain ⟨A5, c5, rfl, h51, h52⟩ := hown.isSlice
        have hS := hown.sl_of (fun b => w.heap.size ≤ b ∧ b < wr.heap.size) (fun g h1 h2 => ⟨by omega, h2⟩) (fun _ _ h => h)
        have hll := hown.1
        have Hpost := hide (show WrittenPost x w (.returned (.slice A5 (1 + 4) c5)) wr from ⟨A5, c5, by rw [hE, hll], by rw [hE, hll]; exact h51, h52, by rw [hE, hll]; exact hS, HkW.out.trans (hbj.mono (by omega))⟩)
        clear hown hS hll hE h52
        go_wp2_with fail
        go_ret
        exact Hpost.out
end Go.Proofs.Ytegdigfcgeoboaa
/- Bytes as strings; many items of nothing; how the law reads where the bytes end. No condition. -/
namespace Go.Proofs.Ytegdigfcgeoboaa
open Go.RowKit Go.Lib

def strB (bs : List Int) : ByteArray := ⟨(bs.map (fun n => UInt8.ofNat n.toNat)).toArray⟩
theorem bytes_of_sl {w : World} {F : Nat → Prop} {A : Option Addr} {n : Nat} {l : List Int} (h : Sl u8T w F A n l) (hn : n ≠ 0) : ∃ p o, A = some ⟨p, o, none⟩ ∧ F p ∧ Bytes w p o (strB l) := by
  obtain ⟨x, p, o, cs, hx, rfl, hp, _, _⟩ := h.at (k := 0) (by omega)
  refine ⟨p, o, rfl, hp, fun i hi => ?_⟩
  have hi' : i < l.length := by simpa [ByteArray.size, strB] using hi
  obtain ⟨p', o', cs', e, _, ⟨rfl, hok⟩, hc⟩ := h.2 i l[i] (List.getElem?_eq_getElem hi')
  injection e with e
  injection e with e1 e2 _
  subst e1 e2
  have h2 := hc 0 _ rfl
  simp only [u8T, Ty.flat, Nat.mul_one, Nat.add_zero] at h2
  rw [h2]
  unfold u8k at hok
  have e : ((strB l)[i]'hi) = UInt8.ofNat (l[i]).toNat := by simp [strB, ByteArray.getElem_eq_getElem_data]
  rw [e]
  have : ((UInt8.ofNat (l[i]).toNat).toNat : Int) = l[i] := by rw [UInt8.toNat_ofNat']; omega
  rw [this]
theorem conv_sl {w w' : World} {A : Option Addr} {n : Nat} (c : Nat) {l : List Int} (h : Sl u8T w (low w.heap.size) A n l) (hk : Kept w w') :
    (convert 23 9 (.slice A n c)).run Try.prog w' = .ok (.string (strB l)) w' := by
  by_cases hn : n = 0
  · subst hn
    have hl : l = [] := List.eq_nil_of_length_eq_zero h.1
    subst hl
    exact run_convert_bytes_zero w' 23 5 Try.underlying23 Try.underlying5 A c 9 Try.underlying9
  · obtain ⟨p, o, rfl, hp, hb⟩ := bytes_of_sl h hn
    have hs : (strB l).size = n := by have := h.1; simpa [ByteArray.size, strB] using this
    have hb' : Bytes w' p o (strB l) := fun i hi => (hk.cell (p := ⟨p, o + i, none⟩) hp).trans (hb i hi)
    have := run_convert_whole (P := Try.prog) w' 23 5 9 Try.underlying23 Try.underlying5 Try.underlying9 p o (strB l) hb' c
    rw [hs] at this
    exact this
theorem made_at {Z : Array Value} {N j : Nat} (hj : j < N) {v : Value} (hv : Z[j % Z.size]! = v) : (madeCells Z N)[j]? = some v := by
  unfold madeCells
  rw [Array.getElem?_map, Array.getElem?_range, if_pos hj, ← hv]; rfl
theorem made_u8 {w : World} {g n : Nat} (h : w.heap[g]? = some (.cells (madeCells #[.int .u8 0] n) 5 (0, 0))) : Sl u8T w (low w.heap.size) (some ⟨g, 0, none⟩) n (List.replicate n 0) := by
  refine ⟨List.length_replicate, fun i x hx => ?_⟩
  obtain ⟨hi, e⟩ := List.getElem?_eq_some_iff.1 hx
  rw [List.length_replicate] at hi
  have e0 : x = 0 := by rw [← e]; exact List.getElem_replicate ..
  subst e0
  refine ⟨g, 0, [.int .u8 0], rfl, heap_lt h, ⟨rfl, by unfold u8k; decide⟩, fun j v hv => ?_⟩
  cases j with
  | zero =>
    obtain rfl : v = .int .u8 0 := by simpa using hv.symm
    refine cell_heap h ?_
    rw [show 0 + i * u8T.size + 0 = i by show 0 + i * 1 + 0 = i; omega]
    refine made_at hi ?_
    rw [show i % #[Value.int IntKind.u8 0].size = 0 by show i % 1 = 0; omega]; rfl
  | succ j => simp at hv
theorem made_it {w : World} {g n : Nat} (h : w.heap[g]? = some (.cells (madeCells #[.int .u8 0, .int .u8 0, .int .i64 0, .int .u32 0] (n * 4)) 29 (0, 0))) : Sl itT w (low w.heap.size) (some ⟨g, 0, none⟩) n (List.replicate n ⟨0, 0, 0, 0⟩) := by
  refine ⟨List.length_replicate, fun i x hx => ?_⟩
  obtain ⟨hi, e⟩ := List.getElem?_eq_some_iff.1 hx
  rw [List.length_replicate] at hi
  have e0 : x = ⟨0, 0, 0, 0⟩ := by rw [← e]; exact List.getElem_replicate ..
  subst e0
  refine ⟨g, 0, [.int .u8 0, .int .u8 0, .int .i64 0, .int .u32 0], rfl, heap_lt h, ⟨rfl, by unfold u8k; decide, by unfold u8k; decide, by unfold i64k; decide, by unfold u32k; decide⟩, fun j v hv => cell_heap h ?_⟩
  have hj : j < 4 := by simpa using (List.getElem?_eq_some_iff.1 hv).1
  rw [show 0 + i * itT.size + j = i * 4 + j by show 0 + i * 4 + j = i * 4 + j; omega]
  refine made_at (by omega) ?_
  rw [show (i * 4 + j) % #[Value.int IntKind.u8 0, .int .u8 0, .int .i64 0, .int .u32 0].size = j by show (i * 4 + j) % 4 = j; omega]
  rcases (by omega : j = 0 ∨ j = 1 ∨ j = 2 ∨ j = 3) with rfl | rfl | rfl | rfl <;> (simp at hv; subst hv; rfl)
theorem mk23 (w : World) (n : Nat) (hn : n ≤ 100000) : (Instr.makeSlice 23 (.int .i64 (n : Int)) (.int .i64 (n : Int))).run Try.prog w = .ok (.slice (some ⟨w.heap.size, 0, none⟩) n n) (w.alloc (.cells (madeCells #[.int .u8 0] n) 5)) := by
  obtain ⟨i5, hi5, hz50, hz51, hz52⟩ := info_parts info5
  have h := run_makeSlice w 23 5 i5 (.int .u8 0) Try.underlying23 hi5 hz50 .i64 .i64 (n : Int) (n : Int) (by omega) (Int.le_refl _) (by rw [hz51]; omega) (by rw [hz52]; omega) (by omega)
  rw [hz51, Int.toNat_natCast, Nat.mul_one] at h
  exact h
theorem mk22 (w : World) (n : Nat) (hn : n ≤ 100000) : (Instr.makeSlice 22 (.int .i64 (n : Int)) (.int .i64 (n : Int))).run Try.prog w = .ok (.slice (some ⟨w.heap.size, 0, none⟩) n n) (w.alloc (.cells (madeCells #[.int .u8 0, .int .u8 0, .int .i64 0, .int .u32 0] (n * 4)) 29)) := by
  obtain ⟨i29, hi29, hz0, hz1, hz2⟩ := info_parts info29
  have h := run_makeSlice w 22 29 i29 _ Try.underlying22 hi29 hz0 .i64 .i64 (n : Int) (n : Int) (by omega) (Int.le_refl _) (by rw [hz1]; omega) (by rw [hz2]; omega) (by omega)
  rw [hz1, Int.toNat_natCast] at h
  exact h
/-- bytes 0 -/
theorem items_zero : ∀ n : Nat, items (List.replicate n 0) = List.replicate n ⟨0, 0, 0, 0⟩
  | 0 => rfl
  | n + 1 => by
    rw [List.replicate_succ, items_good (by simp [endsH, sizeH])]
    have e : itemH 0 (List.replicate n 0) = ⟨0, 0, 0, 0⟩ := by simp [itemH, sizeH, numB]
    rw [e, show sizeH 0 = 0 from rfl, List.drop_zero, items_zero n, List.replicate_succ]
theorem itemsE_zero : itemsE (List.replicate 4096 0) = 0 := by
  unfold itemsE goodB
  rw [items_zero, if_neg (by rw [List.length_replicate]; decide), if_pos]
  rw [List.all_eq_true]
  intro x hx
  rw [List.eq_of_mem_replicate hx]; rfl
theorem itemsE_long : itemsE (List.replicate 4097 0) = 3 := by
  unfold itemsE
  rw [if_pos (by rw [List.length_replicate]; decide)]
theorem items_len0 : (items (List.replicate 4096 0)).length = 4096 := by rw [items_zero, List.length_replicate]
theorem join_zero : ∀ n : Nat, (joinB (List.replicate n ⟨0, 0, 0, 0⟩)).length = n
  | 0 => rfl
  | n + 1 => by
    rw [List.replicate_succ]
    show (It.bytes ⟨0, 0, 0, 0⟩ ++ joinB (List.replicate n ⟨0, 0, 0, 0⟩)).length = n + 1
    rw [List.length_append, join_zero n]
    show 1 + n = n + 1
    omega
theorem joinE_zero : joinE (List.replicate 4097 ⟨0, 0, 0, 0⟩) = 3 := by
  unfold joinE
  rw [if_pos, join_zero, if_pos (by decide)]
  rw [List.all_eq_true]
  intro x hx
  rw [List.eq_of_mem_replicate hx]; rfl
/-- the state of the law's reading behind n items: at byte a, good or not -/
def ReadAt (b : List Int) (a n : Nat) (good : Bool) : Prop :=
  if good then a ≤ b.length ∧ goodB b = goodB (b.drop a) ∧ (items b).length = n + (items (b.drop a)).length else goodB b = false
theorem read0 (b : List Int) : ReadAt b 0 0 true := by unfold ReadAt; rw [if_pos rfl]; simp
theorem read_end {b : List Int} {a n : Nat} (h : ReadAt b a n true) (ha : b.length ≤ a) : goodB b = true ∧ (items b).length = n := by
  unfold ReadAt at h
  rw [if_pos rfl] at h
  obtain ⟨h1, h2, h3⟩ := h
  have e : b.drop a = [] := List.drop_eq_nil_of_le ha
  rw [e] at h2 h3
  rw [items_nil] at h3
  exact ⟨h2, by simpa using h3⟩
theorem read_bad {b : List Int} {a n : Nat} (h : ReadAt b a n false) : goodB b = false := by
  unfold ReadAt at h
  rw [if_neg (by simp)] at h
  exact h
theorem read_step {b : List Int} {a n : Nat} {h : Int} (hr : ReadAt b a n true) (hh : b[a]? = some h) (hu : u8k h) :
    ReadAt b (a + 1 + sizeH h) (n + 1) (!(h / 4 % 4 == 3) && decide (a + 1 + sizeH h ≤ b.length)) := by
  unfold ReadAt at hr
  rw [if_pos rfl] at hr
  obtain ⟨h1, h2, h3⟩ := hr
  obtain ⟨ha, e⟩ := List.getElem?_eq_some_iff.1 hh
  have hd : b.drop a = h :: b.drop (a + 1) := by rw [← e]; exact List.drop_eq_getElem_cons ha
  rw [hd] at h2 h3
  cases he : endsH h (b.drop (a + 1)) with
  | true =>
    have hg : (!(h / 4 % 4 == 3) && decide (a + 1 + sizeH h ≤ b.length)) = false := by
      unfold endsH at he
      rw [List.length_drop] at he
      simp only [Bool.or_eq_true, beq_iff_eq, decide_eq_true_eq] at he
      rcases he with h4 | h4
      · rw [h4]; simp
      · simp; intro _; omega
    rw [hg]
    unfold ReadAt
    rw [if_neg (by simp), h2]
    unfold goodB
    rw [items_bad he]
    simp [badI]
  | false =>
    have he' := he
    unfold endsH at he'
    rw [List.length_drop] at he'
    simp only [Bool.or_eq_false_iff, beq_eq_false_iff_ne, decide_eq_false_iff_not] at he'
    have hg : (!(h / 4 % 4 == 3) && decide (a + 1 + sizeH h ≤ b.length)) = true := by
      simp only [Bool.and_eq_true, Bool.not_eq_true', beq_eq_false_iff_ne, decide_eq_true_eq]
      exact ⟨he'.1, by omega⟩
    rw [hg]
    unfold ReadAt
    rw [if_pos rfl]
    rw [items_good he, List.drop_drop] at h3
    have h4 : goodB (h :: b.drop (a + 1)) = goodB (b.drop (a + 1 + sizeH h)) := by
      unfold goodB
      rw [items_good he, List.drop_drop, List.all_cons]
      have : decide (0 ≤ (itemH h (b.drop (a + 1))).size) = true := by
        rw [decide_eq_true_eq]; show (0 : Int) ≤ (sizeH h : Int); omega
      rw [this, Bool.true_and]
    refine ⟨by omega, h2.trans h4, ?_⟩
    rw [h3, List.length_cons]
    omega
end Go.Proofs.Ytegdigfcgeoboaa
