

/- The law of the types: its walk. The library's variables are as the program lays them. -/
import Derived.Test.YtfoeihbajichpaaDoorChecked
import Derived.Deep.RegionHeld3
import Derived.Deep.DrawnRows
import Derived.Deep.DeepCutAuto
import Derived.Deep.LoopGhost
import Derived.Outline
import Derived.Handy
import Derived.OwnWalk
import Derived.Laws.EntriesVeiled
import Derived.Test.YtfoeihbajichpaaDoorSq
set_option linter.unusedVariables false
set_option linter.unusedSimpArgs false
set_option linter.unusedSectionVars false
namespace Go.Proofs.YtfoeihbajichpaaDoor
open Go.RowKit Go.Lib Go.Maps Go.WideShapes
attribute [local go_sem ↓] Go.wp_at_zero Go.wp_at_succ

theorem typeI_parts (b : Bool) {k r : Int} (k0 : 0 ≤ k) (hk : k ≤ 3) (r0 : 0 ≤ r) (hr : r ≤ 31) :
    typeI b k r = (if b then 128 else 0) + 32 * k + r ∧ 0 ≤ typeI b k r ∧ typeI b k r < 256 ∧ decide (128 ≤ typeI b k r) = b ∧ typeI b k r / 32 % 4 = k ∧ typeI b k r % 32 = r := by
  have e : typeI b k r = (if b then 128 else 0) + 32 * k + r := if_neg (by omega)
  rw [e]
  cases b <;> simp <;> omega
set_option maxRecDepth 100000 in
set_option maxHeartbeats 4000000 in
theorem lawtype_bad (b : Bool) (k r t c v x l : Int) (w : World) (hT : Tabs w) (k0 : 0 ≤ k) (k1 : k < 256) (r0 : 0 ≤ r) (r1 : r < 256) (hb : 3 < k ∨ 31 < r) :
    Calls Tryd.prog 3 #[.bool b, .agg #[.int .u8 k, .int .u8 r], .agg #[.int .u8 (t), .int .u8 (c), .int .u16 (v), .int .u16 (x), .int .u16 (l)]] w fun e w' => e = .returned (.bool true) ∧ Kept w w' := by
  have e1 : typeI b k r = 0 := if_pos hb
  have e2 : typeE k r = 1 := if_pos hb
  have HTY := fun W => type_any b k r W k0 r0
  rw [e1, e2] at HTY
  by_cases hk : 3 < k
  · clear hb e1 e2
    go_enter Tryd.func3, Tryd.ntmps3
    go_wp2_with (first
      | (go_at_call 10; refine (HTY _).mono ?_; rintro e w3 ⟨rfl, rfl⟩)
      | (go_at_call 11; refine (lives_any _ ((hT.alloc _).alloc _)).mono ?_; rintro e w4 ⟨rfl, hk4⟩))
    go_ret
    exact ⟨rfl, Kept.trans' (((Below.refl _ _).alloc (Nat.le_refl _) _).alloc (by simp) _) hk4⟩
  · have hr : 31 < r := by omega
    clear hb e1 e2
    go_enter Tryd.func3, Tryd.ntmps3
    go_wp2_with (first
      | (go_at_call 10; refine (HTY _).mono ?_; rintro e w3 ⟨rfl, rfl⟩)
      | (go_at_call 11; refine (lives_any _ ((hT.alloc _).alloc _)).mono ?_; rintro e w4 ⟨rfl, hk4⟩))
    go_ret
    exact ⟨rfl, Kept.trans' (((Below.refl _ _).alloc (Nat.le_refl _) _).alloc (by simp) _) hk4⟩
set_option maxRecDepth 100000 in
set_option maxHeartbeats 4000000 in
theorem lawtype_good (b : Bool) (k r t c v x l : Int) (w : World) (hT : Tabs w) (k0 : 0 ≤ k) (r0 : 0 ≤ r) (hk : k ≤ 3) (hr : r ≤ 31) :
    Calls Tryd.prog 3 #[.bool b, .agg #[.int .u8 k, .int .u8 r], .agg #[.int .u8 (t), .int .u8 (c), .int .u16 (v), .int .u16 (x), .int .u16 (l)]] w fun e w' => e = .returned (.bool true) ∧ Kept w w' := by
  have e2 : typeE k r = 0 := if_neg (by omega)
  have HTY := fun W => type_any b k r W k0 r0
  rw [e2] at HTY
  obtain ⟨p0, p1, p2, p3, p4, p5⟩ := typeI_parts b k0 hk r0 hr
  have HIN := fun W => in_any (typeI b k r) c v x l W p1 p2
  have HKD := fun W => kind_any (typeI b k r) c v x l W p1 p2
  have HRC := fun W => recv_any (typeI b k r) c v x l W p1 p2
  rw [p3] at HIN
  rw [p4] at HKD
  rw [p5] at HRC
  generalize typeI b k r = T at *
  clear e2 p3 p4 p5
  cases b
  · have p0' : T = 32 * k + r := by rw [p0]; simp
    subst p0'
    clear p0
    go_enter Tryd.func3, Tryd.ntmps3
    go_upto_region 10 with (go_at_call 10; refine (HTY _).mono ?_; rintro e w3 ⟨rfl, rfl⟩)
    refine wp_at (fun W => W.heap[w.heap.size]? = some (.cells #[.int .u8 k, .int .u8 r] 22 (0, 0)) ∧ W.heap[w.heap.size + 1]? = some (.cells #[.int .u8 (32 * k + r), .int .u8 c, .int .u16 v, .int .u16 x, .int .u16 l] 25 (0, 0)) ∧ Kept w W) ⟨heap_past (heap_at _ rfl), heap_at _ (by simp), by go_grown⟩ (fun W hW => ?_)
    obtain ⟨HP, HX, hkW⟩ := hW
    have hTW := Lib.hid (hT.kept hkW)
    have z0 := cell_heap HX (o := 0) rfl
    have z1 := cell_heap HX (o := 1) rfl
    have z2 := cell_heap HX (o := 2) rfl
    have z3 := cell_heap HX (o := 3) rfl
    have z4 := cell_heap HX (o := 4) rfl
    have y0 := cell_heap HP (o := 0) rfl
    have y1 := cell_heap HP (o := 1) rfl
    have hxl := heap_lt HX
    have hpl := heap_lt HP
    go_region_held3 (fun w' => (∀ b o, b < W.heap.size → w'.cell? ⟨b, o, none⟩ = W.cell? ⟨b, o, none⟩) ∧ Below W.heap.size W w') (first | assumption | exact since_start | exact since_keep (by assumption) (Nat.le_refl _) hk) (first
      | (go_at_call 12; refine (HIN _).mono ?_; rintro e w5 ⟨rfl, hk⟩; dsimp only)
      | (go_at_call 13; refine (HKD _).mono ?_; rintro e w5 ⟨rfl, hk⟩; dsimp only)
      | (go_at_call 14; refine (HRC _).mono ?_; rintro e w5 ⟨rfl, hk⟩; dsimp only)
      | (go_at_call 11; refine (lives_any _ (hTW.out.kept (Below.mono (by assumption : _ ∧ _).2 (Nat.le_refl _)))).mono ?_; rintro e w5 ⟨rfl, hk⟩; dsimp only))
    all_goals go_wp2
    all_goals go_ret
    all_goals exact ⟨rfl, hkW.trans' (since_kept (Below.refl _ _) (by assumption) (Nat.le_refl _))⟩
  · have p0' : T = 128 + 32 * k + r := by rw [p0]; simp
    subst p0'
    clear p0
    go_enter Tryd.func3, Tryd.ntmps3
    go_upto_region 10 with (go_at_call 10; refine (HTY _).mono ?_; rintro e w3 ⟨rfl, rfl⟩)
    refine wp_at (fun W => W.heap[w.heap.size]? = some (.cells #[.int .u8 k, .int .u8 r] 22 (0, 0)) ∧ W.heap[w.heap.size + 1]? = some (.cells #[.int .u8 (128 + 32 * k + r), .int .u8 c, .int .u16 v, .int .u16 x, .int .u16 l] 25 (0, 0)) ∧ Kept w W) ⟨heap_past (heap_at _ rfl), heap_at _ (by simp), by go_grown⟩ (fun W hW => ?_)
    obtain ⟨HP, HX, hkW⟩ := hW
    have hTW := Lib.hid (hT.kept hkW)
    have z0 := cell_heap HX (o := 0) rfl
    have z1 := cell_heap HX (o := 1) rfl
    have z2 := cell_heap HX (o := 2) rfl
    have z3 := cell_heap HX (o := 3) rfl
    have z4 := cell_heap HX (o := 4) rfl
    have y0 := cell_heap HP (o := 0) rfl
    have y1 := cell_heap HP (o := 1) rfl
    have hxl := heap_lt HX
    have hpl := heap_lt HP
    go_region_held3 (fun w' => (∀ b o, b < W.heap.size → w'.cell? ⟨b, o, none⟩ = W.cell? ⟨b, o, none⟩) ∧ Below W.heap.size W w') (first | assumption | exact since_start | exact since_keep (by assumption) (Nat.le_refl _) hk) (first
      | (go_at_call 12; refine (HIN _).mono ?_; rintro e w5 ⟨rfl, hk⟩; dsimp only)
      | (go_at_call 13; refine (HKD _).mono ?_; rintro e w5 ⟨rfl, hk⟩; dsimp only)
      | (go_at_call 14; refine (HRC _).mono ?_; rintro e w5 ⟨rfl, hk⟩; dsimp only)
      | (go_at_call 11; refine (lives_any _ (hTW.out.kept (Below.mono (by assumption : _ ∧ _).2 (Nat.le_refl _)))).mono ?_; rintro e w5 ⟨rfl, hk⟩; dsimp only))
    all_goals go_wp2
    all_goals go_ret
    all_goals exact ⟨rfl, hkW.trans' (since_kept (Below.refl _ _) (by assumption) (Nat.le_refl _))⟩
theorem lawtype_any (b : Bool) (k r t c v x l : Int) (w : World) (hT : Tabs w) (k0 : 0 ≤ k) (k1 : k < 256) (r0 : 0 ≤ r) (r1 : r < 256) :
    Calls Tryd.prog 3 #[.bool b, .agg #[.int .u8 k, .int .u8 r], .agg #[.int .u8 (t), .int .u8 (c), .int .u16 (v), .int .u16 (x), .int .u16 (l)]] w fun e w' => e = .returned (.bool true) ∧ Kept w w' := by
  by_cases hb : 3 < k ∨ 31 < r
  · exact lawtype_bad b k r t c v x l w hT k0 k1 r0 r1 hb
  · exact lawtype_good b k r t c v x l w hT k0 r0 (by omega) (by omega)
end Go.Proofs.YtfoeihbajichpaaDoor
