
/- The walk of DriversScore. The numbers are bytes and words of two bytes. -/
import Derived.Test.YtgkhenplbljbbaaChecked
import Derived.Deep.RegionHeld3
import Derived.Deep.DrawnRows
import Derived.Deep.DeepCutAuto
import Derived.Deep.LoopGhost
import Derived.Outline
import Derived.Handy
import Derived.Test.YtgkhenplbljbbaaWb
import Derived.Test.YtgkhenplbljbbaaWi
namespace Go.Proofs.Ytgkhenplbljbbaa
open Go.RowKit
attribute [local go_sem ↓] Go.wp_at_zero Go.wp_at_succ

theorem heap_set {w : World} {g : Nat} {cs : Array Value} {t : TypeId} (h : w.heap[g]? = some (.cells cs t (0, 0))) (i : Nat) (u : Value) : (w.setCell ⟨g, i, none⟩ u).heap[g]? = some (.cells (cs.setIfInBounds i u) t (0, 0)) := by
  simp [World.setCell, Array.getElem?_modify, h]
theorem heap_set_other {w : World} {g b : Nat} {o : Obj} (h : w.heap[g]? = some o) (hne : g ≠ b) (i : Nat) (u : Value) : (w.setCell ⟨b, i, none⟩ u).heap[g]? = some o := (Below.heap_setCell w ⟨b, i, none⟩ u g hne).trans h
theorem blk_frozen {w : World} {g : Nat} {cs : Array Value} {t : TypeId} (h : w.heap[g]? = some (.cells cs t (0, 0))) (i : Nat) : w.frozen? ⟨g, i, none⟩ = false := by
  simp [World.frozen?, h]

/-- the four variables of the law -/
def Bx (w : World) (u v p c s q i0 i1 i2 i6 z0 z1 : Int) (W : World) (d5 d6 j3 j4 j5 : Int) : Prop :=
  Kept w W ∧ W.heap[w.heap.size]? = some (.cells #[.int .u8 (u), .int .u16 (v), .int .u16 (p), .int .u8 (c), .int .u8 (s), .int .u8 (q)] 43 (0, 0)) ∧
  W.heap[w.heap.size + 1]? = some (.cells #[.int .u8 i0, .int .u8 i1, .int .u8 i2, .int .u8 j3, .int .u8 j4, .int .u8 j5, .int .u8 i6] 46 (0, 0)) ∧
  W.heap[w.heap.size + 1 + 1]? = some (.cells #[.int .u8 z0, .int .u8 z1] 54 (0, 0)) ∧
  W.heap[w.heap.size + 1 + 1 + 1]? = some (.cells #[.int .u16 0, .int .u8 0, .int .u8 0, .int .u8 0, .int .u8 0, .int .u16 d5, .int .u16 d6, .int .u16 0, .int .u8 0, .int .u8 0, .int .u8 0, .int .u8 0] 31 (0, 0))

set_option maxHeartbeats 2000000 in
theorem dscore_walk (u v p c s q i0 i1 i2 i3 i4 i5 i6 z0 z1 : Int) (w : World) (hu : u8ok u) (hz0 : u8ok z0) (hz1 : u8ok z1) :
    Calls Try.prog 4 #[.agg #[.int .u8 (u), .int .u16 (v), .int .u16 (p), .int .u8 (c), .int .u8 (s), .int .u8 (q)], .agg #[.int .u8 i0, .int .u8 i1, .int .u8 i2, .int .u8 i3, .int .u8 i4, .int .u8 i5, .int .u8 i6], .agg #[.int .u8 z0, .int .u8 z1]] w fun e w' => e = .returned (.bool true) ∧ Kept w w' := by
  obtain ⟨hu0, hu1⟩ := hu
  obtain ⟨hz00, hz01⟩ := hz0
  obtain ⟨hz10, hz11⟩ := hz1
  go_enter Try.func4, Try.ntmps4
  go_upto_if 16 with (fail)
  refine wp_at (fun W => Bx w u v p c s q i0 i1 i2 i6 z0 z1 W v p i3 i4 i5) ?_ (fun W hB => ?_)
  · refine ⟨by go_grown, heap_past (heap_past (heap_past (heap_at _ rfl))), heap_past (heap_past (heap_at _ (by simp))), heap_past (heap_at _ (by simp)), heap_at _ (by simp)⟩
  obtain ⟨hkW, h0, h1, h2, h3⟩ := hB
  have H0 := hide h0
  have H1 := hide h1
  have H2 := hide h2
  have H3 := hide h3
  have c0 := fun o => cell_of_row W _ o _ _ _ h0
  have c1 := fun o => cell_of_row W _ o _ _ _ h1
  have c2 := fun o => cell_of_row W _ o _ _ _ h2
  have c3 := fun o => cell_of_row W _ o _ _ _ h3
  have f1 := fun o => blk_frozen h1 o
  have f3 := fun o => blk_frozen h3 o
  clear h0 h1 h2 h3
  go_cut [] (fun wc => ∃ d5 d6 j3 j4 j5 : Int, Bx w u v p c s q i0 i1 i2 i6 z0 z1 wc d5 d6 j3 j4 j5)
  case first =>
    go_wp2
    all_goals
      go_meet
      first
        | exact ⟨_, _, _, _, _, hkW.setCell (by first | (show _ ≤ w.heap.size + 1; omega) | (show _ ≤ w.heap.size + 1 + 1 + 1; omega)) _, heap_set_other H0.out (by omega) _ _, heap_set H1.out _ _, heap_set_other H2.out (by omega) _ _, heap_set_other H3.out (by omega) _ _⟩
        | exact ⟨_, _, _, _, _, hkW.setCell (by first | (show _ ≤ w.heap.size + 1; omega) | (show _ ≤ w.heap.size + 1 + 1 + 1; omega)) _, heap_set_other H0.out (by omega) _ _, heap_set_other H1.out (by omega) _ _, heap_set_other H2.out (by omega) _ _, heap_set H3.out _ _⟩
        | exact ⟨_, _, _, _, _, hkW, H0.out, H1.out, H2.out, H3.out⟩
  case rest =>
    clear c0 c1 c2 c3 f1 f3 H0 H1 H2 H3 hkW
    obtain ⟨d5, d6, j3, j4, j5, hB⟩ := hcut
    obtain ⟨W, rfl⟩ : ∃ W : World, W = wc := ⟨_, rfl⟩
    obtain ⟨hkW, h0, h1, h2, h3⟩ := hB
    have H0 := hide h0
    have H1 := hide h1
    have H2 := hide h2
    have H3 := hide h3
    have c0 := fun o => cell_of_row W _ o _ _ _ h0
    have c1 := fun o => cell_of_row W _ o _ _ _ h1
    have c2 := fun o => cell_of_row W _ o _ _ _ h2
    have c3 := fun o => cell_of_row W _ o _ _ _ h3
    have f1 := fun o => blk_frozen h1 o
    have f3 := fun o => blk_frozen h3 o
    clear h0 h1 h2 h3
    go_upto_if 28 with (fail)
    go_cut [] (fun wc => ∃ d5 d6 j3 j4 j5 : Int, Bx w u v p c s q i0 i1 i2 i6 z0 z1 wc d5 d6 j3 j4 j5)
    case first =>
      go_wp2
      all_goals
        go_meet
        first
          | exact ⟨_, _, _, _, _, hkW.setCell (by first | (show _ ≤ w.heap.size + 1; omega) | (show _ ≤ w.heap.size + 1 + 1 + 1; omega)) _, heap_set_other H0.out (by omega) _ _, heap_set H1.out _ _, heap_set_other H2.out (by omega) _ _, heap_set_other H3.out (by omega) _ _⟩
          | exact ⟨_, _, _, _, _, hkW.setCell (by first | (show _ ≤ w.heap.size + 1; omega) | (show _ ≤ w.heap.size + 1 + 1 + 1; omega)) _, heap_set_other H0.out (by omega) _ _, heap_set_other H1.out (by omega) _ _, heap_set_other H2.out (by omega) _ _, heap_set H3.out _ _⟩
          | exact ⟨_, _, _, _, _, hkW, H0.out, H1.out, H2.out, H3.out⟩
    case rest =>
      clear c0 c1 c2 c3 f1 f3 H0 H1 H2 H3 hkW
      obtain ⟨d5, d6, j3, j4, j5, hB⟩ := hcut
      obtain ⟨W, rfl⟩ : ∃ W : World, W = wc := ⟨_, rfl⟩
      obtain ⟨hkW, h0, h1, h2, h3⟩ := hB
      have H0 := hide h0
      have H1 := hide h1
      have H2 := hide h2
      have H3 := hide h3
      have c0 := fun o => cell_of_row W _ o _ _ _ h0
      have c1 := fun o => cell_of_row W _ o _ _ _ h1
      have c2 := fun o => cell_of_row W _ o _ _ _ h2
      have c3 := fun o => cell_of_row W _ o _ _ _ h3
      have f1 := fun o => blk_frozen h1 o
      have f3 := fun o => blk_frozen h3 o
      clear h0 h1 h2 h3
      go_upto_if 41 with (fail)
      go_cut [] (fun wc => ∃ d5 d6 j3 j4 j5 : Int, Bx w u v p c s q i0 i1 i2 i6 z0 z1 wc d5 d6 j3 j4 j5)
      case first =>
        go_wp2
        all_goals
          go_meet
          first
            | exact ⟨_, _, _, _, _, hkW.setCell (by first | (show _ ≤ w.heap.size + 1; omega) | (show _ ≤ w.heap.size + 1 + 1 + 1; omega)) _, heap_set_other H0.out (by omega) _ _, heap_set H1.out _ _, heap_set_other H2.out (by omega) _ _, heap_set_other H3.out (by omega) _ _⟩
            | exact ⟨_, _, _, _, _, hkW.setCell (by first | (show _ ≤ w.heap.size + 1; omega) | (show _ ≤ w.heap.size + 1 + 1 + 1; omega)) _, heap_set_other H0.out (by omega) _ _, heap_set_other H1.out (by omega) _ _, heap_set_other H2.out (by omega) _ _, heap_set H3.out _ _⟩
            | exact ⟨_, _, _, _, _, hkW, H0.out, H1.out, H2.out, H3.out⟩
      case rest =>
        clear c0 c1 c2 c3 f1 f3 H0 H1 H2 H3 hkW
        obtain ⟨d5, d6, j3, j4, j5, hB⟩ := hcut
        obtain ⟨W, rfl⟩ : ∃ W : World, W = wc := ⟨_, rfl⟩
        obtain ⟨hkW, h0, h1, h2, h3⟩ := hB
        have H0 := hide h0
        have H1 := hide h1
        have H2 := hide h2
        have H3 := hide h3
        have c0 := fun o => cell_of_row W _ o _ _ _ h0
        have c1 := fun o => cell_of_row W _ o _ _ _ h1
        have c2 := fun o => cell_of_row W _ o _ _ _ h2
        have c3 := fun o => cell_of_row W _ o _ _ _ h3
        have f1 := fun o => blk_frozen h1 o
        have f3 := fun o => blk_frozen h3 o
        clear h0 h1 h2 h3
        go_upto_if 49 with (fail)
        go_cut [] (fun wc => ∃ d5 d6 j3 j4 j5 : Int, Bx w u v p c s q i0 i1 i2 i6 z0 z1 wc d5 d6 j3 j4 j5)
        case first =>
          go_wp2
          all_goals
            go_meet
            first
              | exact ⟨_, _, _, _, _, hkW.setCell (by first | (show _ ≤ w.heap.size + 1; omega) | (show _ ≤ w.heap.size + 1 + 1 + 1; omega)) _, heap_set_other H0.out (by omega) _ _, heap_set H1.out _ _, heap_set_other H2.out (by omega) _ _, heap_set_other H3.out (by omega) _ _⟩
              | exact ⟨_, _, _, _, _, hkW.setCell (by first | (show _ ≤ w.heap.size + 1; omega) | (show _ ≤ w.heap.size + 1 + 1 + 1; omega)) _, heap_set_other H0.out (by omega) _ _, heap_set_other H1.out (by omega) _ _, heap_set_other H2.out (by omega) _ _, heap_set H3.out _ _⟩
              | exact ⟨_, _, _, _, _, hkW, H0.out, H1.out, H2.out, H3.out⟩
        case rest =>
          clear c0 c1 c2 c3 f1 f3 H0 H1 H2 H3 hkW
          obtain ⟨d5, d6, j3, j4, j5, hB⟩ := hcut
          obtain ⟨W, rfl⟩ : ∃ W : World, W = wc := ⟨_, rfl⟩
          obtain ⟨hkW, h0, h1, h2, h3⟩ := hB
          have H0 := hide h0
          have H1 := hide h1
          have H2 := hide h2
          have H3 := hide h3
          have c0 := fun o => cell_of_row W _ o _ _ _ h0
          have c1 := fun o => cell_of_row W _ o _ _ _ h1
          have c2 := fun o => cell_of_row W _ o _ _ _ h2
          have c3 := fun o => cell_of_row W _ o _ _ _ h3
          have f1 := fun o => blk_frozen h1 o
          have f3 := fun o => blk_frozen h3 o
          clear h0 h1 h2 h3
          go_upto_if 57 with (fail)
          go_cut [] (fun wc => ∃ d5 d6 j3 j4 j5 : Int, Bx w u v p c s q i0 i1 i2 i6 z0 z1 wc d5 d6 j3 j4 j5)
          case first =>
            go_wp2
            all_goals
              go_meet
              first
                | exact ⟨_, _, _, _, _, hkW.setCell (by first | (show _ ≤ w.heap.size + 1; omega) | (show _ ≤ w.heap.size + 1 + 1 + 1; omega)) _, heap_set_other H0.out (by omega) _ _, heap_set H1.out _ _, heap_set_other H2.out (by omega) _ _, heap_set_other H3.out (by omega) _ _⟩
                | exact ⟨_, _, _, _, _, hkW.setCell (by first | (show _ ≤ w.heap.size + 1; omega) | (show _ ≤ w.heap.size + 1 + 1 + 1; omega)) _, heap_set_other H0.out (by omega) _ _, heap_set_other H1.out (by omega) _ _, heap_set_other H2.out (by omega) _ _, heap_set H3.out _ _⟩
                | exact ⟨_, _, _, _, _, hkW, H0.out, H1.out, H2.out, H3.out⟩
          case rest =>
            clear c0 c1 c2 c3 f1 f3 H0 H1 H2 H3 hkW
            obtain ⟨d5, d6, j3, j4, j5, hB⟩ := hcut
            obtain ⟨W, rfl⟩ : ∃ W : World, W = wc := ⟨_, rfl⟩
            obtain ⟨hkW, h0, h1, h2, h3⟩ := hB
            have H0 := hide h0
            have H1 := hide h1
            have H2 := hide h2
            have H3 := hide h3
            have c0 := fun o => cell_of_row W _ o _ _ _ h0
            have c1 := fun o => cell_of_row W _ o _ _ _ h1
            have c2 := fun o => cell_of_row W _ o _ _ _ h2
            have c3 := fun o => cell_of_row W _ o _ _ _ h3
            have f1 := fun o => blk_frozen h1 o
            have f3 := fun o => blk_frozen h3 o
            clear h0 h1 h2 h3
            have hne : (scoreS u v p c s q d5 d6 j3 j4 j5 == scoreL u v p c s q d5 d6 j3 j4 j5) = true := by rw [score_eq _ _ _ _ _ _ _ _ _ _ _ hu0 hu1]; simp
            have hszW := (Array.getElem?_eq_some_iff.1 H3.out).1
            have hq0 : w.heap.size < W.heap.size := by omega
            have hq1 : w.heap.size + 1 < W.heap.size := by omega
            go_wp2_with fail
            go_region_held3 (fun w' => (∀ b o, b < W.heap.size → w'.cell? ⟨b, o, none⟩ = W.cell? ⟨b, o, none⟩) ∧ Below W.heap.size W w') (first | exact since_start | exact since_keep (by assumption) (Nat.le_refl _) hk) (first
              | (go_at_call 11; refine (score_any _ _ _ _ _ _ _ _ _ _ _ _ _ _ _ _ _ _ _ _ _ _ _ _ _ _ hu0 hu1).mono ?_; rintro e w3 ⟨rfl, hk⟩)
              | (go_at_call 13; refine (scoreL_any _ _ _ _ _ _ _ _ _ _ _ _ _ _ _ _ _ _ _ _ _ _ _ _ _ _ hu0 hu1).mono ?_; rintro e w3 ⟨rfl, hk⟩)
              | (go_at_call 17; refine (lives_any _).mono ?_; rintro e w3 ⟨rfl, hk⟩))
            go_wp2
            go_ret
            exact ⟨rfl, since_kept hkW (by assumption) (Nat.le_refl _)⟩
end Go.Proofs.Ytgkhenplbljbbaa
