
/- A short slice of bytes is sorted (slices.Sort; at most 12 elements); math/bits.Len of a small number. The slice reads as a row. -/
import Derived.Test.YtgkhenplbljbbaaChecked
import Derived.Deep.RegionHeld3
import Derived.Deep.DrawnRows
import Derived.Deep.DeepCutAuto
import Derived.Deep.LoopGhost
import Derived.Outline
import Derived.Handy
import Derived.Deep.RegionLaw
import Derived.BigQuiet
import Derived.OwnWalk
import Derived.Test.YtgkhenplbljbbaaHj
set_option linter.unusedVariables false
set_option linter.unusedSimpArgs false
set_option linter.unusedSectionVars false
namespace Go.Proofs.Ytgkhenplbljbbaa
open Go.RowKit
attribute [local go_sem ↓] Go.wp_at_zero Go.wp_at_succ

/-- a block's first cells are these bytes -/
def RowU (w : World) (g : Nat) (xs : List Int) : Prop := ∃ cs : Array Value, w.heap[g]? = some (.cells cs 5 (0, 0)) ∧ ∀ (i : Nat) (x : Int), xs[i]? = some x → cs[i]? = some (Value.int .u8 x)
theorem RowU.at {w : World} {g : Nat} {xs : List Int} (h : RowU w g xs) {i : Nat} {x : Int} (hx : xs[i]? = some x) : w.cell? ⟨g, i, none⟩ = some (Value.int .u8 x) ∧ w.frozen? ⟨g, i, none⟩ = false := by
  obtain ⟨cs, h1, h2⟩ := h
  exact ⟨cell_heap h1 (h2 i x hx), frozen_heap h1⟩
theorem RowU.lt {w : World} {g : Nat} {xs : List Int} (h : RowU w g xs) : g < w.heap.size := by
  obtain ⟨cs, h1, h2⟩ := h
  exact heap_lt h1
theorem RowU.put {w : World} {g : Nat} {xs : List Int} (h : RowU w g xs) {i : Nat} (hi : i < xs.length) (x : Int) : RowU (w.setCell ⟨g, i, none⟩ (.int .u8 x)) g (xs.set i x) := by
  obtain ⟨cs, h1, h2⟩ := h
  refine ⟨_, heap_store h1 _, fun k y hy => ?_⟩
  rw [List.getElem?_set] at hy
  by_cases hk : i = k
  · subst hk
    rw [if_pos rfl, if_pos hi] at hy
    injection hy with hy
    subst hy
    obtain ⟨h3, _⟩ := Array.getElem?_eq_some_iff.1 (h2 i _ (List.getElem?_eq_getElem hi))
    simp [h3]
  · rw [if_neg hk] at hy
    rw [Array.getElem?_setIfInBounds_ne hk]
    exact h2 k y hy
theorem RowU.drew {w : World} {g : Nat} {xs : List Int} (h : RowU w g xs) : RowU w.drew g xs := by
  obtain ⟨cs, h1, h2⟩ := h
  exact ⟨cs, heap_drew h1, h2⟩
theorem RowU.drewN {w : World} {g : Nat} {xs : List Int} (h : RowU w g xs) (n : Nat) : RowU (w.drewN n) g xs := by
  obtain ⟨cs, h1, h2⟩ := h
  exact ⟨cs, h1, h2⟩
theorem grown_drewN {w w' : World} {row : Option Nat} (h : w.grownBy w' row) (n : Nat) : w.grownBy (w'.drewN n) row := ⟨h.os, h.tape, h.output, h.size, h.block⟩
theorem less63 (x y : Int) (w : World) : Calls Try.prog 63 #[.int .u8 x, .int .u8 y] w fun e w' => e = .returned (.bool (decide (x < y))) ∧ w' = w := by
  have hnan : ∀ z : Int, Calls Try.prog 73 #[.int .u8 z] w fun e w' => e = .returned (.bool false) ∧ w = w' := by
    intro z
    go_enter Try.func73, Try.ntmps73
    go_wp2
    go_ret
    exact ⟨by simp, rfl⟩
  go_enter Try.func63, Try.ntmps63
  go_wp2_with (go_at_call 73; refine (hnan _).mono ?_; rintro e w1 ⟨rfl, rfl⟩)
  go_ret
  exact ⟨by simp, rfl⟩
set_option maxRecDepth 100000 in
set_option maxHeartbeats 4000000 in
theorem ins57 (g n c : Nat) (xs : List Int) (w : World) (hn : n ≤ 12) (hnc : n ≤ c) (hx : xs.length = n) (hr : RowU w g xs) :
    Calls Try.prog 57 #[.slice (some ⟨g, 0, none⟩) n c, .int .i64 0, .int .i64 n] w fun e w' => e = .returned (.tuple #[]) ∧ ∃ ys : List Int, ys.Perm xs ∧ ys.Pairwise (· ≤ ·) ∧ RowU w' g ys ∧ w.grownBy w' (some g) := by
  have Hx := hide hx
  clear hx
  go_enter Try.func57, Try.ntmps57
  go_wp2
  go_loopg [6] n (fun gg s6 wr => ∃ (i : Nat) (ys : List Int), i + gg = n + 1 ∧ 1 ≤ i ∧ s6 = .int .i64 i ∧ ys.Perm xs ∧ (n = 0 ∨ (i ≤ n ∧ Ins ys i i)) ∧ RowU wr g ys ∧ w.grownBy wr (some g))
  case atStart => exact ⟨1, xs, by omega, by omega, rfl, List.Perm.refl _, (by by_cases h : n = 0; exact .inl h; exact .inr ⟨by omega, ins_start xs⟩), hr, grown_self⟩
  case round =>
    obtain ⟨i, ys, hi, hi1, rfl, hp, hins, hrr, hg⟩ := hrel
    have hyl : ys.length = n := hp.length_eq.trans Hx.out
    have Hi := hide hi
    clear hi
    by_cases hlt : i < n
    · have hlt' : (i : Int) < (n : Int) := by omega
      have hn0 : ¬ n = 0 := by omega
      have hins' : Ins ys i i := by rcases hins with h | h; exact absurd h hn0; exact h.2
      have Hins := hide hins'
      have Hp := hide hp
      clear hins hins' hp
      go_wp2_with fail
      obtain ⟨wo, rfl⟩ : ∃ wo : World, wo = wr := ⟨_, rfl⟩
      obtain ⟨go, rfl⟩ : ∃ g : Nat, g = gk := ⟨_, rfl⟩
      go_loopg [7] i (fun gg s7 wr => ∃ (j : Nat) (ys : List Int), j = gg ∧ s7 = .int .i64 j ∧ j ≤ i ∧ ys.Perm xs ∧ Ins ys i j ∧ RowU wr g ys ∧ w.grownBy wr (some g))
      case atStart => exact ⟨i, ys, rfl, rfl, Nat.le_refl _, Hp.out, Hins.out, hrr, hg⟩
      case round =>
        clear Hp Hins hrr hg hyl
        obtain ⟨j, ys, hj, rfl, hji, hp, hins, hrr, hg⟩ := hrel
        have hyl : ys.length = n := hp.length_eq.trans Hx.out
        have Hj := hide hj
        have Hp := hide hp
        have Hins := hide hins
        clear hj hp hins
        by_cases hj0 : j = 0
        · subst hj0
          go_upto_region 4 with (fail)
          go_quiet (fail)
          go_wp2_with fail
          go_roundg (go - 1)
          case measure => have := Hi.out; omega
          case rel => exact ⟨i + 1, ys, by have := Hi.out; omega, by omega, by go_num, Hp.out, .inr ⟨by omega, ins_stop Hins.out (.inl rfl) (by omega) (by omega)⟩, hrr.drewN _, grown_drewN hg _⟩
        · obtain ⟨k, hk⟩ : ∃ k : Nat, j = k + 1 := ⟨j - 1, by omega⟩
          obtain ⟨y, hy⟩ : ∃ y, ys[j]? = some y := ⟨_, List.getElem?_eq_getElem (by omega)⟩
          obtain ⟨x, hx⟩ : ∃ x, ys[k]? = some x := ⟨_, List.getElem?_eq_getElem (by omega)⟩
          obtain ⟨c1, f1⟩ := hrr.at hy
          obtain ⟨c0, f0⟩ := hrr.at hx
          have hgl := hrr.lt
          have hwr : IntKind.i64.wrap ((j : Int) - 1) = (k : Int) := by rw [IntKind.wrap_i64]; omega
          have hj0' : (0 : Int) < (j : Int) := by omega
          have hj0n : 0 < j := by omega
          have hjk : ¬ j = k := by omega
          have hkj : ¬ k = j := by omega
          have hjn : (j : Int) < (n : Int) := by omega
          have hkn : (k : Int) < (n : Int) := by omega
          have hjj : (0 : Int) ≤ (j : Int) := by omega
          have hkk : (0 : Int) ≤ (k : Int) := by omega
          have Hk := hide hk
          have Hx' := hide hx
          have Hy := hide hy
          clear hk hx hy
          go_upto_region 4 with (fail)
          by_cases hyx : y < x
          · go_quiet ((go_at_call 63; exact Calls.quiet_of_same (less63 _ _ _)))
            go_upto_region 6 with (fail)
            go_region
            all_goals
              go_wp2_with fail
              go_roundg (gk - 1)
            case measure => have := Hj.out; omega
            case rel =>
              have hk := Hk.out
              have hsw := swap_perm (by omega) Hy.out (show ys[j - 1]? = some x by rw [show j - 1 = k by omega]; exact Hx'.out)
              have hsi := swap_ins (by omega) hji Hy.out (show ys[j - 1]? = some x by rw [show j - 1 = k by omega]; exact Hx'.out) hyx Hins.out
              have h1 := ((hrr.drewN (nq + 1)).put (i := j) (by omega) x).put (i := k) (by simp; omega) y
              unfold swapL at hsw hsi
              rw [show j - 1 = k by omega] at hsw hsi
              exact ⟨k, _, by have := Hj.out; omega, by go_num, by omega, hsw.trans Hp.out, hsi, h1, grown_at (grown_at (grown_drewN hg _) _ _) _ _⟩
          · have hxy : x ≤ y := by omega
            have hd : decide (y < x) = false := by simpa using hyx
            go_quiet ((go_at_call 63; exact Calls.quiet_of_same (less63 _ _ _)))
            go_wp2_with fail
            go_roundg (go - 1)
            case measure => have := Hi.out; omega
            case rel => exact ⟨i + 1, ys, by have := Hi.out; omega, by omega, by go_num, Hp.out, .inr ⟨by omega, ins_stop Hins.out (.inr (fun a b ha hb => by have h1 := Hk.out; have h2 := Hx'.out; have h3 := Hy.out; subst h1; rw [Nat.add_sub_cancel] at ha; rw [ha] at h2; rw [hb] at h3; injection h2 with h2; injection h3 with h3; omega)) hji (by omega)⟩, hrr.drewN _, grown_drewN hg _⟩
    · have hlt' : (n : Int) ≤ (i : Int) := by omega
      go_wp2_with fail
      go_end0
      refine ⟨rfl, ys, hp, ?_, hrr, hg⟩
      by_cases hn0 : n = 0
      · rw [List.eq_nil_of_length_eq_zero (hyl.trans hn0)]; exact List.Pairwise.nil
      · rcases hins with h | h
        · exact absurd h hn0
        · have h1 : i = n := by have := Hi.out; omega
          rw [h1, ← hyl] at h
          exact ins_sorted h.2
end Go.Proofs.Ytgkhenplbljbbaa
namespace Go.Proofs.Ytgkhenplbljbbaa
open Go.RowKit Go.Maps Go.WideShapes
attribute [local go_sem ↓] Go.wp_at_zero Go.wp_at_succ

set_option maxRecDepth 100000 in
theorem len_small (n : Nat) (hn : n ≤ 12) (w : World) : Calls Try.prog 56 #[.int .u64 n] w fun e w' => ∃ r, e = .returned (.int .i64 r) ∧ w = w' := by
  have h67 : ∀ w : World, Calls Try.prog 67 #[.int .u64 n] w fun e w' => ∃ r, e = .returned (.int .i64 r) ∧ w = w' := by
    intro w
    rcases (by omega : n = 0 ∨ n = 1 ∨ n = 2 ∨ n = 3 ∨ n = 4 ∨ n = 5 ∨ n = 6 ∨ n = 7 ∨ n = 8 ∨ n = 9 ∨ n = 10 ∨ n = 11 ∨ n = 12) with rfl | rfl | rfl | rfl | rfl | rfl | rfl | rfl | rfl | rfl | rfl | rfl | rfl
    all_goals
      go_enter Try.func67, Try.ntmps67
      go_wp2
      go_ret
      exact ⟨_, rfl, rfl⟩
  go_enter Try.func56, Try.ntmps56
  go_wp2_with (go_at_call 67; refine (h67 _).mono ?_; rintro e w1 ⟨r, rfl, rfl⟩)
  go_ret
  exact ⟨r, rfl, rfl⟩
end Go.Proofs.Ytgkhenplbljbbaa
