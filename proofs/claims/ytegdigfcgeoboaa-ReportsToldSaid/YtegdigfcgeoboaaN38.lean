/- Numbers. -/
import Derived.Test.YtegdigfcgeoboaaChecked
import Derived.Deep.RegionHeld3
import Derived.Deep.DrawnRows
import Derived.Deep.DeepCutAuto
import Derived.Deep.LoopGhost
import Derived.Outline
import Derived.Handy
import Derived.Deep.RegionLaw
import Derived.BigQuiet
import Derived.OwnWalk
import Derived.Deep.DeepMust
import Derived.Test.YtegdigfcgeoboaaN1
import Derived.Test.YtegdigfcgeoboaaMaK
import Derived.Test.YtegdigfcgeoboaaN11
set_option linter.unusedVariables false
set_option linter.unusedSimpArgs false
set_option linter.unusedSectionVars false
/- A short slice of bytes is sorted (slices.Sort; at most 12 elements). Printed by gen_y.py. -/
namespace Go.Proofs.Ytegdigfcgeoboaa
open Go.RowKit
attribute [local go_sem ↓] Go.wp_at_zero Go.wp_at_succ

/-- one step of the sort by insertion: what is known of a list when its element j is yet to go down -/
def Ins (ys : List Int) (i j : Nat) : Prop := ∀ a b x y, a < b → b ≤ i → b ≠ j → ys[a]? = some x → ys[b]? = some y → x ≤ y
def swapL (ys : List Int) (j : Nat) (x y : Int) : List Int := (ys.set j x).set (j - 1) y
theorem swap_perm {ys : List Int} {j : Nat} {x y : Int} (hj : 0 < j) (hy : ys[j]? = some y) (hx : ys[j - 1]? = some x) : (swapL ys j x y).Perm ys := by
  obtain ⟨h1, e1⟩ := List.getElem?_eq_some_iff.1 hy
  obtain ⟨h2, e2⟩ := List.getElem?_eq_some_iff.1 hx
  unfold swapL
  have := List.set_set_perm h1 h2
  rw [e2, e1] at this
  exact this
theorem swap_ins {ys : List Int} {i j : Nat} {x y : Int} (hj : 0 < j) (hji : j ≤ i) (hy : ys[j]? = some y) (hx : ys[j - 1]? = some x) (hlt : y < x) (h : Ins ys i j) : Ins (swapL ys j x y) i (j - 1) := by
  obtain ⟨h1, e1⟩ := List.getElem?_eq_some_iff.1 hy
  obtain ⟨h2, e2⟩ := List.getElem?_eq_some_iff.1 hx
  have hg : ∀ k, (swapL ys j x y)[k]? = if k = j - 1 then some y else if k = j then some x else ys[k]? := by
    intro k
    unfold swapL
    rw [List.getElem?_set, List.getElem?_set]
    by_cases ha : k = j - 1
    · rw [if_pos ha.symm, if_pos ha, if_pos (by simp; omega)]
    · rw [if_neg (fun e => ha e.symm), if_neg ha]
      by_cases hb : k = j
      · rw [if_pos hb.symm, if_pos hb, if_pos h1]
      · rw [if_neg (fun e => hb e.symm), if_neg hb]
  intro a b u v hab hbi hbj hu hv
  rw [hg] at hu hv
  rw [if_neg hbj] at hv
  by_cases hb : b = j
  · rw [if_pos hb] at hv
    injection hv with hv
    subst hv hb
    by_cases ha : a = b - 1
    · rw [if_pos ha] at hu; injection hu with hu; omega
    · rw [if_neg ha, if_neg (by omega)] at hu
      exact h a (b - 1) u x (by omega) (by omega) (by omega) hu hx
  · rw [if_neg hb] at hv
    by_cases ha : a = j - 1
    · rw [if_pos ha] at hu
      injection hu with hu
      subst hu
      exact h j b y v (by omega) hbi hb hy hv
    · rw [if_neg ha] at hu
      by_cases ha2 : a = j
      · rw [if_pos ha2] at hu
        injection hu with hu
        subst hu
        exact h (j - 1) b x v (by omega) hbi hb hx hv
      · rw [if_neg ha2] at hu
        exact h a b u v hab hbi hb hu hv
theorem ins_stop {ys : List Int} {i j : Nat} (h : Ins ys i j) (hs : j = 0 ∨ ∀ x y, ys[j - 1]? = some x → ys[j]? = some y → x ≤ y) (hji : j ≤ i) (hi : i < ys.length) : Ins ys (i + 1) (i + 1) := by
  intro a b x y hab hbi hbn hx hy
  by_cases hb : b = j
  · subst hb
    rcases hs with hs | hs
    · omega
    · by_cases ha : a = b - 1
      · subst ha; exact hs x y hx hy
      · have hb1 : b - 1 < ys.length := by omega
        have h1 := hs _ y (List.getElem?_eq_getElem hb1) hy
        have h2 := h a (b - 1) x _ (by omega) (by omega) (by omega) hx (List.getElem?_eq_getElem hb1)
        omega
  · exact h a b x y hab (by omega) hb hx hy
theorem ins_start (ys : List Int) : Ins ys 1 1 := by
  intro a b x y hab hb hbn _ _
  omega
theorem ins_sorted {ys : List Int} (h : Ins ys ys.length ys.length) : ys.Pairwise (· ≤ ·) := by
  rw [List.pairwise_iff_getElem]
  intro i j hi hj hij
  exact h i j _ _ hij (by omega) (by omega) (List.getElem?_eq_getElem hi) (List.getElem?_eq_getElem hj)
theorem perm_sorted {xs ys : List Int} (h : xs.Perm ys) (hx : xs.Pairwise (· ≤ ·)) (hy : ys.Pairwise (· ≤ ·)) : xs = ys :=
  h.eq_of_pairwise (fun a b _ _ h1 h2 => by omega) hx hy
/-- a block's first cells are these bytes -/
def RowU (w : World) (g : Nat) (xs : List Int) : Prop := ∃ cs : Array Value, w.heap[g]? = some (.cells cs 5 (0, 0)) ∧ ∀ (i : Nat) (x : Int), xs[i]? = some x → cs[i]? = some (Value.int .u8 x)
theorem RowU.at {w : World} {g : Nat} {xs : List Int} (h : RowU w g xs) {i : Nat} {x : Int} (hx : xs[i]? = some x) : w.cell? ⟨g, i, none⟩ = some (Value.int .u8 x) ∧ w.frozen? ⟨g, i, none⟩ = false := by
  obtain ⟨cs, h1, h2⟩ := h
  exact ⟨cell_heap h1 (h2 i x hx), frozen_heap h1⟩
theorem RowU.lt {w : World} {g : Nat} {xs : List Int} (h : RowU w g xs) : g < w.heap.size := by
  obtain ⟨cs, h1, h2⟩ := h
  exact heap_lt h1
theorem RowU.put {w : World} {g : Nat} {xs : List Int} (h : RowU w g xs) {i : Nat} (hi : i < xs.length) (x : Int) : RowU (w.setCell ⟨g, i, none⟩ (.int .u8 x)) g (xs.set i x) := by
  obtain ⟨cs, h1, h2⟩ := h
  refine ⟨_, heap_store h1 _, fun k y hy => ?_⟩
  rw [List.getElem?_set] at hy
  by_cases hk : i = k
  · subst hk
    rw [if_pos rfl, if_pos hi] at hy
    injection hy with hy
    subst hy
    obtain ⟨h3, _⟩ := Array.getElem?_eq_some_iff.1 (h2 i _ (List.getElem?_eq_getElem hi))
    simp [h3]
  · rw [if_neg hk] at hy
    rw [Array.getElem?_setIfInBounds_ne hk]
    exact h2 k y hy
theorem RowU.drew {w : World} {g : Nat} {xs : List Int} (h : RowU w g xs) : RowU w.drew g xs := by
  obtain ⟨cs, h1, h2⟩ := h
  exact ⟨cs, heap_drew h1, h2⟩
theorem RowU.drewN {w : World} {g : Nat} {xs : List Int} (h : RowU w g xs) (n : Nat) : RowU (w.drewN n) g xs := by
  obtain ⟨cs, h1, h2⟩ := h
  exact ⟨cs, h1, h2⟩
theorem grown_drewN {w w' : World} {row : Option Nat} (h : w.grownBy w' row) (n : Nat) : w.grownBy (w'.drewN n) row := ⟨h.os, h.tape, h.output, h.size, h.block⟩
theorem less70 (x y : Int) (w : World) : Calls Try.prog 70 #[.int .u8 x, .int .u8 y] w fun e w' => e = .returned (.bool (decide (x < y))) ∧ w' = w := by
  have hnan : ∀ z : Int, Calls Try.prog 83 #[.int .u8 z] w fun e w' => e = .returned (.bool false) ∧ w = w' := by
    intro z
    go_enter Try.func83, Try.ntmps83
    go_wp2
    go_ret
    exact ⟨by simp, rfl⟩
  go_enter Try.func70, Try.ntmps70
  go_wp2_with (go_at_call 83; refine (hnan _).mono ?_; rintro e w1 ⟨rfl, rfl⟩)
  go_ret
  exact ⟨by simp, rfl⟩
set_option maxRecDepth 100000 in
set_option maxHeartbeats 4000000 in
theorem ins64 (g n c : Nat) (xs : List Int) (w : World) (hn : n ≤ 12) (hnc : n ≤ c) (hx : xs.length = n) (hr : RowU w g xs) :
    Calls Try.prog 64 #[.slice (some ⟨g, 0, none⟩) n c, .int .i64 0, .int .i64 n] w fun e w' => e = .returned (.tuple #[]) ∧ ∃ ys : List Int, ys.Perm xs ∧ ys.Pairwise (· ≤ ·) ∧ RowU w' g ys ∧ w.grownBy w' (some g) := by
  have Hx := hide hx
  clear hx
  go_enter Try.func64, Try.ntmps64
  go_wp2
  go_loopg [6] n (fun gg s6 wr => ∃ (i : Nat) (ys : List Int), i + gg = n + 1 ∧ 1 ≤ i ∧ s6 = .int .i64 i ∧ ys.Perm xs ∧ (n = 0 ∨ (i ≤ n ∧ Ins ys i i)) ∧ RowU wr g ys ∧ w.grownBy wr (some g))
  case atStart => exact ⟨1, xs, by omega, by omega, rfl, List.Perm.refl _, (by by_cases h : n = 0; exact .inl h; exact .inr ⟨by omega, ins_start xs⟩), hr, grown_self⟩
  case round =>
    obtain ⟨i, ys, hi, hi1, rfl, hp, hins, hrr, hg⟩ := hrel
    have hyl : ys.length = n := hp.length_eq.trans Hx.out
    have Hi := hide hi
    clear hi
    by_cases hlt : i < n
    · have hlt' : (i : Int) < (n : Int) := by omega
      have hn0 : ¬ n = 0 := by omega
      have hins' : Ins ys i i := by rcases hins with h | h; exact absurd h hn0; exact h.2
      have Hins := hide hins'
      have Hp := hide hp
      clear hins hins' hp
      go_wp2_with fail
      obtain ⟨wo, rfl⟩ : ∃ wo : World, wo = wr := ⟨_, rfl⟩
      obtain ⟨go, rfl⟩ : ∃ g : Nat, g = gk := ⟨_, rfl⟩
      go_loopg [7] i (fun gg s7 wr => ∃ (j : Nat) (ys : List Int), j = gg ∧ s7 = .int .i64 j ∧ j ≤ i ∧ ys.Perm xs ∧ Ins ys i j ∧ RowU wr g ys ∧ w.grownBy wr (some g))
      case atStart => exact ⟨i, ys, rfl, rfl, Nat.le_refl _, Hp.out, Hins.out, hrr, hg⟩
      case round =>
        clear Hp Hins hrr hg hyl
        obtain ⟨j, ys, hj, rfl, hji, hp, hins, hrr, hg⟩ := hrel
        have hyl : ys.length = n := hp.length_eq.trans Hx.out
        have Hj := hide hj
        have Hp := hide hp
        have Hins := hide hins
        clear hj hp hins
        by_cases hj0 : j = 0
        · subst hj0
          go_upto_region 4 with (fail)
          go_quiet (fail)
          go_wp2_with fail
          go_roundg (go - 1)
          case measure => have := Hi.out; omega
          case rel => exact ⟨i + 1, ys, by have := Hi.out; omega, by omega, by go_num, Hp.out, .inr ⟨by omega, ins_stop Hins.out (.inl rfl) (by omega) (by omega)⟩, hrr.drewN _, grown_drewN hg _⟩
        · obtain ⟨k, hk⟩ : ∃ k : Nat, j = k + 1 := ⟨j - 1, by omega⟩
          obtain ⟨y, hy⟩ : ∃ y, ys[j]? = some y := ⟨_, List.getElem?_eq_getElem (by omega)⟩
          obtain ⟨x, hx⟩ : ∃ x, ys[k]? = some x := ⟨_, List.getElem?_eq_getElem (by omega)⟩
          obtain ⟨c1, f1⟩ := hrr.at hy
          obtain ⟨c0, f0⟩ := hrr.at hx
          have hgl := hrr.lt
          have hwr : IntKind.i64.wrap ((j : Int) - 1) = (k : Int) := by rw [IntKind.wrap_i64]; omega
          have hj0' : (0 : Int) < (j : Int) := by omega
          have hj0n : 0 < j := by omega
          have hjk : ¬ j = k := by omega
          have hkj : ¬ k = j := by omega
          have hjn : (j : Int) < (n : Int) := by omega
          have hkn : (k : Int) < (n : Int) := by omega
          have hjj : (0 : Int) ≤ (j : Int) := by omega
          have hkk : (0 : Int) ≤ (k : Int) := by omega
          have Hk := hide hk
          have Hx' := hide hx
          have Hy := hide hy
          clear hk hx hy
          go_upto_region 4 with (fail)
          by_cases hyx : y < x
          · go_quiet ((go_at_call 70; exact Calls.quiet_of_same (less70 _ _ _)))
            go_upto_region 6 with (fail)
            go_region
            all_goals
              go_wp2_with fail
              go_roundg (gk - 1)
            case measure => have := Hj.out; omega
            case rel =>
              have hk := Hk.out
              have hsw := swap_perm (by omega) Hy.out (show ys[j - 1]? = some x by rw [show j - 1 = k by omega]; exact Hx'.out)
              have hsi := swap_ins (by omega) hji Hy.out (show ys[j - 1]? = some x by rw [show j - 1 = k by omega]; exact Hx'.out) hyx Hins.out
              have h1 := ((hrr.drewN (nq + 1)).put (i := j) (by omega) x).put (i := k) (by simp; omega) y
              unfold swapL at hsw hsi
              rw [show j - 1 = k by omega] at hsw hsi
              exact ⟨k, _, by have := Hj.out; omega, by go_num, by omega, hsw.trans Hp.out, hsi, h1, grown_at (grown_at (grown_drewN hg _) _ _) _ _⟩
          · have hxy : x ≤ y := by omega
            have hd : decide (y < x) = false := by simpa using hyx
            go_quiet ((go_at_call 70; exact Calls.quiet_of_same (less70 _ _ _)))
            go_wp2_with fail
            go_roundg (go - 1)
            case measure => have := Hi.out; omega
            case rel => exact ⟨i + 1, ys, by have := Hi.out; omega, by omega, by go_num, Hp.out, .inr ⟨by omega, ins_stop Hins.out (.inr (fun a b ha hb => by have h1 := Hk.out; have h2 := Hx'.out; have h3 := Hy.out; subst h1; rw [Nat.add_sub_cancel] at ha; rw [ha] at h2; rw [hb] at h3; injection h2 with h2; injection h3 with h3; omega)) hji (by omega)⟩, hrr.drewN _, grown_drewN hg _⟩
    · have hlt' : (n : Int) ≤ (i : Int) := by omega
      go_wp2_with fail
      go_end0
      refine ⟨rfl, ys, hp, ?_, hrr, hg⟩
      by_cases hn0 : n = 0
      · rw [List.eq_nil_of_length_eq_zero (hyl.trans hn0)]; exact List.Pairwise.nil
      · rcases hins with h | h
        · exact absurd h hn0
        · have h1 : i = n := by have := Hi.out; omega
          rw [h1, ← hyl] at h
          exact ins_sorted h.2
set_option maxRecDepth 100000 in
theorem len_small (n : Nat) (hn : n ≤ 12) (w : World) : Calls Try.prog 59 #[.int .u64 n] w fun e w' => ∃ r, e = .returned (.int .i64 r) ∧ w = w' := by
  have h67 : ∀ w : World, Calls Try.prog 74 #[.int .u64 n] w fun e w' => ∃ r, e = .returned (.int .i64 r) ∧ w = w' := by
    intro w
    rcases (by omega : n = 0 ∨ n = 1 ∨ n = 2 ∨ n = 3 ∨ n = 4 ∨ n = 5 ∨ n = 6 ∨ n = 7 ∨ n = 8 ∨ n = 9 ∨ n = 10 ∨ n = 11 ∨ n = 12) with rfl | rfl | rfl | rfl | rfl | rfl | rfl | rfl | rfl | rfl | rfl | rfl | rfl
    all_goals
      go_enter Try.func74, Try.ntmps74
      go_wp2
      go_ret
      exact ⟨_, rfl, rfl⟩
  go_enter Try.func59, Try.ntmps59
  go_wp2_with (go_at_call 74; refine (h67 _).mono ?_; rintro e w1 ⟨r, rfl, rfl⟩)
  go_ret
  exact ⟨r, rfl, rfl⟩
set_option maxRecDepth 100000 in
theorem pdq58 (g n c : Nat) (r : Int) (xs : List Int) (w : World) (hn : n ≤ 12) (hnc : n ≤ c) (hx : xs.length = n) (hr : RowU w g xs) :
    Calls Try.prog 58 #[.slice (some ⟨g, 0, none⟩) n c, .int .i64 0, .int .i64 n, .int .i64 r] w fun e w' => e = .returned (.tuple #[]) ∧ ∃ ys : List Int, ys.Perm xs ∧ ys.Pairwise (· ≤ ·) ∧ RowU w' g ys ∧ w.grownBy w' (some g) := by
  have h := ins64 g n c xs w hn hnc hx hr
  have hn' : (n : Int) ≤ 12 := by omega
  clear hr hx
  go_enter Try.func58, Try.ntmps58
  go_wp2_with fail
  go_loopg [1, 2] 0 (fun g s1 s2 wr => s1 = .int .i64 0 ∧ s2 = .int .i64 n ∧ w = wr)
  case atStart => exact ⟨rfl, rfl, rfl⟩
  case round =>
    obtain ⟨rfl, rfl, rfl⟩ := hrel
    go_wp2_with (go_at_call 64; refine h.mono ?_; rintro e w1 ⟨rfl, ys, h1, h2, h3, h4⟩)
    refine bodyPost_ret (results_none rfl _ _ _) rfl ?_
    exact ⟨rfl, ys, h1, h2, h3, h4⟩
set_option maxRecDepth 100000 in
theorem sort35 (g n c : Nat) (xs : List Int) (w : World) (hn : n ≤ 12) (hnc : n ≤ c) (hx : xs.length = n) (hr : RowU w g xs) :
    Calls Try.prog 35 #[.slice (some ⟨g, 0, none⟩) n c] w fun e w' => e = .returned (.tuple #[]) ∧ ∃ ys : List Int, ys.Perm xs ∧ ys.Pairwise (· ≤ ·) ∧ RowU w' g ys ∧ w.grownBy w' (some g) := by
  have h := fun r => pdq58 g n c r xs w hn hnc hx hr
  clear hr hx
  go_enter Try.func35, Try.ntmps35
  go_wp2_with (first
    | (go_at_call 59; refine (len_small n hn _).mono ?_; rintro e w1 ⟨r, rfl, rfl⟩)
    | (go_at_call 58; refine (h _).mono ?_; rintro e w2 ⟨rfl, ys, h1, h2, h3, h4⟩))
  go_end0
  exact ⟨rfl, ys, h1, h2, h3, h4⟩
set_option maxRecDepth 100000 in
theorem sort35_none (w : World) : Calls Try.prog 35 #[.slice none 0 0] w fun e w' => e = .returned (.tuple #[]) ∧ w = w' := by
  have hi : Calls Try.prog 64 #[.slice none 0 0, .int .i64 0, .int .i64 0] w fun e w' => e = .returned (.tuple #[]) ∧ w = w' := by
    go_enter Try.func64, Try.ntmps64
    go_wp2_with fail
    go_loopg [6] 0 (fun g s6 wr => s6 = .int .i64 1 ∧ w = wr)
    case atStart => exact ⟨rfl, rfl⟩
    case round =>
      obtain ⟨rfl, rfl⟩ := hrel
      go_wp2_with fail
      go_end0
      exact ⟨rfl, rfl⟩
  have hp : ∀ r : Int, Calls Try.prog 58 #[.slice none 0 0, .int .i64 0, .int .i64 0, .int .i64 r] w fun e w' => e = .returned (.tuple #[]) ∧ w = w' := by
    intro r
    go_enter Try.func58, Try.ntmps58
    go_wp2_with fail
    go_loopg [1, 2] 0 (fun g s1 s2 wr => s1 = .int .i64 0 ∧ s2 = .int .i64 0 ∧ w = wr)
    case atStart => exact ⟨rfl, rfl, rfl⟩
    case round =>
      obtain ⟨rfl, rfl, rfl⟩ := hrel
      go_wp2_with (go_at_call 64; refine hi.mono ?_; rintro e w1 ⟨rfl, rfl⟩)
      refine bodyPost_ret (results_none rfl _ _ _) rfl ?_
      exact ⟨rfl, rfl⟩
  go_enter Try.func35, Try.ntmps35
  go_wp2_with (first
    | (go_at_call 59; refine (len_small 0 (by decide) _).mono ?_; rintro e w1 ⟨r, rfl, rfl⟩)
    | (go_at_call 58; refine (hp _).mono ?_; rintro e w2 ⟨rfl, rfl⟩))
  go_end0
  exact ⟨rfl, rfl⟩
end Go.Proofs.Ytegdigfcgeoboaa
/- slices.Contains over bytes. Printed by gen_y.py. -/
namespace Go.Proofs.Ytegdigfcgeoboaa
open Go.RowKit
attribute [local go_sem ↓] Go.wp_at_zero Go.wp_at_succ

set_option maxRecDepth 100000 in
theorem index57 (A : Option Addr) (n c : Nat) (l : List Int) (u : Int) (w : World) (hn : n ≤ maxLen) (hl : Sl u8T w (low w.heap.size) A n l) :
    Calls Try.prog 57 #[.slice A n c, .int .u8 u] w fun e w' => (∃ i, e = .returned (.int .i64 i) ∧ IdxIs l u i) ∧ w = w' := by
  unfold maxLen at hn
  go_enter Try.func57, Try.ntmps57
  go_wp2_with fail
  go_loopg [8] n (fun g s8 wr => ∃ i : Nat, i + g = n ∧ s8 = .int .i64 i ∧ wr = w ∧ ∀ j, j < i → l[j]? ≠ some u)
  case atStart => exact ⟨0, by omega, rfl, rfl, fun j hj => by omega⟩
  case round =>
    obtain ⟨i, hi, rfl, rfl, hno⟩ := hrel
    have Hno := hide hno
    have Hi := hide hi
    clear hno hi
    by_cases hlt : i < n
    · obtain ⟨x, b, off, cs, hx, rfl, hbb, ⟨rfl, _⟩, hcs⟩ := hl.at hlt
      have x0 : wr.cell? ⟨b, off + i, none⟩ = some (.int .u8 x) := by have := hcs 0 _ rfl; simpa [u8T, Ty.flat] using this
      have hbl : b < wr.heap.size := hbb
      have hi0 : (0 : Int) ≤ (i : Int) := by omega
      have hlt' : (i : Int) < (n : Int) := by omega
      have Hx := hide hx
      clear hx hcs
      by_cases he : u = x
      · subst he
        go_wp2_with fail
        go_ret
        exact ⟨⟨i, rfl, .inl ⟨i, rfl, Hx.out, Hno.out⟩⟩, rfl⟩
      · have he1 : (u == x) = false := by simpa using he
        go_wp2_with fail
        go_roundg (gk - 1)
        case measure => have := Hi.out; omega
        case rel =>
          refine ⟨i + 1, by have := Hi.out; omega, by go_num, rfl, fun j hj => ?_⟩
          by_cases e : j = i
          · subst e
            rw [Hx.out]
            intro h
            exact he (by injection h with h; exact h.symm)
          · exact Hno.out j (by omega)
    · have hge : (n : Int) ≤ (i : Int) := by omega
      go_wp2_with fail
      go_ret
      refine ⟨⟨-1, rfl, .inr ⟨rfl, fun hm => ?_⟩⟩, rfl⟩
      obtain ⟨j, hj, e⟩ := List.getElem_of_mem hm
      have hln := hl.1
      have hii := Hi.out
      exact Hno.out j (by omega) (by rw [List.getElem?_eq_getElem hj, e])
set_option maxRecDepth 100000 in
theorem contains34 (A : Option Addr) (n c : Nat) (l : List Int) (u : Int) (w : World) (hn : n ≤ maxLen) (hl : Sl u8T w (low w.heap.size) A n l) :
    Calls Try.prog 34 #[.slice A n c, .int .u8 u] w fun e w' => e = .returned (.bool (decide (u ∈ l))) ∧ w = w' := by
  have h := index57 A n c l u w hn hl
  have hd : ∀ i, IdxIs l u i → decide (0 ≤ i) = decide (u ∈ l) := by
    rintro i (⟨k, rfl, hk, _⟩ | ⟨rfl, h2⟩)
    · rw [decide_eq_true (by omega : (0 : Int) ≤ (k : Int)), decide_eq_true (List.mem_of_getElem? hk)]
    · rw [decide_eq_false h2]; rfl
  go_enter Try.func34, Try.ntmps34
  go_wp2_with (go_at_call 57; refine h.mono ?_; rintro e w1 ⟨⟨i, rfl, hi⟩, rfl⟩; have hd2 := hd i hi)
  go_ret
  exact ⟨by rw [← hd2]; rfl, rfl⟩
end Go.Proofs.Ytegdigfcgeoboaa
/- Numbers. Printed by gen_y.py. -/
namespace Go.Proofs.Ytegdigfcgeoboaa
open Go.RowKit
attribute [local go_sem ↓] Go.wp_at_zero Go.wp_at_succ

theorem nodup_filter (d : Int) : ∀ L : List Int, L.Nodup → L.length ≤ (L.filter (· != d)).length + 1
  | [], _ => by simp
  | a :: l, h => by
    by_cases e : a = d
    · subst e
      have : l.filter (· != a) = l := List.filter_eq_self.2 (fun x hx => by
        simp only [bne_iff_ne, ne_eq]
        rintro rfl
        exact (List.nodup_cons.1 h).1 hx)
      simp [this]
    · have := nodup_filter d l (List.nodup_cons.1 h).2
      simp [e]
      omega
theorem nodup_le : ∀ D L : List Int, L.Nodup → (∀ x ∈ L, x ∈ D) → L.length ≤ D.length
  | [], L, _, h => by
    cases L with
    | nil => simp
    | cons a l => exact absurd (h a List.mem_cons_self) (by simp)
  | d :: D, L, hn, h => by
    have h1 := nodup_le D (L.filter (· != d)) (hn.filter _) (fun x hx => by
      simp only [List.mem_filter, bne_iff_ne, ne_eq] at hx
      rcases List.mem_cons.1 (h x hx.1) with e | e
      · exact absurd e hx.2
      · exact e)
    have h2 := nodup_filter d L hn
    simp only [List.length_cons]
    omega
/-- the numbers of the reports of a kind, in order -/
def NumsIs (l : List Fd) (k : Int) (L : List Int) : Prop := L.Pairwise (· < ·) ∧ ∀ r, r ∈ L ↔ ∃ f ∈ l, f.kind = k ∧ f.report = r
theorem sorted_lt {L ys : List Int} (hn : L.Nodup) (hp : ys.Perm L) (hs : ys.Pairwise (· ≤ ·)) : ys.Pairwise (· < ·) := by
  have h2 : ys.Nodup := (hp.nodup_iff).2 hn
  exact (hs.and h2).imp (fun ⟨a, b⟩ => by omega)
theorem row_of_own {w : World} {base n : Nat} {v : Value} {xs : List Int} (h : Own u8T 5 base w v n xs) : (v = .slice none 0 0 ∧ n = 0) ∨ ∃ g cap, v = .slice (some ⟨g, 0, none⟩) n cap ∧ base ≤ g ∧ n ≤ cap ∧ cap ≤ maxLen ∧ RowU w g xs := by
  obtain ⟨hl, cells, ⟨hc, h | ⟨g, cap, cur, e, hg, hh, hnc, hcm, hsz, htk⟩⟩, hr⟩ := h
  · exact .inl h
  · refine .inr ⟨g, cap, e, hg, hnc, hcm, cur, hh, fun i x hx => ?_⟩
    obtain ⟨hi, e1⟩ := List.getElem?_eq_some_iff.1 hx
    obtain ⟨h1, _⟩ := hr i x hx
    have h2 : ((cells.drop (i * 1)).take 1)[0]? = some (.int .u8 x) := by
      have : (cells.drop (i * u8T.size)).take u8T.size = [.int .u8 x] := h1
      have e9 : u8T.size = 1 := rfl
      rw [e9] at this
      rw [this]; rfl
    rw [List.getElem?_take, if_pos (by omega), List.getElem?_drop, Nat.mul_one, Nat.add_zero, ← htk, List.getElem?_take] at h2
    split at h2
    · simpa using h2
    · cases h2
theorem RowU.sl8 {w : World} {g n : Nat} {xs : List Int} (h : RowU w g xs) (hn : xs.length = n) (hok : ∀ x ∈ xs, u8k x) : Sl u8T w (low w.heap.size) (some ⟨g, 0, none⟩) n xs :=
  ⟨hn, fun i x hx => ⟨g, 0, [.int .u8 x], rfl, h.lt, ⟨rfl, hok x (List.mem_of_getElem? hx)⟩, fun k v hv => by
    have e9 : u8T.size = 1 := rfl
    rw [e9, Nat.mul_one, Nat.zero_add]
    have h1 := (h.at hx).1
    cases k with
    | zero => simp at hv; subst hv; simpa using h1
    | succ k => simp at hv⟩⟩
theorem kept_row8 {w w1 w2 : World} {g : Nat} (h : Kept w w1) (hg : w1.grownBy w2 (some g)) (hb : w.heap.size ≤ g) : Kept w w2 :=
  ⟨hg.os.trans h.os, hg.tape.trans h.tape, hg.output.trans h.output, Nat.le_trans h.size hg.size, fun k hk => (hg.block k (Nat.lt_of_lt_of_le hk h.size) (fun e => by injection e with e; omega)).trans (h.block k hk)⟩
set_option maxRecDepth 100000 in
set_option maxHeartbeats 8000000 in
theorem numbers20 (A C : Option Addr) (n c nc cc : Nat) (nb : Bool) (l : List Fd) (k : Int) (w : World) (hn3 : n ≤ 300) (hrep : ∀ f ∈ l, 0 ≤ f.report ∧ f.report ≤ 3) (hl : Sl fdM w (low w.heap.size) A n l) :
    Calls Try.prog 20 #[.agg #[.slice A n c, .slice C nc cc, .bool nb], .int .u8 k] w fun e w' => (∃ A' L, e = .returned (.slice A' L.length L.length) ∧ NumsIs l k L ∧ Sl u8T w' (low w'.heap.size) A' L.length L) ∧ Kept w w' := by
  have hn := hl.1
  obtain ⟨i5, hi5, hz0, hz1, hz2⟩ := info_parts info5
  have Hrep := hide hrep
  have Hn := hide hn
  have Hl := hide hl
  clear hn hrep hl
  go_enter Try.func20, Try.ntmps20
  go_wp2_with fail
  refine wp_at (fun W => W.heap[w.heap.size]? = some (.cells #[.slice A n c, .slice C nc cc, .bool nb] 40 (0, 0)) ∧ Kept w W) ⟨heap_at _ rfl, by go_grown⟩ (fun W hW => ?_)
  obtain ⟨hB, hkW⟩ := hW
  have HB := hide hB
  have HkW := hide hkW
  clear hB hkW
  go_loopg [5, 11] n (fun g s5 s11 wr => ∃ (i : Nat) (v : Value) (L : List Int), i + g = n ∧ s11 = .int .i64 i ∧ s5 = v ∧ Kept w wr ∧ Own u8T 5 w.heap.size wr v L.length L ∧ L.Nodup ∧ (∀ r, r ∈ L ↔ ∃ f ∈ l.take i, f.kind = k ∧ f.report = r))
  case atStart => exact ⟨0, .slice none 0 0, [], by omega, rfl, rfl, HkW.out, Own.nil _ _ _ _, List.nodup_nil, fun r => by simp⟩
  case round =>
    obtain ⟨i, v, L, hi, rfl, hv5, hk, hown, hnd, hmem⟩ := hrel
    replace hv5 := hv5.symm
    subst hv5
    obtain ⟨m, hm⟩ : ∃ m, L.length = m := ⟨_, rfl⟩
    rw [hm] at hown
    have hsub : ∀ x ∈ L, x ∈ [(0 : Int), 1, 2, 3] := fun x hx => by
      obtain ⟨f, hf, _, rfl⟩ := (hmem x).1 hx
      have := Hrep.out f (List.mem_of_mem_take hf)
      simp only [List.mem_cons, List.not_mem_nil, or_false]
      omega
    have hm4 : m ≤ 4 := by rw [← hm]; exact nodup_le _ _ hnd hsub
    have hk8 : ∀ x ∈ L, u8k x := fun x hx => by
      have := hsub x hx
      simp only [List.mem_cons, List.not_mem_nil, or_false] at this
      unfold u8k; omega
    have Hi := hide hi
    have Hnd := hide hnd
    have Hmem := hide hmem
    have Hm := hide hm
    have Hk8 := hide hk8
    have Hk := hide hk
    have Hown := hide hown
    clear hi hnd hmem hm hsub hk8 hown
    by_cases hlt : i < n
    · obtain ⟨f, b, off, cs, hf, rfl, hbb, ⟨A', c', rfl, hul, _⟩, hcs⟩ := (Hl.out.kept hk).at hlt
      have hcs' : ∀ (j : Nat) v, (f.cellsC A' c')[j]? = some v → wr.cell? ⟨b, off + i * 13 + j, none⟩ = some v := fun j v h => hcs j v h
      have x0 : wr.cell? ⟨b, off + i * 13, none⟩ = _ := hcs' 0 _ rfl
      have x1 := hcs' 1 _ rfl
      have x2 := hcs' 2 _ rfl
      have x3 := hcs' 3 _ rfl
      have x4 := hcs' 4 _ rfl
      have x5 := hcs' 5 _ rfl
      have x6 := hcs' 6 _ rfl
      have x7 := hcs' 7 _ rfl
      have x8 := hcs' 8 _ rfl
      have x9 := hcs' 9 _ rfl
      have x10 := hcs' 10 _ rfl
      have x11 := hcs' 11 _ rfl
      have x12 := hcs' 12 _ rfl
      have hbl : b < wr.heap.size := hbb
      have hi0 : (0 : Int) ≤ (i : Int) := by omega
      have hlt' : (i : Int) < (n : Int) := by omega
      obtain ⟨r0, r1⟩ := Hrep.out f (List.mem_of_getElem? hf)
      have hsn : l.take (i + 1) = l.take i ++ [f] := by
        obtain ⟨h1, h2⟩ := List.getElem?_eq_some_iff.1 hf
        rw [List.take_succ_eq_append_getElem h1, h2]
      obtain ⟨Av, cv, rfl, hv1, hv2⟩ := Hown.out.isSlice
      have hcon : ∀ w2, Kept wr w2 → Calls Try.prog 34 #[.slice Av m cv, .int .u8 f.report] w2 fun e w' => e = .returned (.bool (decide (f.report ∈ L))) ∧ w2 = w' := fun w2 hk2 => contains34 Av m cv L f.report w2 (by unfold maxLen; omega) ((Hown.out.kept hk2).sl)
      have hkz := hk.size
      have Hsn := hide hsn
      clear hcs hcs' hf hsn hk
      by_cases c1 : f.kind = k
      · have d1 : (f.kind == k) = true := by simpa using c1
        by_cases c2 : f.report ∈ L
        · have d2 : decide (f.report ∈ L) = true := decide_eq_true c2
          have C := hide (show f.kind = k ∧ f.report ∈ L from ⟨c1, c2⟩)
          clear c1 c2
          go_wp2_with (go_at_call 34; refine (hcon _ (by go_grown)).mono ?_; rintro e w1 ⟨rfl, rfl⟩)
          go_roundg (gk - 1)
          case measure => have := Hi.out; omega
          case rel =>
            refine ⟨i + 1, _, L, by have := Hi.out; omega, by go_num, rfl, Hk.out.trans' (by go_grown), by rw [Hm.out]; exact Hown.out.kept (by go_grown), Hnd.out, fun r => ?_⟩
            rw [Hmem.out r, Hsn.out]
            simp only [List.mem_append, List.mem_cons, List.not_mem_nil, or_false]
            refine ⟨fun ⟨g, h1, h2⟩ => ⟨g, .inl h1, h2⟩, fun ⟨g, h1, h2⟩ => ?_⟩
            rcases h1 with h1 | rfl
            · exact ⟨g, h1, h2⟩
            · exact (Hmem.out r).1 (h2.2 ▸ C.out.2)
        · have d2 : decide (f.report ∈ L) = false := decide_eq_false c2
          have C := hide (show f.kind = k ∧ ¬ f.report ∈ L from ⟨c1, c2⟩)
          clear c1 c2
          go_wp2_with (first
            | (go_at_call 34; refine (hcon _ (by go_grown)).mono ?_; rintro e w1 ⟨rfl, rfl⟩)
            | (at_builtin; go_must (refine wpList_append_el (T := u8T) rfl (.tmp 26) (.tmp 29) 23 rfl w.heap.size 5 i5 _ 1 Try.underlying23 hi5 hz0 hz1 hz2 rfl (show 0 < 1 by decide) _ m L (by rfl) (Hown.out.kept (by go_grown)) (wr.heap.size + 1) _ _ f.report (by rfl) (heap_at _ (by simp)) ⟨rfl, by unfold u8k; omega⟩ (by simp [Value.oneCell']) (by unfold maxLen; omega) (by omega) (by simp; omega) ?_); intro g9 cap9 w9 hown9 hg9 hb9 hat9 hlt9))
          go_roundg (gk - 1)
          case measure => have := Hi.out; omega
          case rel =>
            refine ⟨i + 1, _, L ++ [f.report], by have := Hi.out; omega, by go_num, rfl, Below.trans (Hk.out.trans' (by go_grown)) hb9, by rw [List.length_append, Hm.out]; exact hown9, ?_, fun r => ?_⟩
            · rw [List.nodup_append]
              refine ⟨Hnd.out, by simp, fun a ha b hb => ?_⟩
              have : b = f.report := by simpa using hb
              rintro rfl
              exact C.out.2 (this ▸ ha)
            · rw [List.mem_append, Hmem.out r, Hsn.out]
              simp only [List.mem_append, List.mem_cons, List.not_mem_nil, or_false]
              constructor
              · rintro (⟨g, h1, h2⟩ | rfl)
                · exact ⟨g, .inl h1, h2⟩
                · exact ⟨f, .inr rfl, C.out.1, rfl⟩
              · rintro ⟨g, h1 | rfl, h2⟩
                · exact .inl ⟨g, h1, h2⟩
                · exact .inr h2.2.symm
      · have d1 : (f.kind == k) = false := by simpa using c1
        have C := hide c1
        clear c1
        go_wp2_with fail
        go_roundg (gk - 1)
        case measure => have := Hi.out; omega
        case rel =>
          refine ⟨i + 1, _, L, by have := Hi.out; omega, by go_num, rfl, Hk.out.trans' (by go_grown), by rw [Hm.out]; exact Hown.out.kept (by go_grown), Hnd.out, fun r => ?_⟩
          rw [Hmem.out r, Hsn.out]
          simp only [List.mem_append, List.mem_cons, List.not_mem_nil, or_false]
          refine ⟨fun ⟨g, h1, h2⟩ => ⟨g, .inl h1, h2⟩, fun ⟨g, h1, h2⟩ => ?_⟩
          rcases h1 with h1 | rfl
          · exact ⟨g, h1, h2⟩
          · exact absurd h2.1 C.out
    · have hge : (n : Int) ≤ (i : Int) := by omega
      have hin : i = n := by have := Hi.out; omega
      have hmem2 : ∀ r, r ∈ L ↔ ∃ f ∈ l, f.kind = k ∧ f.report = r := fun r => by
        have := Hmem.out r
        rwa [hin, ← Hn.out, List.take_length] at this
      have Hmem2 := hide hmem2
      clear hmem2 hin hk
      rcases row_of_own Hown.out with ⟨rfl, hz⟩ | ⟨g, cap, rfl, hg, hnc, hcm, hr⟩
      · have hL : L = [] := List.eq_nil_of_length_eq_zero (by rw [Hm.out, hz])
        subst hz
        go_wp2_with (first
          | (go_at_call 35; refine (sort35_none _).mono ?_; rintro e w2 ⟨rfl, rfl⟩)
          | (go_at_call 25; refine (clip25 none 0 0 (by omega) (by decide) _).mono ?_; rintro e w2 ⟨rfl, rfl⟩))
        go_ret
        exact ⟨⟨none, [], rfl, ⟨List.Pairwise.nil, fun r => by rw [← Hmem2.out r, hL]⟩, Sl.nil _ _ _ _⟩, Hk.out⟩
      · have hs := sort35 g m cap L wr (by omega) hnc Hm.out hr
        clear hr
        go_wp2_with (first
          | (go_at_call 35; refine hs.mono ?_; rintro e w2 ⟨rfl, ys, hy1, hy2, hy3, hy4⟩)
          | (go_at_call 25; refine (clip25 _ m cap hnc hcm _).mono ?_; rintro e w2 ⟨rfl, rfl⟩))
        go_ret
        have hyl : ys.length = m := hy1.length_eq.trans Hm.out
        exact ⟨⟨some ⟨g, 0, none⟩, ys, by rw [hyl]; rfl, ⟨sorted_lt Hnd.out hy1 hy2, fun r => by rw [hy1.mem_iff, Hmem2.out r]⟩, by rw [hyl]; exact hy3.sl8 hyl (fun x hx => Hk8.out x (hy1.mem_iff.1 hx))⟩, kept_row8 Hk.out hy4 hg⟩
end Go.Proofs.Ytegdigfcgeoboaa
