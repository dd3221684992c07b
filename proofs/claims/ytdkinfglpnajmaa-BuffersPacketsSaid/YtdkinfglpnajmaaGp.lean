
/- slices.SortedFunc over a window, and overlaps. -/
import Derived.Test.YtdkinfglpnajmaaChecked
import Derived.Deep.RegionHeld3
import Derived.Deep.DrawnRows
import Derived.Deep.DeepCutAuto
import Derived.Deep.LoopGhost
import Derived.Outline
import Derived.Handy
import Derived.OwnWalk
import Derived.IntWalk
import Derived.Shelf.SlSortCmp.WholeK
import Derived.Test.YtdkinfglpnajmaaSl
import Derived.Test.YtdkinfglpnajmaaGo
import Derived.Test.YtdkinfglpnajmaaGn
set_option linter.unusedVariables false
set_option linter.unusedSimpArgs false
set_option linter.unusedSectionVars false
namespace Go.Proofs.Ytdkinfglpnajmaa
open Go.RowKit Go.Shelf Go.Sort
attribute [local go_sem ↓] Go.wp_at_zero Go.wp_at_succ

/-- a small piece -/
abbrev SPc := { p : Pc // 0 ≤ p.pos ∧ p.pos ≤ 1000000 }
instance : Inhabited SPc := ⟨⟨⟨0, 0⟩, by decide⟩⟩
def encS (x : SPc) : List Value := [.int .i64 x.1.pos, .int .i64 x.1.len]
def cfS (x y : SPc) : Int := x.1.pos - y.1.pos
theorem ltS (x y : SPc) : ltOf cfS x y = decide (x.1.pos < y.1.pos) := by
  unfold ltOf cfS
  congr 1
  apply propext
  omega
theorem swoS : SWO (ltOf cfS) where
  irrefl x := by rw [ltS]; simp
  trans x y z h1 h2 := by rw [ltS] at *; simp at *; omega
  ntrans x y z h1 h2 := by rw [ltS] at *; simp at *; omega
theorem cmpS (x y : SPc) (W : World) : Calls Try.prog 31 #[.agg #[.int .i64 x.1.pos, .int .i64 x.1.len], .agg #[.int .i64 y.1.pos, .int .i64 y.1.len]] W fun e w' => e = .returned (.int .i64 (cfS x y)) ∧ ∃ q os', w' = grow (W.drewN q) os' := by
  obtain ⟨⟨a, b⟩, h1, h2⟩ := x
  obtain ⟨⟨c, d⟩, h3, h4⟩ := y
  simp only at h1 h2 h3 h4
  have hw : IntKind.i64.wrap (a - c) = a - c := IntWalk.i64_in _ ⟨by omega, by omega⟩
  simp only [cfS]
  go_enter Try.func31, Try.ntmps31
  go_wp2_with fail
  go_ret
  exact ⟨rfl, 0, _, by rw [alloc_eq_grow, alloc_eq_grow, grow_grow]; rfl⟩
theorem cmpLaysS (blk off size : Nat) (w : World) : CmpLays Try.prog 31 #[] encS 2 cfS blk off size w := fun _ _ _ _ x y => cmpS x y _
theorem row_holds {w : World} {n₀ g cap : Nat} {d : List SPc} (h : w.ownsRow n₀ 44 2 (.slice (some ⟨g, 0, none⟩) d.length cap) d.length (pcC (d.map (·.1)))) : HoldsK encS 2 w g 0 d.toArray := by
  obtain ⟨hl, h2 | ⟨g', cap', cur, e, h3, h4, h5, h6, h7, h8⟩⟩ := h
  · cases h2.1
  · cases e
    intro j hj
    rw [size_flatK] at hj
    have hj' : j < d.length * 2 := by simpa using hj
    refine ⟨?_, frozen_heap h4⟩
    have hi : j / 2 < d.length := by omega
    have hat := pcC_at (l := d.map (·.1)) (i := j / 2) (x := d[j / 2].1) (by simp [hi])
    have hval : (pcC (d.map (·.1)))[j]? = some (flatK encS 2 d.toArray)[j]! := by
      rw [get_flatK _ _ _ _ hj]
      have e1 : d.toArray[j / 2]! = d[j / 2] := by simp [hi]
      rw [e1]
      have h9 : (((pcC (d.map (·.1))).drop (j / 2 * 2)).take 2)[j % 2]? = (pcC (d.map (·.1)))[j]? := by
        rw [List.getElem?_take, if_pos (by omega), List.getElem?_drop]
        congr 1
        omega
      rw [← h9, hat]
      rcases Nat.mod_two_eq_zero_or_one j with h0 | h0 <;> rw [h0] <;> rfl
    rw [Nat.zero_add]
    refine cell_heap h4 ?_
    rw [← h8, List.getElem?_take, if_pos hj'] at hval
    rw [← Array.getElem?_toList]
    exact hval
theorem below_sort {w : World} {n₀ blk n : Nat} {d : Array SPc} {os : Array Obj} (hb : n₀ ≤ blk) (hn : n₀ ≤ w.heap.size) : Go.RowKit.Below n₀ w (sortWorldK encS 2 w blk 0 n d os) := by
  refine ⟨rfl, rfl, rfl, size_sortWorldK_c encS 2 w blk 0 n d os, fun k hk => ?_⟩
  unfold sortWorldK grow putRowK putRow mapBlock Go.Sort.ahead
  simp only
  rw [Array.getElem?_append_left (by simp; omega), Array.getElem?_modify, if_neg (by omega)]
theorem holds_sl {w : World} {g : Nat} {d : Array SPc} (h : HoldsK encS 2 w g 0 d) (hg : g < w.heap.size) : Sl pcT w (low w.heap.size) (some ⟨g, 0, none⟩) d.size (d.toList.map (·.1)) := by
  refine ⟨by simp, fun i x hx => ?_⟩
  rw [List.getElem?_map, Option.map_eq_some_iff] at hx
  obtain ⟨y, hy, rfl⟩ := hx
  obtain ⟨hi, e⟩ := List.getElem?_eq_some_iff.1 hy
  have hi' : i < d.size := by simpa using hi
  have e2 : d[i]! = y := by
    rw [← e]; simp [hi']
  refine ⟨g, 0, [.int .i64 y.1.pos, .int .i64 y.1.len], rfl, hg, ⟨rfl, trivial⟩, fun j v hv => ?_⟩
  have h0 := (h.cell (i := i) (c := 0) hi' (by omega)).1
  have h1 := (h.cell (i := i) (c := 1) hi' (by omega)).1
  rw [e2] at h0 h1
  match j, hv with
  | 0, hv => cases hv; exact h0
  | 1, hv => cases hv; exact h1
end Go.Proofs.Ytdkinfglpnajmaa
