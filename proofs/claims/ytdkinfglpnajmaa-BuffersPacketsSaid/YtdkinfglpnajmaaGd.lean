
/- The law's same, full, memory, Of. -/
import Derived.Test.YtdkinfglpnajmaaChecked
import Derived.Deep.RegionHeld3
import Derived.Deep.DrawnRows
import Derived.Deep.DeepCutAuto
import Derived.Deep.LoopGhost
import Derived.Outline
import Derived.Handy
import Derived.OwnWalk
import Derived.IntWalk
import Derived.Deep.QuietTactic
import Derived.BigQuiet
import Derived.Test.YtdkinfglpnajmaaGc
set_option linter.unusedVariables false
set_option linter.unusedSimpArgs false
set_option linter.unusedSectionVars false
namespace Go.Proofs.Ytdkinfglpnajmaa
open Go.RowKit
attribute [local go_sem ↓] Go.wp_at_zero Go.wp_at_succ

set_option maxRecDepth 100000 in
set_option maxHeartbeats 1000000 in
theorem same_yes (A B : Option Addr) (n c d : Nat) (l : List Int) (w : World) (hA : Sl inT w (low w.heap.size) A n l) (hB : Sl inT w (low w.heap.size) B n l) (hn : n ≤ 100000) :
    Calls Try.prog 19 #[.slice A n c, .slice B n d] w fun e w' => e = .returned (.bool true) ∧ Kept w w' := by
  go_enter Try.func19, Try.ntmps19
  go_wp2_with fail
  go_loopg [5] n (fun g s5 wr => ∃ k : Nat, k + g = n ∧ s5 = .int .i64 (k : Int) ∧ Kept w wr)
  case atStart => exact ⟨0, by omega, by rfl, Below.refl _ _⟩
  case round =>
    obtain ⟨k, hk, rfl, hkw⟩ := hrel
    by_cases hlt : k < n
    · obtain ⟨x, b, off, hx, rfl, hbb, hbw, c0⟩ := in_at hA hkw hlt
      obtain ⟨y, b', off', hy, rfl, hbb', hbw', c1⟩ := in_at hB hkw hlt
      rw [hx] at hy
      injection hy with hy
      subst hy
      have hlt' : (k : Int) < (n : Int) := by omega
      clear hx
      go_wp2_with fail
      go_quiet (fail)
      go_wp2_with fail
      go_roundg (gk - 1)
      case measure => omega
      case rel => exact ⟨k + 1, by omega, by go_num, below_drewN hkw _⟩
    · have hlt' : (n : Int) ≤ (k : Int) := by omega
      go_wp2_with fail
      go_ret
      exact ⟨rfl, hkw⟩
set_option maxRecDepth 100000 in
set_option maxHeartbeats 1000000 in
theorem full_yes (A : Option Addr) (n : Nat) (l : List Pc) (w : World) (hl : Sl pcT w (low w.heap.size) A n l) (hp : ∀ p ∈ l, 0 < p.len) (hn : n ≤ 100000) :
    Calls Try.prog 20 #[.slice A n n] w fun e w' => e = .returned (.bool true) ∧ Kept w w' := by
  go_enter Try.func20, Try.ntmps20
  go_wp2_with fail
  go_loopg [3] n (fun g s3 wr => ∃ k : Nat, k + g = n ∧ s3 = .int .i64 (k : Int) ∧ Kept w wr)
  case atStart => exact ⟨0, by omega, by rfl, Below.refl _ _⟩
  case round =>
    obtain ⟨k, hk, rfl, hkw⟩ := hrel
    by_cases hlt : k < n
    · obtain ⟨p, b, off, hx, rfl, hbb, hbw, c0, c1⟩ := pc_at hl hkw hlt
      have h1 : 1 ≤ p.len := hp p (List.mem_of_getElem? hx)
      have hlt' : (k : Int) < (n : Int) := by omega
      clear hx
      go_wp2_with fail
      go_roundg (gk - 1)
      case measure => omega
      case rel => exact ⟨k + 1, by omega, by go_num, hkw⟩
    · have hlt' : (n : Int) ≤ (k : Int) := by omega
      go_wp2_with fail
      go_ret
      exact ⟨by simp, hkw⟩
theorem made_one (z : Value) (hz : z.cells = #[z]) (k : Nat) : madeCells z.cells k = (List.replicate k z).toArray := by
  rw [hz]
  apply Array.ext
  · simp [madeCells]
  · intro i h1 h2
    simp [madeCells, Nat.mod_one]
theorem info5 : (Try.prog.info? 5).map (fun i => (i.zero, i.size, i.bytes)) = some (some (.int .u8 0), 1, 1) := by kernel_rfl
/-- a memory of which k bytes are laid -/
def memC (k : Nat) : List Value := (List.range 64).map fun i => if i < k then .int .u8 (100 + (i : Int)) else .int .u8 0
theorem memC_zero : memC 0 = List.replicate 64 (.int .u8 0) := rfl
theorem memC_set (k : Nat) (hk : k < 64) : (memC k).set k (.int .u8 (100 + (k : Int))) = memC (k + 1) := by
  unfold memC
  apply List.ext_getElem
  · simp
  · intro i h1 h2
    simp at h2
    rw [List.getElem_set]
    simp only [List.getElem_map, List.getElem_range]
    by_cases hik : k = i
    · subst hik
      simp
    · rw [if_neg hik]
      by_cases h3 : i < k
      · rw [if_pos h3, if_pos (by omega)]
      · rw [if_neg h3, if_neg (by omega)]
theorem makeM (W : World) : (Instr.makeSlice 29 (.int .i64 64) (.int .i64 64)).run Try.prog W = .ok (.slice (some ⟨W.heap.size, 0, none⟩) 64 64) (W.alloc (.cells (memC 0).toArray 5)) := by
  obtain ⟨i, hi, hz0, hz1, hz2⟩ := info_parts info5
  have hr := run_make (P := Try.prog) W 29 5 i _ Try.underlying29 hi hz0 .i64 .i64 64 64 (by omega) (by omega) (by rw [hz2]; omega) (by omega)
  rw [hr, hz1, made_one _ rfl, memC_zero]
  rfl
set_option maxRecDepth 100000 in
set_option maxHeartbeats 1000000 in
theorem memory_any (w : World) : Calls Try.prog 13 #[] w fun e w' => ∃ g, e = .returned (.slice (some ⟨g, 0, none⟩) 64 64) ∧ w.heap.size ≤ g ∧ w'.heap[g]? = some (.cells (memC 64).toArray 5 (0, 0)) ∧ Kept w w' := by
  have hmk := makeM w
  go_enter Try.func13, Try.ntmps13
  go_wp2_with fail
  go_loopg [2] 64 (fun g s2 wr => ∃ k : Nat, k + g = 64 ∧ s2 = .int .i64 (k : Int) ∧ wr.heap[w.heap.size]? = some (.cells (memC k).toArray 5 (0, 0)) ∧ Kept w wr)
  case atStart => exact ⟨0, by omega, by rfl, heap_at _ rfl, (Below.refl _ _).alloc (Nat.le_refl _) _⟩
  case round =>
    obtain ⟨k, hk, rfl, hg, hkw⟩ := hrel
    have hlg := heap_lt hg
    by_cases hlt : k < 64
    · have hlt' : (k : Int) < 64 := by omega
      obtain ⟨u, hu⟩ : ∃ u, (memC k)[k]? = some u := ⟨_, List.getElem?_eq_getElem (by simp [memC]; omega)⟩
      have hc : wr.cell? ⟨w.heap.size, k, none⟩ = some u := cell_heap hg (by simpa using hu)
      have hf : wr.frozen? ⟨w.heap.size, k, none⟩ = false := frozen_heap hg
      have hst := heap_store (i := k) hg (.int .u8 (100 + (k : Int)))
      rw [List.setIfInBounds_toArray, memC_set k hlt] at hst
      have hw : IntKind.u8.wrap (100 + (k : Int)) = 100 + (k : Int) := IntWalk.u8_in _ (by omega)
      replace hst := Lib.hid hst
      replace hg := Lib.hid hg
      clear hu
      go_wp2_with fail
      go_roundg (gk - 1)
      case measure => omega
      case rel => exact ⟨k + 1, by omega, by go_num, hst.out, hkw.setCell (Nat.le_refl _) _⟩
    · have hk64 : k = 64 := by omega
      subst hk64
      have hlt' : (64 : Int) ≤ ((64 : Nat) : Int) := by omega
      replace hg := Lib.hid hg
      go_wp2_with fail
      go_ret
      exact ⟨_, rfl, Nat.le_refl _, hg.out, hkw⟩
end Go.Proofs.Ytdkinfglpnajmaa
