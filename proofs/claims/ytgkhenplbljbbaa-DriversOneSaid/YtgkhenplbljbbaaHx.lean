
/- New, with the copies told to lie ahead of the map; the state behind it. The slice reads as a list. -/
import Derived.Test.YtgkhenplbljbbaaChecked
import Derived.Deep.RegionHeld3
import Derived.Deep.DrawnRows
import Derived.Deep.DeepCutAuto
import Derived.Deep.LoopGhost
import Derived.Outline
import Derived.Handy
import Derived.OwnWalk
import Derived.Test.YtgkhenplbljbbaaHw
set_option linter.unusedVariables false
set_option linter.unusedSimpArgs false
set_option linter.unusedSectionVars false
namespace Go.Proofs.Ytgkhenplbljbbaa
open Go.RowKit Go.Maps
attribute [local go_sem ↓] Go.wp_at_zero Go.wp_at_succ

set_option maxRecDepth 100000 in
set_option maxHeartbeats 2000000 in
theorem new_apart (A : Option Addr) (n c : Nat) (l : List Drv) (w : World) (hn : n ≤ maxLen) (hl : Sl drvT w (low w.heap.size) A n l) (hz : checkS l = 0) :
    Calls Try.prog 22 #[.slice A n c] w fun e w' => ∃ p b m, e = .returned (.tuple #[.pointer (some ⟨p, 0, none⟩), .int .i64 0]) ∧ w'.heap[p]? = some (.cells #[.slice (some ⟨b, 0, none⟩) n n, .map (some m)] 89 (0, 0)) ∧ w'.heap[m]? = some (.map #[] 0) ∧
      w.heap.size ≤ m ∧ Sl drvT w' (low m) (some ⟨b, 0, none⟩) n l ∧ m < p ∧ p < w'.heap.size ∧ Kept w w' := by
  have HC := check_any A n c l w hn hl
  rw [hz] at HC
  obtain ⟨h64, h32⟩ := check_zero hz
  rw [hl.1] at h64
  have hmm := @run_makeMap Try.prog
  go_enter Try.func22, Try.ntmps22
  go_wp2_with (first
    | (go_at_call 16; refine HC.mono ?_; rintro e w1 ⟨rfl, hk⟩)
    | (go_at_call 38; refine (copied_any A n c l _ h64 (hl.kept hk) h32).mono ?_; rintro e w2 ⟨b, rfl, hs2, hk2⟩))
  go_ret2
  have hfin : Kept w2 ((w2.alloc (.map #[] 0)).alloc (.cells #[.slice (some ⟨b, 0, none⟩) n n, .map (some w2.heap.size)] 89)) := by go_grown
  refine ⟨w2.heap.size + 1, b, w2.heap.size, by simp, heap_at _ (by simp), heap_past (heap_at _ rfl), (hk.trans' hk2).size, hs2.below hfin, by omega, by simp, (hk.trans' hk2).trans' hfin⟩
/-- the law's beginning: the registry, the flags, the lists -/
theorem LS.start {w w3 : World} {p bb m n : Nat} {l : List Drv} (hp : w.heap[p]? = some (.cells #[.slice (some ⟨bb, 0, none⟩) n n, .map (some m)] 89 (0, 0))) (hm : w.heap[m]? = some (.map #[] 0)) (hl : Sl drvT w (low m) (some ⟨bb, 0, none⟩) n l) (hmp : m < p) (hpw : p < w.heap.size)
    (hT : w3.heap[w.heap.size]? = some (.cells (Array.replicate 8 (.bool false)) 72 (0, 0))) (hB : w3.heap[w.heap.size + 1]? = some (.cells (Array.replicate 8 (.slice none 0 0)) 74 (0, 0))) (hk : Kept w w3) :
    LS w3 w3.heap.size p m w.heap.size (w.heap.size + 1) n l 0 (fun _ => .slice none 0 0) (fun _ => none) (fun n : Nat => bindS l (n : Int) none) (fun _ => false) ∧ Apart w3.heap.size p m w.heap.size (w.heap.size + 1) := by
  have h1 := heap_lt hT
  have h2 := heap_lt hB
  have hm3 : w3.heap[m]? = some (.map #[] 0) := (hk.block m (by omega)).trans hm
  refine ⟨⟨⟨bb, fun _ => none, heap_kept hk hp, ?_, ?_, fun n _ => rfl⟩, ⟨⟨_, hT, fun n hn => by simp [hn]⟩, ⟨_, hB, fun n hn => by simp [hn]⟩, fun n _ => Own.nil _ _ _ _, fun n k _ _ _ g e => (by cases e), by omega⟩, fun n c e => (by cases e), fun _ _ => rfl⟩, ⟨by omega, by omega⟩⟩
  · exact hl.keep (fun b hb => ⟨by have : b < m := hb; omega, by have : b < m := hb; omega, by have : b < m := hb; omega, by have : b < m := hb; omega, fun n _ e => (by cases e)⟩) (fun b o hb => hk.cell (p := ⟨b, o, none⟩) (by have : b < m := hb; show b < _; omega))
  · exact ⟨_, ⟨#[], 0, hm3, ⟨by simp, MapKept.stamped_empty 0, by simp⟩, Nat.le_refl _, rfl⟩, fun _ _ => rfl⟩
end Go.Proofs.Ytgkhenplbljbbaa
