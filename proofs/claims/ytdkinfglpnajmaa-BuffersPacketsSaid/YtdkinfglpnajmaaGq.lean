
/- slices.SortedFunc over a window, and overlaps. -/
import Derived.Test.YtdkinfglpnajmaaChecked
import Derived.Deep.RegionHeld3
import Derived.Deep.DrawnRows
import Derived.Deep.DeepCutAuto
import Derived.Deep.LoopGhost
import Derived.Outline
import Derived.Handy
import Derived.OwnWalk
import Derived.IntWalk
import Derived.Shelf.SlSortCmp.WholeK
import Derived.Test.YtdkinfglpnajmaaGp
set_option linter.unusedVariables false
set_option linter.unusedSimpArgs false
set_option linter.unusedSectionVars false
namespace Go.Proofs.Ytdkinfglpnajmaa
open Go.RowKit Go.Shelf Go.Sort
attribute [local go_sem ↓] Go.wp_at_zero Go.wp_at_succ

theorem sortfunc_any (g cap n₀ : Nat) (L : List Pc) (w : World) (hb : ∀ p ∈ L, 0 ≤ p.pos ∧ p.pos ≤ 1000000) (hlen : L.length ≤ 256) (hrow : w.ownsRow n₀ 44 2 (.slice (some ⟨g, 0, none⟩) L.length cap) L.length (pcC L)) (hn : n₀ ≤ w.heap.size) :
    Calls Try.prog 34 #[.slice (some ⟨g, 0, none⟩) L.length cap, .func (.func 31) #[] #[]] w fun e w' => e = .returned (.tuple #[]) ∧ ∃ S : List Pc, S.Perm L ∧ S.Pairwise (fun a b => a.pos ≤ b.pos) ∧ Sl pcT w' (low w'.heap.size) (some ⟨g, 0, none⟩) L.length S ∧ Go.RowKit.Below n₀ w w' := by
  obtain ⟨d, hd⟩ : ∃ d : List SPc, d.map (·.1) = L := ⟨L.pmap (fun p hp => ⟨p, hp⟩) hb, by simp [List.map_pmap]⟩
  have hdl : d.length = L.length := by rw [← hd]; simp
  subst hd
  rw [← hdl] at hrow ⊢
  have hg := hrow.lt g rfl
  have eg : ∀ args w, (callFunc 31 args).run Try.prog w = .ok (.enter 31 args) w := enters_of Try.func31 (by kernel_rfl) rfl
  have hcon := AnyQ.slices_SortFunc Ytdkinfglpnajmaa.sortPc 2 Try.isAgg44 Try.sizeOf44 encS (fun _ => rfl) (fun x v hv => by simp [encS] at hv; rcases hv with rfl | rfl <;> rfl) cfS swoS 31 #[] g 0 cap d.toArray w eg (cmpLaysS g 0 d.toArray.size w) (row_holds hrow) hg.2 (by simp; omega)
  change Calls Try.prog 34 _ _ _ at hcon
  rw [show d.toArray.size = d.length by simp] at hcon
  refine hcon.mono ?_
  rintro e w' ⟨rfl, d', n, os, hp, hs, rfl⟩
  have hsz : d'.size = d.length := by have := hp.1; simpa using this
  refine ⟨rfl, d'.toList.map (·.1), ?_, ?_, ?_, below_sort hg.1 hn⟩
  · have h := hp.2.2
    have e1 : d'.extract 0 d.length = d' := by rw [← hsz]; simp
    have e2 : d.toArray.extract 0 d.length = d.toArray := by simp
    rw [e1, e2] at h
    exact h.map _
  · rw [List.pairwise_map, List.pairwise_iff_getElem]
    intro i j hi hj hij
    have h := hs i j (Nat.zero_le _) hij (by rw [← hsz]; simpa using hj)
    rw [ltS] at h
    have hi' : i < d'.size := by simpa using hi
    have hj' : j < d'.size := by simpa using hj
    simp only [getElem!_pos d' i hi', getElem!_pos d' j hj', decide_eq_false_iff_not] at h
    simp only [Array.getElem_toList]
    omega
  · have h := holds_sl (holdsK_sortWorldK encS 2 w g 0 n d.toArray d' os hg.2 (row_holds hrow) (by simpa using hsz)) (lt_sortWorldK encS 2 w g 0 n d' os hg.2)
    rw [hsz] at h
    exact h
end Go.Proofs.Ytdkinfglpnajmaa
