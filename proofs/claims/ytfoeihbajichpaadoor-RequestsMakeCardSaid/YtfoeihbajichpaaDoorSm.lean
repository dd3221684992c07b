
/- Parse's inner function read: a word of a list, or a number. The library's variables are as the program lays them. -/
import Derived.Test.YtfoeihbajichpaaDoorChecked
import Derived.Deep.RegionHeld3
import Derived.Deep.DrawnRows
import Derived.Deep.DeepCutAuto
import Derived.Deep.LoopGhost
import Derived.Outline
import Derived.Handy
import Derived.OwnWalk
import Derived.Test.YtfoeihbajichpaaDoorSb
set_option linter.unusedVariables false
set_option linter.unusedSimpArgs false
set_option linter.unusedSectionVars false
namespace Go.Proofs.YtfoeihbajichpaaDoor
open Go.RowKit Go.Lib Go.Maps Go.WideShapes
attribute [local go_sem ↓] Go.wp_at_zero Go.wp_at_succ

theorem readB_num {L : List ByteArray} {s : ByteArray} {most : Int} (h : ¬ (0 ≤ Lib.idxOfS L s ∧ s.size ≠ 0)) :
    readB L s most = (atoiV s.data.toList, atoiE s.data.toList || (decide (atoiV s.data.toList < 0) || decide (most < atoiV s.data.toList))) := by
  unfold readB atoiV atoiE
  rw [if_neg h]
  cases Lib.atoiAll s.data.toList <;> simp
theorem grown_set {w w1 : World} {X : Nat} (h : Kept w w1) (v : Value) : w.grownBy (w1.setCell ⟨X, 0, none⟩ v) (some X) :=
  ⟨h.os, h.tape, h.output, by rw [World.size_setCell]; exact h.size, fun k hk hne => (Below.heap_setCell _ _ _ k (fun e => hne (by rw [e]))).trans (h.block k hk)⟩
theorem grown_any {w w1 : World} {X : Nat} (h : Kept w w1) : w.grownBy w1 (some X) := ⟨h.os, h.tape, h.output, h.size, fun k hk _ => h.block k hk⟩
/-- what read leaves -/
def ReadIs (w : World) (X : Nat) (b : Bool) (r : Int × Bool) (e : Ending) (w' : World) : Prop := e = .returned (.int .i64 r.1) ∧ w'.heap[X]? = some (.cells #[.bool (b || r.2)] 4 (0, 0)) ∧ w.grownBy w' (some X)
set_option maxRecDepth 100000 in
set_option maxHeartbeats 4000000 in
theorem read_any (s ls : ByteArray) (L : List ByteArray) (most : Int) (b : Bool) (X : Nat) (w : World) (hL : wordsB ls = L) (hl : ls.size < 4294967281) (hLm : L.length ≤ 9223372036854775807) (hs : s.size ≤ 1000) (hT : Tabs w) (hX : w.heap[X]? = some (.cells #[.bool b] 4 (0, 0))) :
    Calls Tryd.prog 37 #[.string s, .string ls, .int .i64 most, .pointer (some ⟨X, 0, none⟩)] w (ReadIs w X b (readB L s most)) := by
  have hXl := heap_lt hX
  have hTa : Tabs (w.alloc (.cells (L.map Value.string).toArray 9)) := hT.alloc _
  have HX1 := Lib.hid (heap_past (o := .cells (L.map Value.string).toArray 9) hX)
  have hka : Kept w (w.alloc (.cells (L.map Value.string).toArray 9)) := (Below.refl _ _).alloc (Nat.le_refl _) _
  by_cases hc : 0 ≤ Lib.idxOfS L s ∧ s.size ≠ 0
  · have hr : readB L s most = (Lib.idxOfS L s, false) := if_pos hc
    obtain ⟨hi0, hs0⟩ := hc
    obtain ⟨hne, hni⟩ := bytes_some hs0
    rw [hr]
    clear hr hs0 hX
    generalize hi : Lib.idxOfS L s = ix at *
    go_enter Tryd.func37, Tryd.ntmps37
    go_wp2_with (first
      | (go_at_call 36; refine (split_at L _ _ hL hl hT).mono ?_; rintro e w1 ⟨rfl, rfl⟩; have hq1 := heap_at (w := w) (.cells (L.map Value.string).toArray 9) rfl)
      | (go_at_call 38; refine (index_any w.heap.size 0 L.length L s _ hLm (fun j hj => by rw [Nat.zero_add]; refine row_cell hq1 ?_; rw [List.getElem?_eq_getElem hj, List.getD_eq_getElem?_getD, List.getElem?_eq_getElem hj]; rfl)).mono ?_; rw [hi]; rintro e w2 ⟨rfl, rfl⟩))
    go_ret
    exact ⟨rfl, by rw [Bool.or_false]; exact HX1.out, grown_any hka⟩
  · rw [readB_num hc]
    have hbool : (0 ≤ Lib.idxOfS L s ∧ s.size = 0) ∨ Lib.idxOfS L s < 0 := by
      by_cases h0 : 0 ≤ Lib.idxOfS L s
      · by_cases h1 : s.size = 0
        · exact .inl ⟨h0, h1⟩
        · exact absurd ⟨h0, h1⟩ hc
      · exact .inr (by omega)
    clear hc hX
    generalize hi : Lib.idxOfS L s = ix at *
    have hAo := atoi_ok s (w.alloc (.cells (L.map Value.string).toArray 9)) hs
    have hAb := atoi_bad s (w.alloc (.cells (L.map Value.string).toArray 9)) hs hTa
    have hcell := cell_heap HX1.out (o := 0) rfl
    have hfr := frozen_heap HX1.out (o := 0)
    have fin : ∀ (w1 : World) (v : Bool), Kept (w.alloc (.cells (L.map Value.string).toArray 9)) w1 → (w1.setCell ⟨X, 0, none⟩ (.bool v)).heap[X]? = some (.cells #[.bool v] 4 (0, 0)) ∧ w.grownBy (w1.setCell ⟨X, 0, none⟩ (.bool v)) (some X) := fun w1 v hk =>
      ⟨heap_store (heap_kept hk HX1.out) _, grown_set (hka.trans' hk) _⟩
    have Fin := Lib.hid fin
    clear fin
    generalize atoiV s.data.toList = V at *
    cases hE : atoiE s.data.toList
    · have hA := hAo hE
      rcases hbool with ⟨hi0, hs0⟩ | hi0
      · have he := bytes_empty hs0
        cases b
        all_goals
          go_enter Tryd.func37, Tryd.ntmps37
          go_wp2_with (first
            | (go_at_call 36; refine (split_at L _ _ hL hl hT).mono ?_; rintro e w1 ⟨rfl, rfl⟩; have hq1 := heap_at (w := w) (.cells (L.map Value.string).toArray 9) rfl)
            | (go_at_call 38; refine (index_any w.heap.size 0 L.length L s _ hLm (fun j hj => by rw [Nat.zero_add]; refine row_cell hq1 ?_; rw [List.getElem?_eq_getElem hj, List.getD_eq_getElem?_getD, List.getElem?_eq_getElem hj]; rfl)).mono ?_; rw [hi]; rintro e w2 ⟨rfl, rfl⟩)
            | (go_at_call 39; refine hA.mono ?_; rintro e w3 ⟨rfl, hk3⟩; obtain ⟨hc3, hf3⟩ := bcell hk3; have hz3 := hk3.size; simp only [World.size_alloc] at hc3 hf3 hz3; have hl3 : X < w3.heap.size := (by omega); have hl4 : X < w.heap.size + 1 := (by omega)))
          all_goals go_ret
          all_goals refine ⟨rfl, ?_, (Fin.out _ _ hk3).2⟩
          all_goals (rw [(Fin.out _ _ hk3).1]; simp_all; done)
      · skip
        cases b
        all_goals
          go_enter Tryd.func37, Tryd.ntmps37
          go_wp2_with (first
            | (go_at_call 36; refine (split_at L _ _ hL hl hT).mono ?_; rintro e w1 ⟨rfl, rfl⟩; have hq1 := heap_at (w := w) (.cells (L.map Value.string).toArray 9) rfl)
            | (go_at_call 38; refine (index_any w.heap.size 0 L.length L s _ hLm (fun j hj => by rw [Nat.zero_add]; refine row_cell hq1 ?_; rw [List.getElem?_eq_getElem hj, List.getD_eq_getElem?_getD, List.getElem?_eq_getElem hj]; rfl)).mono ?_; rw [hi]; rintro e w2 ⟨rfl, rfl⟩)
            | (go_at_call 39; refine hA.mono ?_; rintro e w3 ⟨rfl, hk3⟩; obtain ⟨hc3, hf3⟩ := bcell hk3; have hz3 := hk3.size; simp only [World.size_alloc] at hc3 hf3 hz3; have hl3 : X < w3.heap.size := (by omega); have hl4 : X < w.heap.size + 1 := (by omega)))
          all_goals go_ret
          all_goals refine ⟨rfl, ?_, (Fin.out _ _ hk3).2⟩
          all_goals (rw [(Fin.out _ _ hk3).1]; simp_all; done)
    · have hA := hAb hE
      rcases hbool with ⟨hi0, hs0⟩ | hi0
      · have he := bytes_empty hs0
        cases b
        all_goals
          go_enter Tryd.func37, Tryd.ntmps37
          go_wp2_with (first
            | (go_at_call 36; refine (split_at L _ _ hL hl hT).mono ?_; rintro e w1 ⟨rfl, rfl⟩; have hq1 := heap_at (w := w) (.cells (L.map Value.string).toArray 9) rfl)
            | (go_at_call 38; refine (index_any w.heap.size 0 L.length L s _ hLm (fun j hj => by rw [Nat.zero_add]; refine row_cell hq1 ?_; rw [List.getElem?_eq_getElem hj, List.getD_eq_getElem?_getD, List.getElem?_eq_getElem hj]; rfl)).mono ?_; rw [hi]; rintro e w2 ⟨rfl, rfl⟩)
            | (go_at_call 39; refine hA.mono ?_; rintro e w3 ⟨N, rfl, hk3⟩; obtain ⟨hc3, hf3⟩ := bcell hk3; have hz3 := hk3.size; simp only [World.size_alloc] at hc3 hf3 hz3; have hl3 : X < w3.heap.size := (by omega); have hl4 : X < w.heap.size + 1 := (by omega)))
          all_goals go_ret
          all_goals refine ⟨rfl, ?_, (Fin.out _ _ hk3).2⟩
          all_goals (rw [(Fin.out _ _ hk3).1]; simp_all; done)
      · skip
        cases b
        all_goals
          go_enter Tryd.func37, Tryd.ntmps37
          go_wp2_with (first
            | (go_at_call 36; refine (split_at L _ _ hL hl hT).mono ?_; rintro e w1 ⟨rfl, rfl⟩; have hq1 := heap_at (w := w) (.cells (L.map Value.string).toArray 9) rfl)
            | (go_at_call 38; refine (index_any w.heap.size 0 L.length L s _ hLm (fun j hj => by rw [Nat.zero_add]; refine row_cell hq1 ?_; rw [List.getElem?_eq_getElem hj, List.getD_eq_getElem?_getD, List.getElem?_eq_getElem hj]; rfl)).mono ?_; rw [hi]; rintro e w2 ⟨rfl, rfl⟩)
            | (go_at_call 39; refine hA.mono ?_; rintro e w3 ⟨N, rfl, hk3⟩; obtain ⟨hc3, hf3⟩ := bcell hk3; have hz3 := hk3.size; simp only [World.size_alloc] at hc3 hf3 hz3; have hl3 : X < w3.heap.size := (by omega); have hl4 : X < w.heap.size + 1 := (by omega)))
          all_goals go_ret
          all_goals refine ⟨rfl, ?_, (Fin.out _ _ hk3).2⟩
          all_goals (rw [(Fin.out _ _ hk3).1]; simp_all; done)
end Go.Proofs.YtfoeihbajichpaaDoor
