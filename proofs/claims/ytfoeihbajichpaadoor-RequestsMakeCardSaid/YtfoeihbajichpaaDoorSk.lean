
/- The codes by their names: the map that codes returns. The library's variables are as the program lays them. -/
import Derived.Test.YtfoeihbajichpaaDoorChecked
import Derived.Deep.RegionHeld3
import Derived.Deep.DrawnRows
import Derived.Deep.DeepCutAuto
import Derived.Deep.LoopGhost
import Derived.Outline
import Derived.Handy
import Derived.OwnWalk
import Derived.Test.YtfoeihbajichpaaDoorSb
set_option linter.unusedVariables false
set_option linter.unusedSimpArgs false
set_option linter.unusedSectionVars false
namespace Go.Proofs.YtfoeihbajichpaaDoor
open Go.RowKit Go.Lib Go.Maps Go.WideShapes
attribute [local go_sem ↓] Go.wp_at_zero Go.wp_at_succ

/-- what stands in the map when k names are laid -/
def codeF : Nat → Lit → Option Value
  | 0 => fun _ => none
  | k + 1 => if (namesB.getD k ByteArray.empty).size = 0 then codeF k else putF (codeF k) (.string (namesB.getD k ByteArray.empty).data.toList) (.int .u8 (k : Int))
theorem codeF_skip {k : Nat} {x : ByteArray} (hx : namesB[k]? = some x) (h : x.size = 0) : codeF (k + 1) = codeF k := by
  have e : namesB.getD k ByteArray.empty = x := by rw [List.getD_eq_getElem?_getD, hx]; rfl
  rw [codeF, e, if_pos h]
theorem codeF_put {k : Nat} {x : ByteArray} (hx : namesB[k]? = some x) (h : x.size ≠ 0) : codeF (k + 1) = putF (codeF k) (.string x.data.toList) (.int .u8 (k : Int)) := by
  have e : namesB.getD k ByteArray.empty = x := by rw [List.getD_eq_getElem?_getD, hx]; rfl
  rw [codeF, e, if_neg h]
theorem codeF_none (l : List UInt8) : ∀ k, k ≤ 13 → (∀ j, j < k → (namesB.getD j ByteArray.empty).size ≠ 0 → (namesB.getD j ByteArray.empty).data.toList ≠ l) → codeF k (.string l) = none
  | 0, _, _ => rfl
  | k + 1, hk, h => by
    have ih := codeF_none l k (by omega) (fun j hj => h j (by omega))
    unfold codeF
    split
    · exact ih
    · rename_i hs
      unfold putF
      rw [sameKey_ne (fun e => h k (by omega) hs (by injection e with e; exact e.symm))]
      exact ih
theorem codes_fin : ∀ j : Fin 13, (namesB.getD j.val ByteArray.empty).size ≠ 0 → (codeF 13 (.string (namesB.getD j.val ByteArray.empty).data.toList) = some (.int .u8 (j.val : Int)) ∧ codeB (namesB.getD j.val ByteArray.empty) = some (j.val : Int)) := by
  intro j hj
  match j with
  | 0 | 1 | 3 | 5 | 6 | 7 | 8 | 9 | 10 | 11 | 12 => exact ⟨by rfl, by decide +kernel⟩
  | 2 | 4 => exact absurd rfl hj
theorem codes_all (s : ByteArray) : codeF 13 (.string s.data.toList) = (codeB s).map (Value.int .u8) := by
  by_cases h : ∃ j, j < 13 ∧ (namesB.getD j ByteArray.empty).size ≠ 0 ∧ (namesB.getD j ByteArray.empty).data.toList = s.data.toList
  · obtain ⟨j, hj, h1, h2⟩ := h
    have h3 := codes_fin ⟨j, hj⟩ h1
    have e : namesB.getD j ByteArray.empty = s := B8_inj h2
    dsimp only at h3
    rw [e] at h3
    rw [h3.1, h3.2]; rfl
  · rw [codeF_none s.data.toList 13 (Nat.le_refl _) (fun j hj h1 h2 => h ⟨j, hj, h1, h2⟩)]
    have e : codeB s = none := by
      unfold codeB
      rw [if_neg]
      rintro ⟨hs, hi⟩
      have hm := (Lib.idxOfS_nonneg_iff _ _).1 hi
      obtain ⟨j, hj, e⟩ := List.getElem_of_mem hm
      have e2 : namesB.getD j ByteArray.empty = s := by rw [List.getD_eq_getElem?_getD, List.getElem?_eq_getElem hj, e]; rfl
      exact h ⟨j, hj, by rw [e2]; exact hs, by rw [e2]⟩
    rw [e]; rfl
theorem names_small {k : Nat} {x : ByteArray} (hx : namesB[k]? = some x) : x.size ≤ maxLen := by
  have : ∀ y ∈ namesB, y.size ≤ maxLen := by unfold maxLen; decide +kernel
  exact this x (List.mem_of_getElem? hx)
set_option maxRecDepth 100000 in
set_option maxHeartbeats 1000000 in
theorem codes_any (w : World) (hT : Tabs w) : Calls Tryd.prog 40 #[] w fun e w' => ∃ b n f, e = .returned (.map (some b)) ∧ MapIs Tryd.prog 9 w' b n f ∧ (∀ s : ByteArray, f (.string s.data.toList) = (codeB s).map (Value.int .u8)) ∧ Kept w w' := by
  have hmm := @run_makeMap Tryd.prog
  go_enter Tryd.func40, Tryd.ntmps40
  go_wp2_with (go_at_call 36; refine (split_at namesB _ _ (by decide +kernel) (by decide +kernel) (hT.alloc _)).mono ?_; rintro e w1 ⟨rfl, rfl⟩; rw [show namesB.length = 13 from rfl])
  refine wp_at (fun W => Kept w W ∧ MapIs Tryd.prog 9 W w.heap.size 0 (codeF 0) ∧ W.heap[w.heap.size + 1]? = some (.cells (namesB.map Value.string).toArray 9 (0, 0))) ⟨by go_grown, (MapIs.made w Tryd.prog 9).keep ((Below.refl _ _).alloc (Nat.le_refl _) _), by first | exact heap_at _ (by simp) | simp⟩ (fun W hW => ?_)
  obtain ⟨hkW, hmW, hrow⟩ := hW
  go_loopg [7] 13 (fun g s7 wr => ∃ k n : Nat, k + g = 13 ∧ n ≤ k ∧ s7 = .int .i64 k ∧ MapIs Tryd.prog 9 wr w.heap.size n (codeF k) ∧ Kept w wr ∧ wr.heap[w.heap.size + 1]? = some (.cells (namesB.map Value.string).toArray 9 (0, 0)))
  case atStart => exact ⟨0, 0, by omega, by omega, rfl, hmW, hkW, hrow⟩
  case round =>
    clear hkW hmW hrow
    obtain ⟨k, n, hk, hnk, rfl, hm, hkw, hr⟩ := hrel
    have Hk := Lib.hid hk
    have hk13 : k ≤ 13 := by omega
    clear hk
    have hlb := heap_lt hr
    by_cases hlt : k < 13
    · obtain ⟨x, hx⟩ : ∃ x, namesB[k]? = some x := ⟨_, List.getElem?_eq_getElem (show k < namesB.length from hlt)⟩
      have hc := row_cell hr hx
      have Hx := Lib.hid hx
      have Hr := Lib.hid hr
      have hxs := names_small hx
      clear hx hr
      have hlt' : (k : Int) < 13 := by omega
      have hk0 : (0 : Int) ≤ (k : Int) := by omega
      by_cases h0 : x.size = 0
      · have he := bytes_empty h0
        have Hs := Lib.hid (codeF_skip Hx.out h0)
        clear h0
        go_wp2
        go_roundg (gk - 1)
        case measure => have := Hk.out; omega
        case rel => exact ⟨k + 1, n, by have := Hk.out; omega, by omega, by go_num, by rw [Hs.out]; exact hm, hkw, Hr.out⟩
      · obtain ⟨hne, hni⟩ := bytes_some h0
        have Hs := Lib.hid (codeF_put Hx.out h0)
        have hkey : keyOf Tryd.prog 9 (.string x) = some (.string x.data.toList) := WideMaps.keyOf_string_mk Tryd.underlying9 hxs
        have Hkey := Lib.hid hkey
        clear h0 hkey
        go_wp2_with (at_mapUpdate; refine wpList_store_any _ rfl _ _ _ 75 rfl 9 5 (string_keyed Tryd.underlying9) Tryd.underlying75 w.heap.size n _ rfl hm (by unfold maxLen; omega) _ _ _ rfl rfl Hkey.out ?_; intro w3 hm3 hg3)
        go_roundg (gk - 1)
        case measure => have := Hk.out; omega
        case rel => exact ⟨k + 1, n + 1, by have := Hk.out; omega, by omega, by go_num, by rw [Hs.out]; exact hm3, hkw.grown hg3 hkw.size (fun q hq => by injection hq with hq; omega), heap_grown hg3 Hr.out (by simp)⟩
    · have hk13' : k = 13 := by omega
      subst hk13'
      go_wp2
      go_ret
      exact ⟨_, _, _, rfl, hm, codes_all, hkw⟩
end Go.Proofs.YtfoeihbajichpaaDoor
