/- Text, its parts. -/
import Derived.Test.YtjgncofhobhjdaaDoorChecked
import Derived.Deep.RegionHeld3
import Derived.Deep.DrawnRows
import Derived.Deep.DeepCutAuto
import Derived.Deep.LoopGhost
import Derived.Outline
import Derived.Handy
import Derived.OwnWalk
import Derived.BigQuiet
import Derived.Test.YtjgncofhobhjdaaDoorN4
import Derived.Test.YtjgncofhobhjdaaDoorSqK
import Derived.Test.YtjgncofhobhjdaaDoorN9
set_option linter.unusedVariables false
set_option linter.unusedSimpArgs false
set_option linter.unusedSectionVars false
/- Text: what a line writes. The library's table of powers is as the program lays it. -/
namespace Go.Proofs.YtjgncofhobhjdaaDoor
open Go.RowKit Go.Shelf Go.Lib Go.Sort
attribute [local go_sem ↓] Go.wp_at_zero Go.wp_at_succ

theorem copy_any (b : Nat) (l : List UInt8) (w : World) (h : IsB b l w) :
    Calls Tryd.prog 89 #[.pointer (some ⟨b, 0, none⟩)] w fun e w' => e = .returned (.tuple #[]) ∧ Lib.BuilderAt 109 5 b b (.pointer (some ⟨b, 0, none⟩)) (Lib.byteCells l) w' ∧ Adv w.heap.size b w w' := by
  rcases h with h | h
  · refine (Any.Builder_copyCheck_fresh { laysJoin with } laysExtra.toX72 b w h.cell0 h.shape h.frozen0).mono ?_
    rintro e w' ⟨rfl, rfl⟩
    refine ⟨rfl, h.used _, rfl, rfl, rfl, by rw [World.size_setCell]; exact Nat.le_refl _, fun k _ h2 _ => Below.heap_setCell _ _ _ k h2, fun k e => .inl ?_⟩
    obtain ⟨_, v, h1, _⟩ := h.used (.pointer (some ⟨b, 0, none⟩))
    obtain ⟨_, v2, h3, _⟩ := h
    have h4 := heap_store (i := 0) h3 (.pointer (some ⟨b, 0, none⟩))
    rw [bufOf_at h4] at e
    rw [bufOf_at h3]
    exact e
  · refine (Any.Builder_copyCheck_used { laysJoin with } laysExtra.toX72 b w h.cell0).mono ?_
    rintro e w' ⟨rfl, rfl⟩
    exact ⟨rfl, h, Adv.refl⟩
set_option maxRecDepth 100000 in
set_option maxHeartbeats 2000000 in
theorem write_any (b : Nat) (l : List UInt8) (s : ByteArray) (w : World) (h : IsB b l w) (hlen : l.length + s.size ≤ 1000000000) :
    Calls Tryd.prog 53 #[.pointer (some ⟨b, 0, none⟩), .string s] w fun e w' => e = .returned (.tuple #[.int .i64 s.size, .nilIface]) ∧ IsB b (l ++ s.data.toList) w' ∧ Adv w.heap.size b w w' := by
  obtain ⟨i0, hi, hz0, hz1, hz2⟩ := info_parts info5
  have hbw := h.lt
  go_enter Tryd.func53, Tryd.ntmps53
  go_wp2_with (go_at_call 89; refine (copy_any b l _ h).mono ?_)
  rintro e w1 ⟨rfl, h1, ha1⟩
  obtain ⟨_, v, hbk, hown, hne⟩ := h1
  have c0 : w1.cell? ⟨b, 0, none⟩ = some (.pointer (some ⟨b, 0, none⟩)) := by rw [Lib.cell_of_heap hbk]; rfl
  have c1 : w1.cell? ⟨b, 1, none⟩ = some v := by rw [Lib.cell_of_heap hbk]; rfl
  have hb1 := heap_lt hbk
  rw [Lib.byteCells_length] at hown
  have Ha1 := hide ha1
  clear ha1
  go_wp2_with (at_builtin; refine wpList_append_str (by rfl) _ _ 34 9 (by rfl) b 5 i0 Tryd.underlying34 Tryd.underlying9 hi hz0 hz1 hz2 _ _ _ (by rfl) hown s (by rfl) (by unfold maxLen; omega) (by omega) (by omega) ?_; intro v' w2 hown' hgrow hat; have hb2 : w2.heap[b]? = some (.cells #[.pointer (some ⟨b, 0, none⟩), v] 109 (0, 0)) := (hgrow.block b hb1 (fun e => hne e.symm)).trans hbk; have d0 := cell_heap hb2 (o := 0) rfl; have d1 := cell_heap hb2 (o := 1) rfl; have f1 := frozen_heap hb2 (o := 1); have l2 := heap_lt hb2; obtain ⟨ao, n', cap, rfl⟩ : ∃ ao n' cap, v' = .slice ao n' cap := (by rcases hown'.2 with ⟨hv, _⟩ | ⟨g, cap, cur, hv, _⟩; exact ⟨_, _, _, hv⟩; exact ⟨_, _, _, hv⟩))
  have hB2 : Lib.BuilderAt 109 5 b b (.pointer (some ⟨b, 0, none⟩)) (Lib.byteCells (l ++ s.data.toList)) (w2.setCell ⟨b, 1, none⟩ (.slice ao n' cap)) :=
    Lib.BuilderAt.put (Nat.le_refl _) hb2 (bs' := Lib.byteCells (l ++ s.data.toList)) (by rw [Lib.byteCells_length, List.length_append, Lib.byteCells_append]; exact hown') (by decide)
  have hA2 : Adv w.heap.size b w1 (w2.setCell ⟨b, 1, none⟩ (.slice ao n' cap)) := by
    refine ⟨hgrow.os, hgrow.tape, hgrow.output, by rw [World.size_setCell]; exact hgrow.size, fun k h1 h2 h3 => (Below.heap_setCell _ _ _ k h2).trans (hgrow.block k (by have := Ha1.out.size; omega) (fun e => h3 ?_)), fun k e => ?_⟩
    · rw [bufOf_at hbk]; exact e.symm
    · rw [bufOf_at (heap_store (i := 1) hb2 (.slice ao n' cap))] at e
      rw [bufOf_at hbk]
      rcases hat with h1 | h1
      · exact .inl (h1 ▸ e)
      · right
        rw [h1] at e
        injection e with e
        have := Ha1.out.size
        omega
  refine ⟨rfl, _, results_tmp2 rfl _ _ _, rfl, .inr hB2, Ha1.out.trans hA2⟩
/-- is a word empty? -/
def emptyB (x : ByteArray) : Bool := x.toList.isEmpty
theorem emptyB_eq (l : List UInt8) : emptyB (B8 l) = l.isEmpty := by
  unfold emptyB
  rw [ByteArray.toList_eq]
  rfl
theorem empty_any (x : ByteArray) (w : World) : Calls Tryd.prog 52 #[.string x] w fun e w' => e = .returned (.bool (emptyB x)) ∧ w' = w := by
  go_enter Tryd.func52, Tryd.ntmps52
  go_wp2
  go_ret
  exact ⟨rfl, rfl⟩
theorem empty_gives (x : ByteArray) (W : World) : FnGives Tryd.prog 52 #[] #[.string x] (.bool (emptyB x)) W :=
  (empty_any x W).mono fun e w' ⟨h1, h2⟩ => ⟨h1, 0, h2⟩
theorem putRow_heap {α : Type} [Inhabited α] (enc : α → Value) (w : World) (g o : Nat) (d : Array α) {k : Nat} (hk : k ≠ g) : (putRow enc w g o d).heap[k]? = w.heap[k]? := by
  simp [putRow, mapBlock, Array.getElem?_modify, Ne.symm hk]
theorem nonE_B (ws : List (List UInt8)) : (ws.map B8).filter (fun x => !emptyB x) = (nonE ws).map B8 := by
  unfold nonE
  induction ws with
  | nil => rfl
  | cons a l ih => simp only [List.map_cons, List.filter_cons, emptyB_eq, ih]; split <;> rfl
/-- the empty words are left out -/
theorem del_any (g : Nat) (ws : List (List UInt8)) (w : World) (hg : w.heap[g]? = some (.cells ((ws.map B8).map Value.string).toArray 9 (0, 0))) (hn : ws.length ≤ 1000) :
    Calls Tryd.prog 51 #[.slice (some ⟨g, 0, none⟩) ws.length ws.length, .func (.func 52) #[] #[]] w fun e w' => e = .returned (.slice (some ⟨g, 0, none⟩) (nonE ws).length ws.length) ∧
      (∀ j x, ((nonE ws).map B8)[j]? = some x → w'.cell? ⟨g, 0 + j, none⟩ = some (.string x)) ∧ Below g w w' := by
  have eg : ∀ args w, (callFunc 52 args).run Tryd.prog w = .ok (.enter 52 args) w := enters_of Tryd.func52 (by kernel_rfl) rfl
  have hd : (ws.map B8).toArray.size = ws.length := by simp
  have hH : Holds Value.string w g 0 (ws.map B8).toArray := fun j hj => by
    rw [hd] at hj
    refine ⟨?_, by rw [Nat.zero_add]; exact frozen_heap hg⟩
    rw [Nat.zero_add]
    refine cell_heap hg ?_
    have h1 : j < (ws.map B8).length := by simpa using hj
    rw [getElem!_pos _ j (by simpa using hj)]
    simp
    exact ⟨ws[j], by simp [hj], rfl⟩
  have hc := AnyE.slices_DeleteFunc laysDel Value.string (fun _ => rfl) emptyB 52 #[] eg ⟨#[]⟩ Tryd.zeroValue9 g 0 ws.length (ws.map B8).toArray w (fun W x _ => empty_gives x W) (fun _ _ _ x _ => empty_gives x _) hH (by rw [hd]; omega) (by rw [hd]; exact Nat.le_refl _)
  rw [hd] at hc
  have hf : ((ws.map B8).toArray.toList.filter fun x => !emptyB x) = (nonE ws).map B8 := nonE_B ws
  rw [hf] at hc
  change Calls Tryd.prog 51 _ _ _ at hc
  refine hc.mono ?_
  rintro e w' ⟨rfl, q, rfl⟩
  have hl : ((nonE ws).map B8 ++ List.replicate (ws.length - ((nonE ws).map B8).length) (⟨#[]⟩ : ByteArray)).toArray.size = (ws.map B8).toArray.size := by
    have := nonE_len ws
    simp
    omega
  have hh := holds_putRow Value.string (Sort.ahead w q) g 0 _ _ (show Holds Value.string (Sort.ahead w q) g 0 (ws.map B8).toArray from hH) hl
  refine ⟨by simp, fun j x hx => ?_, rfl, rfl, rfl, ?_, fun k hk => putRow_heap _ _ _ _ _ (by omega)⟩
  · obtain ⟨hj, hjx⟩ := List.getElem?_eq_some_iff.1 hx
    have hj2 : j < ((nonE ws).map B8 ++ List.replicate (ws.length - ((nonE ws).map B8).length) (⟨#[]⟩ : ByteArray)).toArray.size := by simp at hj ⊢; omega
    have h1 := (hh j hj2).1
    rw [h1, getElem!_pos _ j hj2]
    simp only [List.getElem_toArray]
    rw [List.getElem_append_left hj, hjx]
  · show w.heap.size ≤ (putRow _ _ _ _ _).heap.size
    rw [size_putRow]
    exact Nat.le_refl _
theorem map_B8_list (l : List (List UInt8)) : (l.map B8).map (·.data.toList) = l := by
  induction l with
  | nil => rfl
  | cons a l ih => rw [List.map_cons, List.map_cons, ih, B8_list]
theorem cat_list (a b : ByteArray) : (a ++ b).data.toList = a.data.toList ++ b.data.toList := by rw [ByteArray.data_append, Array.toList_append]
theorem join_cap {ws : List (List UInt8)} {B : Nat} (h : (lineW ws).length ≤ B) : (Lib.join (nonE ws) [32]).length + 1 ≤ B := by
  unfold lineW at h
  rw [List.length_append] at h
  exact h
theorem IsB.last {b g : Nat} {l : List UInt8} {X Y : World} (h : IsB b l X) (hk : Below g X Y) (hs : g + 1 = X.heap.size) (hb : b < g) (hq : bufOf b X ≠ some g) : IsB b l Y := by
  have hg : X.grownBy Y (some g) := ⟨hk.os, hk.tape, hk.output, hk.size, fun k h1 h2 => hk.block k (by have : k ≠ g := fun e => h2 (by rw [e]); omega)⟩
  obtain ⟨_, v0, hv0, _, _, hbv⟩ := h.parts
  have step : ∀ p, Lib.BuilderAt 109 5 b b p (Lib.byteCells l) X → Lib.BuilderAt 109 5 b b p (Lib.byteCells l) Y := fun p ⟨h0, v, h1, h2, h3⟩ =>
    ⟨h0, v, heap_below hk h1 hb, h2.kept hg (.inr (by rw [bufOf_at h1] at hq; exact hq)), h3⟩
  exact h.imp (step _) (step _)
set_option maxRecDepth 100000 in
set_option maxHeartbeats 2000000 in
theorem line_any (b g n : Nat) (l : List UInt8) (ws : List (List UInt8)) (w : World) (h : IsB b l w) (hg : w.heap[g]? = some (.cells ((ws.map B8).map Value.string).toArray 9 (0, 0))) (hbg : b < g) (hgs : g + 1 = w.heap.size) (hnl : ws.length = n) (hn : n ≤ 100) (hlen : l.length + (lineW ws).length ≤ 100000000) :
    Calls Tryd.prog 50 #[.slice (some ⟨g, 0, none⟩) n n, .pointer (some ⟨b, 0, none⟩)] w fun e w' => e = .returned (.tuple #[]) ∧ IsB b (l ++ lineW ws) w' ∧ Adv g b w w' := by
  subst hnl
  have hjc := join_cap (Nat.le_refl (lineW ws).length)
  have hne := nonE_len ws
  have hgl := heap_lt hg
  have hbuf := h.not hg (by decide)
  have hml : ((nonE ws).map B8).length = (nonE ws).length := List.length_map _
  obtain ⟨J, hJ⟩ : ∃ J, Lib.join (nonE ws) [32] = J := ⟨_, rfl⟩
  have hlw : lineW ws = J ++ [10] := by unfold lineW; rw [hJ]
  have Hlw := hide hlw
  have HJ := hide hJ
  rw [hJ] at hjc
  have hcap : ¬ 9223372036854775807 < (B8 J).size + (⟨#[10]⟩ : ByteArray).size := by rw [B8_size]; show ¬ _ < J.length + 1; omega
  have hcs : l.length + (B8 J ++ ⟨#[10]⟩).size ≤ 1000000000 := by rw [ByteArray.size_append, B8_size]; show l.length + (J.length + 1) ≤ _; omega
  have hdl : (B8 J ++ ⟨#[10]⟩).data.toList = J ++ [10] := by rw [cat_list]; rfl
  obtain ⟨S, hS⟩ : ∃ S, B8 J ++ ⟨#[10]⟩ = S := ⟨_, rfl⟩
  rw [hS] at hcs hdl
  have Hdl := hide hdl
  clear hlw hJ hdl
  go_enter Tryd.func50, Tryd.ntmps50
  go_upto_region 1 with (go_at_call 51; refine (del_any g ws _ hg (by omega)).mono ?_; rintro e w1 ⟨rfl, hc1, hk1⟩)
  have hB1 := h.last hk1 hgs hbg hbuf
  have hz1 := hk1.size
  have hjn := joins_any g 0 ws.length ((nonE ws).map B8) w1 hc1 (by omega) (by omega) (by omega) (by rw [map_B8_list, HJ.out]; omega)
  rw [map_B8_list, HJ.out, hml] at hjn
  clear hc1 hml
  go_wp2_with (go_at_call 54; refine hjn.mono ?_; rintro e w2 ⟨rfl, hk2⟩)
  have hB2 := hB1.kept hk2
  refine (write_any b l S _ hB2 hcs).mono ?_
  rintro e w3 ⟨rfl, hB3, ha3⟩
  rw [Hdl.out, ← Hlw.out] at hB3
  go_wp2
  refine ⟨rfl, .tuple #[], by simp [results, Tryd.results50, go_sem], rfl, hB3, ?_⟩
  have h1 : Adv g b w w1 := Adv.of hk1 hbg
  have h2 : Adv g b w1 w2 := Adv.of (hk2.mono (by omega)) hbg
  exact (h1.trans h2).trans (ha3.mono (by have := hk2.size; omega))
/-- a word, if it is to be there -/
theorem word_any (is : Bool) (s : List UInt8) (w : World) : Calls Tryd.prog 56 #[.bool is, .string (B8 s)] w fun e w' => e = .returned (.string (B8 (wordW is s))) ∧ w' = w := by
  cases is with
  | true =>
    go_enter Tryd.func56, Tryd.ntmps56
    go_wp2
    go_ret
    exact ⟨rfl, rfl⟩
  | false =>
    go_enter Tryd.func56, Tryd.ntmps56
    go_wp2
    go_ret
    exact ⟨rfl, rfl⟩
/-- a number that has been widened -/
theorem itoaw_any (n : Int) (w : World) (h0 : 0 ≤ n) (h1 : n ≤ 1000000) (hT : Tabs w) :
    Calls Tryd.prog 55 #[.int .i64 (IntKind.i64.wrap n)] w fun e w' => e = .returned (.string (B8 (Lib.itoa n))) ∧ Kept w w' := by
  have hw : IntKind.i64.wrap n = n := by rw [IntKind.wrap_i64]; omega
  rw [hw]
  exact itoa_any n w (by omega) (by omega) hT
theorem since_bl {N : Nat} {W w' : World} (h : (∀ b o, b < N → w'.cell? ⟨b, o, none⟩ = W.cell? ⟨b, o, none⟩) ∧ Below N W w') : Below N W w' := h.2
set_option maxRecDepth 100000 in
set_option maxHeartbeats 4000000 in
/-- the word for a text -/
theorem textw_any (n : Int) (p q : Nat) (w : World) (h : u8k n) (hp : w.cell? ⟨p, 0, none⟩ = some (.func (.func 56) #[] #[])) (hq : w.cell? ⟨q, 0, none⟩ = some (.func (.func 55) #[] #[])) (hpl : p < w.heap.size) (hql : q < w.heap.size) (hT : Tabs w) :
    Calls Tryd.prog 57 #[.int .u8 n, .pointer (some ⟨p, 0, none⟩), .pointer (some ⟨q, 0, none⟩)] w fun e w' => e = .returned (.string (B8 (textW n))) ∧ Kept w w' := by
  have h0 := h.1
  have h1 := h.2
  have hit := fun w' (hk : Kept w w') => itoaw_any n w' (by omega) (by omega) (hT.kept hk)
  have hl := itoa_len (n := n) (by omega) (by omega)
  obtain ⟨J, hJ⟩ : ∃ J, Lib.itoa n = J := ⟨_, rfl⟩
  rw [hJ] at hit hl
  have hcap : ¬ 9223372036854775807 < 5 + (B8 J).size := by rw [B8_size]; omega
  have hS : (⟨#[116, 101, 120, 116, 32]⟩ : ByteArray) ++ B8 J = B8 (sText ++ J) := B8_inj (by rw [cat_list]; rfl)
  have htw : textW n = wordW (decide (0 < n)) (sText ++ J) := by unfold textW; rw [hJ]
  have Htw := hide htw
  clear htw hJ
  go_enter Tryd.func57, Tryd.ntmps57
  go_upto_region 1 with (fail)
  go_region_held3 (fun w' => (∀ b o, b < w.heap.size → w'.cell? ⟨b, o, none⟩ = w.cell? ⟨b, o, none⟩) ∧ Below w.heap.size w w') (first | assumption | exact since_start | exact since_keep (by assumption) (Nat.le_refl _) hk) (first
    | (go_at_call 55; refine (hit _ (by first | exact since_bl (by assumption) | exact since_bl since_start)).mono ?_; rintro e w1 ⟨rfl, hk⟩)
    | (go_at_call 56; refine (word_any _ _ _).mono ?_; rintro e w1 ⟨rfl, rfl⟩; have hk := Below.refl w.heap.size w1))
  go_wp2_with fail
  go_ret
  exact ⟨by rw [Htw.out]; rfl, since_bl (by assumption)⟩
end Go.Proofs.YtjgncofhobhjdaaDoor
/- Text: what its regions lean on. -/
namespace Go.Proofs.YtjgncofhobhjdaaDoor
open Go.RowKit Go.Shelf Go.Lib
attribute [local go_sem ↓] Go.wp_at_zero Go.wp_at_succ

/-- the cells of three blocks are as they were -/
abbrev Tri (W w' : World) (a q p : Nat) : Prop := (∀ k o, (k = a ∨ k = q ∨ k = p) → w'.cell? ⟨k, o, none⟩ = W.cell? ⟨k, o, none⟩) ∧ W.heap.size ≤ w'.heap.size
section
variable {W X Y : World} {a q p b N : Nat}
theorem tri_start : (∀ k o, (k = a ∨ k = q ∨ k = p) → W.drew.cell? ⟨k, o, none⟩ = W.cell? ⟨k, o, none⟩) ∧ W.heap.size ≤ W.drew.heap.size := ⟨fun _ _ _ => rfl, Nat.le_refl _⟩
/-- three blocks that a line leaves alone -/
structure Three (b : Nat) (W : World) (a q p : Nat) : Prop where
  ha : a < W.heap.size ∧ a ≠ b ∧ bufOf b W ≠ some a
  hq : q < W.heap.size ∧ q ≠ b ∧ bufOf b W ≠ some q
  hp : p < W.heap.size ∧ p ≠ b ∧ bufOf b W ≠ some p
theorem Three.all (h : Three b W a q p) {k : Nat} (hk : k = a ∨ k = q ∨ k = p) : k < W.heap.size ∧ k ≠ b ∧ bufOf b W ≠ some k := by
  rcases hk with rfl | rfl | rfl
  · exact h.ha
  · exact h.hq
  · exact h.hp
theorem tri_keep (h3 : Three b W a q p) (h : (∀ k o, (k = a ∨ k = q ∨ k = p) → X.cell? ⟨k, o, none⟩ = W.cell? ⟨k, o, none⟩) ∧ W.heap.size ≤ X.heap.size) (hk : Kept X Y) : (∀ k o, (k = a ∨ k = q ∨ k = p) → Y.cell? ⟨k, o, none⟩ = W.cell? ⟨k, o, none⟩) ∧ W.heap.size ≤ Y.heap.size :=
  ⟨fun k o e => (hk.cell (p := ⟨k, o, none⟩) (Nat.lt_of_lt_of_le (h3.all e).1 h.2)).trans (h.1 k o e), Nat.le_trans h.2 hk.size⟩
theorem tri_alloc (h3 : Three b W a q p) {o : Obj} (h : (∀ k o, (k = a ∨ k = q ∨ k = p) → X.cell? ⟨k, o, none⟩ = W.cell? ⟨k, o, none⟩) ∧ W.heap.size ≤ X.heap.size) : (∀ k i, (k = a ∨ k = q ∨ k = p) → (X.alloc o).cell? ⟨k, i, none⟩ = W.cell? ⟨k, i, none⟩) ∧ W.heap.size ≤ (X.alloc o).heap.size :=
  tri_keep h3 h ((Below.refl _ _).alloc (Nat.le_refl _) o)
theorem tri_adv (h3 : Three b W a q p) (h : Adv W.heap.size b W Y) : (∀ k o, (k = a ∨ k = q ∨ k = p) → Y.cell? ⟨k, o, none⟩ = W.cell? ⟨k, o, none⟩) ∧ W.heap.size ≤ Y.heap.size :=
  ⟨fun k o e => World.cell?_of_block (a := ⟨k, o, none⟩) (h.block k (h3.all e).1 (h3.all e).2.1 (h3.all e).2.2), h.size⟩
theorem kept_undrew (h : Kept W.drew Y) : Kept W Y := ⟨h.os, h.tape, h.output, h.size, h.block⟩
theorem textw_S {n : Int} (h : (∀ k o, (k = a ∨ k = q ∨ k = p) → X.cell? ⟨k, o, none⟩ = W.cell? ⟨k, o, none⟩) ∧ W.heap.size ≤ X.heap.size) (h3 : Three b W a q p) (hq : W.cell? ⟨q, 0, none⟩ = some (.func (.func 55) #[] #[])) (hp : W.cell? ⟨p, 0, none⟩ = some (.func (.func 56) #[] #[])) (h8 : u8k n) (hT : Tabs X) :
    Calls Tryd.prog 57 #[.int .u8 n, .pointer (some ⟨p, 0, none⟩), .pointer (some ⟨q, 0, none⟩)] X fun e w' => e = .returned (.string (B8 (textW n))) ∧ Kept X w' :=
  textw_any n p q X h8 ((h.1 p 0 (.inr (.inr rfl))).trans hp) ((h.1 q 0 (.inr (.inl rfl))).trans hq) (Nat.lt_of_lt_of_le h3.hp.1 h.2) (Nat.lt_of_lt_of_le h3.hq.1 h.2) hT
/-- a line, its words in a new row -/
theorem line_S (n : Nat) {l : List UInt8} (ws : List (List UInt8)) {cs : Array Value} (hB : IsB b l W) (hk : Kept W X) (hcs : cs = ((ws.map B8).map Value.string).toArray) (hnl : ws.length = n) (hn : n ≤ 100) (hlen : l.length + (lineW ws).length ≤ 100000000) :
    Calls Tryd.prog 50 #[.slice (some ⟨X.heap.size, 0, none⟩) n n, .pointer (some ⟨b, 0, none⟩)] (X.alloc (.cells cs 9)) fun e w' => e = .returned (.tuple #[]) ∧ IsB b (l ++ lineW ws) w' ∧ Adv W.heap.size b W w' := by
  subst hcs
  have hal : Kept W (X.alloc (.cells ((ws.map B8).map Value.string).toArray 9)) := hk.trans' ((Below.refl _ _).alloc (Nat.le_refl _) _)
  have hbl := hB.lt
  refine (line_any b X.heap.size n l ws _ (hB.kept hal) (heap_at _ rfl) (Nat.lt_of_lt_of_le hbl hk.size) (by simp) hnl hn hlen).mono ?_
  rintro e w' ⟨h1, h2, h3⟩
  exact ⟨h1, h2, (Adv.of hal hbl).trans (h3.mono hk.size)⟩
end
theorem flatMap_takeU {α : Type} (f : α → List UInt8) {l : List α} {i : Nat} {x : α} (h : l[i]? = some x) : (l.take (i + 1)).flatMap f = (l.take i).flatMap f ++ f x := by
  obtain ⟨h1, h2⟩ := List.getElem?_eq_some_iff.1 h
  rw [List.take_succ_eq_append_getElem h1, h2, List.flatMap_append]
  simp
/-- the words for an endpoint's kind -/
theorem kind_cell {w : World} {g : Nat} (h : w.heap[g]? = some (.cells ((kindsW.map B8).map Value.string).toArray 9 (0, 0))) {k : Int} (hk : k = 1 ∨ k = 2 ∨ k = 3) : w.cell? ⟨g, k.toNat, none⟩ = some (.string (B8 (kindN k))) := by
  refine cell_heap h ?_
  rcases hk with rfl | rfl | rfl <;> rfl
end Go.Proofs.YtjgncofhobhjdaaDoor
