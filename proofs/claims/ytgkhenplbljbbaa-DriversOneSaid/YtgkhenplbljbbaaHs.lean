
/- What the law DriversOne keeps: eight flags and eight lists of bindings beside the registry. No condition. -/
import Derived.Test.YtgkhenplbljbbaaChecked
import Derived.Deep.RegionHeld3
import Derived.Deep.DrawnRows
import Derived.Deep.DeepCutAuto
import Derived.Deep.LoopGhost
import Derived.Outline
import Derived.Handy
import Derived.OwnWalk
import Derived.BigQuiet
import Derived.Test.YtgkhenplbljbbaaHn
import Derived.Test.YtgkhenplbljbbaaHg
import Derived.Test.YtgkhenplbljbbaaLc
set_option linter.unusedVariables false
set_option linter.unusedSimpArgs false
set_option linter.unusedSectionVars false
namespace Go.Proofs.Ytgkhenplbljbbaa
open Go.RowKit Go.Maps Go.WideShapes
attribute [local go_sem ↓] Go.wp_at_zero Go.wp_at_succ

theorem match_lt (sc : Rule → Int) (l : List Drv) : (matchS sc l).1 < l.length := by
  unfold matchS
  refine upTo_inv (fun _ (a : Int × Int) => a.1 < (l.length : Int)) (by show (-1 : Int) < _; omega) _ (fun k a hk ha => ?_)
  unfold stepD
  split
  · refine upTo_inv (fun _ (a : Int × Int) => a.1 < (l.length : Int)) ha _ (fun j b _ hb => ?_)
    unfold stepR
    split
    · split
      · show (k : Int) < _; omega
      · exact hb
    · exact hb
  · exact ha
theorem choice_lt (l : List Drv) (v p cur : Int) (cfs : List Cf) : ∀ x ∈ (choiceB (mtS l v p) cur cfs).2.1, x < l.length := by
  intro x hx
  unfold choiceB at hx
  split at hx
  · cases hx
  · split at hx
    · cases hx
    · rename_i o ho
      rcases best_mem _ _ ho with h1 | h1
      · cases h1
      · obtain ⟨c, hc, rfl⟩ := List.mem_map.1 h1
        obtain ⟨a, _, rfl⟩ := List.mem_map.1 hx
        unfold drvAt
        split
        · omega
        · exact match_lt _ _
theorem good_upd {l : List Drv} {S : St} {a : Nat} {s : Option (Int × List Int)} (h : ∀ n, GoodC l (S n)) (hs : GoodC l s) : ∀ n, GoodC l (upd S a s n) := by
  intro n
  unfold upd
  split
  · exact hs
  · exact h n
theorem keysTo_eight {S : St} (h : ∀ n, 8 ≤ n → S n = none) : ∀ k, keysTo S (8 + k) = keysTo S 8
  | 0 => rfl
  | k + 1 => by
    rw [← keysTo_eight h k]
    unfold keysTo
    rw [show 8 + (k + 1) = (8 + k) + 1 from rfl, List.range_succ, List.filter_append]
    simp [h (8 + k) (by omega)]
theorem ofS_eight {S : St} (l : List Drv) (s : ByteArray) (h : ∀ n, 8 ≤ n → S n = none) : ofS l S s (keysTo S 256) = ofS l S s (List.range 8) := by
  rw [show 256 = 8 + 248 from rfl, keysTo_eight h, keysTo, ofS_keys]
theorem keys_eight {S : St} (h : ∀ n, 8 ≤ n → S n = none) : (keysTo S 256).length ≤ 12 := by
  rw [show 256 = 8 + 248 from rfl, keysTo_eight h]
  have := List.length_filter_le (fun k => (S k).isSome) (List.range 8)
  rw [List.length_range] at this
  unfold keysTo
  omega
def noneB : ByteArray := ⟨#[78, 79, 78, 69]⟩
theorem nameAt_mem {l : List Drv} {p : ByteArray → Prop} (h0 : p ByteArray.empty) (h : ∀ d ∈ l, p d.name) (x : Int) : p (nameAt l x) := by
  unfold nameAt
  cases hx : l[x.toNat]? with
  | none => exact h0
  | some d => exact h d (List.mem_of_getElem? hx)
theorem bindTo_name {l : List Drv} {p : ByteArray → Prop} (h0 : p ByteArray.empty) (h : ∀ d ∈ l, p d.name) (n : Int) (L : List Int) : ∀ k, ∀ b ∈ bindTo l n L k, p b.d
  | 0, b, hb => by cases hb
  | k + 1, b, hb => by
    have ih := bindTo_name h0 h n L k b
    unfold bindTo at hb
    split at hb
    · split at hb
      · rcases List.mem_append.1 hb with h1 | h1
        · exact ih h1
        · rw [List.mem_singleton.1 h1]; exact nameAt_mem h0 h _
      · exact ih hb
    · exact ih hb
theorem ofS_none {l : List Drv} {S : St} (h : ∀ d ∈ l, sameB d.name noneB = false) (ks : List Nat) : ofS l S noneB ks = [] := by
  unfold ofS
  rw [List.flatMap_eq_nil_iff]
  intro n _
  rw [List.filter_eq_nil_iff]
  intro b hb
  have : sameB b.d noneB = false := by
    unfold bindS at hb
    split at hb
    · cases hb
    · exact bindTo_name (p := fun s => sameB s noneB = false) (by decide) h _ _ _ b hb
  rw [this]; simp
theorem dOf_none (x : List (List Rp)) : ∀ d ∈ dOf x, sameB d.name noneB = false := by
  intro d hd
  obtain ⟨k, hk, e⟩ := List.getElem_of_mem hd
  obtain ⟨h6, row, _, rfl⟩ := dOf_get (by rw [List.getElem?_eq_getElem hk, e])
  show sameB (nameD k) noneB = false
  have : ∀ i : Fin 6, sameB (nameD i.val) noneB = false := by decide +kernel
  exact this ⟨k, h6⟩

/-- the law's memory: flags in block T, lists in block B -/
structure Mem (w : World) (base T B : Nat) (vs : Nat → Value) (F : Nat → List Bind) (th : Nat → Bool) : Prop where
  flags : ∃ cs : Array Value, w.heap[T]? = some (.cells cs 72 (0, 0)) ∧ ∀ n, n < 8 → cs[n]? = some (.bool (th n))
  lists : ∃ cs : Array Value, w.heap[B]? = some (.cells cs 74 (0, 0)) ∧ ∀ n, n < 8 → cs[n]? = some (vs n)
  own : ∀ n, n < 8 → Own bdT 82 base w (vs n) (F n).length (F n)
  apart : ∀ n k, n < 8 → k < 8 → n ≠ k → ∀ g, (vs n).ownBlock = some g → (vs k).ownBlock ≠ some g
  tb : T < base ∧ B < base ∧ T ≠ B
def setF {α : Type} (f : Nat → α) (n : Nat) (x : α) : Nat → α := fun k => if k = n then x else f k
theorem setF_same {α : Type} (f : Nat → α) (n : Nat) (x : α) : setF f n x n = x := by simp [setF]
theorem setF_other {α : Type} (f : Nat → α) {n k : Nat} (x : α) (h : k ≠ n) : setF f n x k = f k := by simp [setF, h]
theorem cells_put {cs : Array Value} {f : Nat → Value} (h : ∀ n, n < 8 → cs[n]? = some (f n)) {n : Nat} (hn : n < 8) (v : Value) : ∀ k, k < 8 → (cs.setIfInBounds n v)[k]? = some (setF f n v k) := by
  intro k hk
  by_cases hkn : n = k
  · subst hkn
    obtain ⟨h1, _⟩ := Array.getElem?_eq_some_iff.1 (h n hn)
    rw [setF_same]; simp [h1]
  · rw [setF_other _ _ (fun e => hkn e.symm), Array.getElem?_setIfInBounds_ne hkn]
    exact h k hk
theorem cells_same {cs : Array Value} {f g : Nat → Value} (h : ∀ n, n < 8 → cs[n]? = some (f n)) (hfg : ∀ n, f n = g n) : ∀ n, n < 8 → cs[n]? = some (g n) := fun n hn => by rw [← hfg n]; exact h n hn
theorem flat_bd : Flat bdT := fun {w w' F F' x cs} h => h
section
variable {w w' : World} {base T B : Nat} {vs : Nat → Value} {F : Nat → List Bind} {th : Nat → Bool}
theorem Mem.kept (h : Mem w base T B vs F th) (hk : Kept w w') : Mem w' base T B vs F th := by
  obtain ⟨⟨c1, h1, h2⟩, ⟨c2, h3, h4⟩, h5, h6, h7⟩ := h
  exact ⟨⟨c1, heap_kept hk h1, h2⟩, ⟨c2, heap_kept hk h3, h4⟩, fun n hn => (h5 n hn).kept hk, h6, h7⟩
theorem Mem.grown {m : Nat} (h : Mem w base T B vs F th) (hg : w.grownBy w' (some m)) (hm : m < base) (h1 : m ≠ T) (h2 : m ≠ B) : Mem w' base T B vs F th := by
  obtain ⟨⟨c1, h3, h4⟩, ⟨c2, h5, h6⟩, h7, h8, h9⟩ := h
  refine ⟨⟨c1, heap_but hg h3 (fun e => h1 e.symm), h4⟩, ⟨c2, heap_but hg h5 (fun e => h2 e.symm), h6⟩, fun n hn => ?_, h8, h9⟩
  obtain ⟨hl, cs, hrow, hc⟩ := h7 n hn
  refine ⟨hl, cs, hrow.kept hg (.inr (fun e => ?_)), hc⟩
  have := ((h7 n hn).lt e).1
  omega
theorem Mem.flag (h : Mem w base T B vs F th) {n : Nat} (hn : n < 8) : w.cell? ⟨T, n, none⟩ = some (.bool (th n)) ∧ w.frozen? ⟨T, n, none⟩ = false ∧ T < w.heap.size := by
  obtain ⟨cs, h1, h2⟩ := h.flags
  exact ⟨cell_heap h1 (h2 n hn), frozen_heap h1, heap_lt h1⟩
theorem Mem.list (h : Mem w base T B vs F th) {n : Nat} (hn : n < 8) : w.cell? ⟨B, n, none⟩ = some (vs n) ∧ w.frozen? ⟨B, n, none⟩ = false ∧ B < w.heap.size := by
  obtain ⟨cs, h1, h2⟩ := h.lists
  exact ⟨cell_heap h1 (h2 n hn), frozen_heap h1, heap_lt h1⟩
theorem Mem.put (h : Mem w base T B vs F th) {n : Nat} (hn : n < 8) (b : Bool) : Mem (w.setCell ⟨T, n, none⟩ (.bool b)) base T B vs F (setF th n b) := by
  obtain ⟨⟨c1, h3, h4⟩, ⟨c2, h5, h6⟩, h7, h8, h9⟩ := h
  refine ⟨⟨_, heap_store h3 _, cells_same (cells_put h4 hn (.bool b)) (fun k => ?_)⟩, ⟨c2, ?_, h6⟩, fun k hk => (h7 k hk).setCell flat_bd h9.1 _, h8, h9⟩
  · unfold setF; split <;> rfl
  · exact heap_other h5 (fun e => h9.2.2 e.symm)
theorem Mem.putList (h : Mem w base T B vs F th) {n : Nat} (hn : n < 8) (v : Value) (l : List Bind) (ho : Own bdT 82 base w v l.length l) (ha : ∀ k, k < 8 → k ≠ n → ∀ g, v.ownBlock = some g → (vs k).ownBlock ≠ some g) : Mem (w.setCell ⟨B, n, none⟩ v) base T B (setF vs n v) (setF F n l) th := by
  obtain ⟨⟨c1, h3, h4⟩, ⟨c2, h5, h6⟩, h7, h8, h9⟩ := h
  refine ⟨⟨c1, heap_other h3 h9.2.2, h4⟩, ⟨_, heap_store h5 _, cells_put h6 hn v⟩, fun k hk => ?_, fun i k hi hk hik g hg => ?_, h9⟩
  · by_cases hkn : k = n
    · subst hkn
      rw [setF_same, setF_same]
      exact ho.setCell flat_bd h9.2.1 _
    · rw [setF_other _ _ hkn, setF_other _ _ hkn]
      exact (h7 k hk).setCell flat_bd h9.2.1 _
  · by_cases hin : i = n
    · subst hin
      rw [setF_same] at hg
      rw [setF_other _ _ (fun e => hik e.symm)]
      exact ha k hk (fun e => hik e.symm) g hg
    · rw [setF_other _ _ hin] at hg
      by_cases hkn : k = n
      · subst hkn
        rw [setF_same]
        exact fun e => ha i hi hin g e hg
      · rw [setF_other _ _ hkn]
        exact h8 i k hi hk hik g hg
/-- the list of n grows by an append: the others are kept -/
theorem Mem.other (h : Mem w base T B vs F th) {n : Nat} (hn : n < 8) (hg : w.grownBy w' (vs n).ownBlock) (k : Nat) (hk : k < 8) (hkn : k ≠ n) : Own bdT 82 base w' (vs k) (F k).length (F k) := by
  obtain ⟨hl, cs, hrow, hc⟩ := h.own k hk
  refine ⟨hl, cs, hrow.kept hg ?_, hc⟩
  cases hv : (vs k).ownBlock with
  | none => exact .inl rfl
  | some g => exact .inr (fun e => h.apart k n hk hn hkn g hv e.symm)
end
end Go.Proofs.Ytgkhenplbljbbaa
