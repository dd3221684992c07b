
/- find: the form of an operation. The chapter's tables are as the program lays them. -/
import Derived.Test.YtfojemocffelhaaDoorChecked
import Derived.Deep.RegionHeld3
import Derived.Deep.DrawnRows
import Derived.Deep.DeepCutAuto
import Derived.Deep.LoopGhost
import Derived.Outline
import Derived.Handy
import Derived.OwnWalk
import Derived.Test.YtfojemocffelhaaDoorSa
import Derived.Test.YtfojemocffelhaaDoorOp
import Derived.Test.YtfojemocffelhaaDoorTa
set_option linter.unusedVariables false
set_option linter.unusedSimpArgs false
set_option linter.unusedSectionVars false
namespace Go.Proofs.YtfojemocffelhaaDoor
open Go.RowKit Go.Shelf Go.Lib
attribute [local go_sem ↓] Go.wp_at_zero Go.wp_at_succ

/-- the tables, as the program lays them -/
structure Tabs (W : World) : Prop where
  forms : ∃ t fr, W.heap[0]? = some (.cells (formsL.flatMap encF).toArray t fr)
  pow : ∃ t fr, W.heap[1]? = some (.cells (Lib.pow10Tab.map fun z => Value.int .u64 z).toArray t fr)
theorem Tabs.kept {w w' : World} (h : Tabs w) (hk : Kept w w') : Tabs w' := by
  obtain ⟨⟨t, fr, h1⟩, ⟨t', fr', h2⟩⟩ := h
  exact ⟨⟨t, fr, heap_kept hk h1⟩, ⟨t', fr', heap_kept hk h2⟩⟩
theorem Tabs.alloc {w : World} (h : Tabs w) (o : Obj) : Tabs (w.alloc o) := h.kept ((Below.refl _ _).alloc (Nat.le_refl _) o)
theorem Tabs.drew {w : World} (h : Tabs w) : Tabs w.drew := h.kept (Below.refl _ _).drew
theorem Tabs.lt {w : World} (h : Tabs w) : 1 < w.heap.size := by
  obtain ⟨_, ⟨_, _, h2⟩⟩ := h
  exact (Array.getElem?_eq_some_iff.1 h2).1
theorem Tabs.cell {w : World} (h : Tabs w) (o : Nat) {v : Value} (hv : (formsL.flatMap encF)[o]? = some v) : w.cell? ⟨0, o, none⟩ = some v := by
  obtain ⟨⟨t, fr, h1⟩, _⟩ := h
  rw [cell_of_row _ _ _ _ _ _ h1]
  simpa using hv
theorem Tabs.powIs {w : World} (h : Tabs w) {n : String} (hn : Tryd.prog.globalNamed n = some 1) : Lib.TabIs Tryd.prog w n .u64 Lib.pow10Tab := by
  obtain ⟨_, ⟨t, fr, h1⟩⟩ := h
  unfold Lib.TabIs World.var?
  rw [hn]
  simp only [Option.bind_some, h1]

theorem eqF (op n : Int) (B : Nat) (w : World) (hB : B < w.heap.size) (hcell : w.cell? ⟨B, 0, none⟩ = some (.int .u8 op)) :
    PredBelow Tryd.prog 42 #[.pointer (some ⟨B, 0, none⟩)] (fun x => .agg (encF x).toArray) (fun f => decide ((f.op : Int) = op)) w := fun W x hb => by
  have hc : W.cell? ⟨B, 0, none⟩ = some (.int .u8 op) := (hb.cell (p := ⟨B, 0, none⟩) hB).trans hcell
  have hBW : B < W.heap.size := Nat.lt_of_lt_of_le hB hb.size
  have hne : B ≠ W.heap.size := by omega
  show Calls Tryd.prog 42 #[.agg #[.int .u8 x.op, .string x.name, .int .i64 x.width, .bool x.len, .bool x.blk, .int .u8 x.dir], .pointer (some ⟨B, 0, none⟩)] W _
  go_enter Tryd.func42, Tryd.ntmps42
  go_wp2
  all_goals (go_ret; exact ⟨by simp_all; rfl, hb.alloc hb.size _⟩)
theorem formsCell {w : World} (hT : Tabs w) (j : Nat) (hj : j < formsL.length) (i : Nat) (v : Value) (hi : (encF formsL[j]!)[i]? = some v) : w.cell? ⟨0, 0 + j * 6 + i, none⟩ = some v := by
  refine hT.cell _ ?_
  have hi6 : i < 6 := by
    have := (List.getElem?_eq_some_iff.1 hi).1
    simpa [encF] using this
  have h7 : j < 7 := hj
  rw [← hi]
  match j, h7, i, hi6 with
  | 0, _, 0, _ | 0, _, 1, _ | 0, _, 2, _ | 0, _, 3, _ | 0, _, 4, _ | 0, _, 5, _ => rfl
  | 1, _, 0, _ | 1, _, 1, _ | 1, _, 2, _ | 1, _, 3, _ | 1, _, 4, _ | 1, _, 5, _ => rfl
  | 2, _, 0, _ | 2, _, 1, _ | 2, _, 2, _ | 2, _, 3, _ | 2, _, 4, _ | 2, _, 5, _ => rfl
  | 3, _, 0, _ | 3, _, 1, _ | 3, _, 2, _ | 3, _, 3, _ | 3, _, 4, _ | 3, _, 5, _ => rfl
  | 4, _, 0, _ | 4, _, 1, _ | 4, _, 2, _ | 4, _, 3, _ | 4, _, 4, _ | 4, _, 5, _ => rfl
  | 5, _, 0, _ | 5, _, 1, _ | 5, _, 2, _ | 5, _, 3, _ | 5, _, 4, _ | 5, _, 5, _ => rfl
  | 6, _, 0, _ | 6, _, 1, _ | 6, _, 2, _ | 6, _, 3, _ | 6, _, 4, _ | 6, _, 5, _ => rfl
theorem index_any (op : Int) (B : Nat) (w : World) (hT : Tabs w) (hB : B < w.heap.size) (hcell : w.cell? ⟨B, 0, none⟩ = some (.int .u8 op)) :
    Calls Tryd.prog 41 #[.slice (some ⟨0, 0, none⟩) 7 7, .func (.func 42) #[] #[.pointer (some ⟨B, 0, none⟩)]] w fun e w' => e = .returned (.int .i64 (Lib.idxBy (fun _ y => decide ((y.op : Int) = op)) formsL default)) ∧ Kept w w' := by
  have eg : ∀ args w, (callFunc 42 args).run Tryd.prog w = .ok (.enter 42 args) w := enters_of Tryd.func42 (by kernel_rfl) rfl
  exact AnyQ.slices_IndexFunc laysIndex 6 Tryd.isAgg69 Tryd.sizeOf69 encF (fun _ => rfl) (fun f => decide ((f.op : Int) = op)) 42 #[.pointer (some ⟨B, 0, none⟩)] eg 0 0 7 7 formsL w
    (eqF op 0 B w hB hcell) (Nat.le_refl _) (by omega) (by have := hT.lt; omega) (fun j hj i v hi => formsCell hT j hj i v hi)
theorem idx_at (k : Nat) (hk : k < 7) : Lib.idxBy (fun _ y : Form => decide ((y.op : Int) = ((formsL[k]!).op : Int))) formsL default = k := by
  match k, hk with
  | 0, _ | 1, _ | 2, _ | 3, _ | 4, _ | 5, _ | 6, _ => decide
theorem idx_no (op : Int) (h : ∀ f ∈ formsL, (f.op : Int) ≠ op) : Lib.idxBy (fun _ y : Form => decide ((y.op : Int) = op)) formsL default = -1 := by
  refine Lib.idxBy_miss _ formsL 7 default fun j hj => ?_
  have hj : j < formsL.length := hj
  have : formsL[j]! ∈ formsL := by rw [getElem!_pos formsL j hj]; exact List.getElem_mem hj
  simpa using h _ this
set_option maxRecDepth 100000 in
set_option maxHeartbeats 1000000 in
theorem find_no (op : Int) (w : World) (hT : Tabs w) (h : ∀ f ∈ formsL, (f.op : Int) ≠ op) :
    Calls Tryd.prog 27 #[.int .u8 op] w fun e w' => e = .returned (.tuple #[.agg #[.int .u8 0, .string ⟨#[]⟩, .int .i64 0, .bool false, .bool false, .int .u8 0], .bool false]) ∧ Kept w w' := by
  have hc : ∀ w2 B, Tabs w2 → B < w2.heap.size → w2.cell? ⟨B, 0, none⟩ = some (.int .u8 op) → Calls Tryd.prog 41 #[.slice (some ⟨0, 0, none⟩) 7 7, .func (.func 42) #[] #[.pointer (some ⟨B, 0, none⟩)]] w2 fun e w' => e = .returned (.int .i64 (-1)) ∧ Kept w2 w' := fun w2 B h1 h2 h3 => by
    have := index_any op B w2 h1 h2 h3
    rw [idx_no op h] at this
    exact this
  clear h
  go_enter Tryd.func27, Tryd.ntmps27
  go_wp2_with (go_at_call 41; refine (hc _ w.heap.size ((hT.alloc _).alloc _) (by simp <;> omega) (by simp)).mono ?_; rintro e w1 ⟨rfl, hk1⟩; obtain ⟨hc1, hf1⟩ := bcell hk1; have hs1 := hk1.size; simp only [World.size_alloc] at hc1 hf1 hs1; have hkw : Below w.heap.size w w1 := (((Below.refl _ w).alloc (Nat.le_refl _) _).alloc (by simp) _).trans (hk1.mono (by simp <;> omega)))
  refine bodyPost_ret (v := .tuple #[.agg #[.int .u8 0, .string ⟨#[]⟩, .int .i64 0, .bool false, .bool false, .int .u8 0], .bool false]) (by simp [results, Tryd.results27, go_sem, hc1]) rfl ?_
  refine ⟨rfl, ?_⟩
  go_grown
set_option maxRecDepth 100000 in
set_option maxHeartbeats 1000000 in
theorem find_0 (w : World) (hT : Tabs w) :
    Calls Tryd.prog 27 #[.int .u8 0] w fun e w' => e = .returned (.tuple #[.agg #[.int .u8 0, .string ⟨#[82, 69, 65, 68, 89]⟩, .int .i64 6, .bool false, .bool false, .int .u8 0], .bool true]) ∧ Kept w w' := by
  have hc : ∀ w2 B, Tabs w2 → B < w2.heap.size → w2.cell? ⟨B, 0, none⟩ = some (.int .u8 0) → Calls Tryd.prog 41 #[.slice (some ⟨0, 0, none⟩) 7 7, .func (.func 42) #[] #[.pointer (some ⟨B, 0, none⟩)]] w2 fun e w' => e = .returned (.int .i64 0) ∧ Kept w2 w' := fun w2 B h1 h2 h3 => by
    have := index_any 0 B w2 h1 h2 h3
    rw [show Lib.idxBy (fun _ y : Form => decide ((y.op : Int) = 0)) formsL default = 0 by decide] at this
    exact this
  go_enter Tryd.func27, Tryd.ntmps27
  go_wp2_with fail
  go_at_call 41
  refine (hc _ w.heap.size ((hT.alloc _).alloc _) (by simp <;> omega) (by simp)).mono ?_
  rintro e w1 ⟨rfl, hk1⟩
  obtain ⟨hc1, hf1⟩ := bcell hk1
  have hs1 := hk1.size
  simp only [World.size_alloc] at hc1 hf1 hs1
  have hkw : Below w.heap.size w w1 := (((Below.refl _ w).alloc (Nat.le_refl _) _).alloc (by simp) _).trans (hk1.mono (by simp <;> omega))
  have hlt := hT.lt
  have hne0 : (0 : Nat) ≠ w.heap.size := by omega
  have hne1 : (0 : Nat) ≠ w.heap.size + 1 := by omega
  have g0 := (hT.alloc (.cells #[.int .u8 0] 22)).cell 0 (v := .int .u8 0) rfl
  have g1 := (hT.alloc (.cells #[.int .u8 0] 22)).cell 1 (v := .string ⟨#[82, 69, 65, 68, 89]⟩) rfl
  have g2 := (hT.alloc (.cells #[.int .u8 0] 22)).cell 2 (v := .int .i64 6) rfl
  have g3 := (hT.alloc (.cells #[.int .u8 0] 22)).cell 3 (v := .bool false) rfl
  have g4 := (hT.alloc (.cells #[.int .u8 0] 22)).cell 4 (v := .bool false) rfl
  have g5 := (hT.alloc (.cells #[.int .u8 0] 22)).cell 5 (v := .int .u8 0) rfl
  go_wp2
  refine bodyPost_ret (v := .tuple #[.agg #[.int .u8 0, .string ⟨#[82, 69, 65, 68, 89]⟩, .int .i64 6, .bool false, .bool false, .int .u8 0], .bool true]) (by simp [results, Tryd.results27, go_sem, hc1]) rfl ?_
  refine ⟨rfl, ?_⟩
  go_grown
set_option maxRecDepth 100000 in
set_option maxHeartbeats 1000000 in
theorem find_3 (w : World) (hT : Tabs w) :
    Calls Tryd.prog 27 #[.int .u8 3] w fun e w' => e = .returned (.tuple #[.agg #[.int .u8 3, .string ⟨#[65, 83, 75]⟩, .int .i64 6, .bool true, .bool false, .int .u8 1], .bool true]) ∧ Kept w w' := by
  have hc : ∀ w2 B, Tabs w2 → B < w2.heap.size → w2.cell? ⟨B, 0, none⟩ = some (.int .u8 3) → Calls Tryd.prog 41 #[.slice (some ⟨0, 0, none⟩) 7 7, .func (.func 42) #[] #[.pointer (some ⟨B, 0, none⟩)]] w2 fun e w' => e = .returned (.int .i64 1) ∧ Kept w2 w' := fun w2 B h1 h2 h3 => by
    have := index_any 3 B w2 h1 h2 h3
    rw [show Lib.idxBy (fun _ y : Form => decide ((y.op : Int) = 3)) formsL default = 1 by decide] at this
    exact this
  go_enter Tryd.func27, Tryd.ntmps27
  go_wp2_with fail
  go_at_call 41
  refine (hc _ w.heap.size ((hT.alloc _).alloc _) (by simp <;> omega) (by simp)).mono ?_
  rintro e w1 ⟨rfl, hk1⟩
  obtain ⟨hc1, hf1⟩ := bcell hk1
  have hs1 := hk1.size
  simp only [World.size_alloc] at hc1 hf1 hs1
  have hkw : Below w.heap.size w w1 := (((Below.refl _ w).alloc (Nat.le_refl _) _).alloc (by simp) _).trans (hk1.mono (by simp <;> omega))
  have hlt := hT.lt
  have hne0 : (0 : Nat) ≠ w.heap.size := by omega
  have hne1 : (0 : Nat) ≠ w.heap.size + 1 := by omega
  have g0 := (hT.alloc (.cells #[.int .u8 3] 22)).cell 6 (v := .int .u8 3) rfl
  have g1 := (hT.alloc (.cells #[.int .u8 3] 22)).cell 7 (v := .string ⟨#[65, 83, 75]⟩) rfl
  have g2 := (hT.alloc (.cells #[.int .u8 3] 22)).cell 8 (v := .int .i64 6) rfl
  have g3 := (hT.alloc (.cells #[.int .u8 3] 22)).cell 9 (v := .bool true) rfl
  have g4 := (hT.alloc (.cells #[.int .u8 3] 22)).cell 10 (v := .bool false) rfl
  have g5 := (hT.alloc (.cells #[.int .u8 3] 22)).cell 11 (v := .int .u8 1) rfl
  go_wp2
  refine bodyPost_ret (v := .tuple #[.agg #[.int .u8 3, .string ⟨#[65, 83, 75]⟩, .int .i64 6, .bool true, .bool false, .int .u8 1], .bool true]) (by simp [results, Tryd.results27, go_sem, hc1]) rfl ?_
  refine ⟨rfl, ?_⟩
  go_grown
set_option maxRecDepth 100000 in
set_option maxHeartbeats 1000000 in
theorem find_18 (w : World) (hT : Tabs w) :
    Calls Tryd.prog 27 #[.int .u8 18] w fun e w' => e = .returned (.tuple #[.agg #[.int .u8 18, .string ⟨#[73, 68, 69, 78, 84, 73, 70, 89]⟩, .int .i64 6, .bool true, .bool false, .int .u8 1], .bool true]) ∧ Kept w w' := by
  have hc : ∀ w2 B, Tabs w2 → B < w2.heap.size → w2.cell? ⟨B, 0, none⟩ = some (.int .u8 18) → Calls Tryd.prog 41 #[.slice (some ⟨0, 0, none⟩) 7 7, .func (.func 42) #[] #[.pointer (some ⟨B, 0, none⟩)]] w2 fun e w' => e = .returned (.int .i64 2) ∧ Kept w2 w' := fun w2 B h1 h2 h3 => by
    have := index_any 18 B w2 h1 h2 h3
    rw [show Lib.idxBy (fun _ y : Form => decide ((y.op : Int) = 18)) formsL default = 2 by decide] at this
    exact this
  go_enter Tryd.func27, Tryd.ntmps27
  go_wp2_with fail
  go_at_call 41
  refine (hc _ w.heap.size ((hT.alloc _).alloc _) (by simp <;> omega) (by simp)).mono ?_
  rintro e w1 ⟨rfl, hk1⟩
  obtain ⟨hc1, hf1⟩ := bcell hk1
  have hs1 := hk1.size
  simp only [World.size_alloc] at hc1 hf1 hs1
  have hkw : Below w.heap.size w w1 := (((Below.refl _ w).alloc (Nat.le_refl _) _).alloc (by simp) _).trans (hk1.mono (by simp <;> omega))
  have hlt := hT.lt
  have hne0 : (0 : Nat) ≠ w.heap.size := by omega
  have hne1 : (0 : Nat) ≠ w.heap.size + 1 := by omega
  have g0 := (hT.alloc (.cells #[.int .u8 18] 22)).cell 12 (v := .int .u8 18) rfl
  have g1 := (hT.alloc (.cells #[.int .u8 18] 22)).cell 13 (v := .string ⟨#[73, 68, 69, 78, 84, 73, 70, 89]⟩) rfl
  have g2 := (hT.alloc (.cells #[.int .u8 18] 22)).cell 14 (v := .int .i64 6) rfl
  have g3 := (hT.alloc (.cells #[.int .u8 18] 22)).cell 15 (v := .bool true) rfl
  have g4 := (hT.alloc (.cells #[.int .u8 18] 22)).cell 16 (v := .bool false) rfl
  have g5 := (hT.alloc (.cells #[.int .u8 18] 22)).cell 17 (v := .int .u8 1) rfl
  go_wp2
  refine bodyPost_ret (v := .tuple #[.agg #[.int .u8 18, .string ⟨#[73, 68, 69, 78, 84, 73, 70, 89]⟩, .int .i64 6, .bool true, .bool false, .int .u8 1], .bool true]) (by simp [results, Tryd.results27, go_sem, hc1]) rfl ?_
  refine ⟨rfl, ?_⟩
  go_grown
set_option maxRecDepth 100000 in
set_option maxHeartbeats 1000000 in
theorem find_37 (w : World) (hT : Tabs w) :
    Calls Tryd.prog 27 #[.int .u8 37] w fun e w' => e = .returned (.tuple #[.agg #[.int .u8 37, .string ⟨#[83, 73, 90, 69]⟩, .int .i64 10, .bool false, .bool false, .int .u8 1], .bool true]) ∧ Kept w w' := by
  have hc : ∀ w2 B, Tabs w2 → B < w2.heap.size → w2.cell? ⟨B, 0, none⟩ = some (.int .u8 37) → Calls Tryd.prog 41 #[.slice (some ⟨0, 0, none⟩) 7 7, .func (.func 42) #[] #[.pointer (some ⟨B, 0, none⟩)]] w2 fun e w' => e = .returned (.int .i64 3) ∧ Kept w2 w' := fun w2 B h1 h2 h3 => by
    have := index_any 37 B w2 h1 h2 h3
    rw [show Lib.idxBy (fun _ y : Form => decide ((y.op : Int) = 37)) formsL default = 3 by decide] at this
    exact this
  go_enter Tryd.func27, Tryd.ntmps27
  go_wp2_with fail
  go_at_call 41
  refine (hc _ w.heap.size ((hT.alloc _).alloc _) (by simp <;> omega) (by simp)).mono ?_
  rintro e w1 ⟨rfl, hk1⟩
  obtain ⟨hc1, hf1⟩ := bcell hk1
  have hs1 := hk1.size
  simp only [World.size_alloc] at hc1 hf1 hs1
  have hkw : Below w.heap.size w w1 := (((Below.refl _ w).alloc (Nat.le_refl _) _).alloc (by simp) _).trans (hk1.mono (by simp <;> omega))
  have hlt := hT.lt
  have hne0 : (0 : Nat) ≠ w.heap.size := by omega
  have hne1 : (0 : Nat) ≠ w.heap.size + 1 := by omega
  have g0 := (hT.alloc (.cells #[.int .u8 37] 22)).cell 18 (v := .int .u8 37) rfl
  have g1 := (hT.alloc (.cells #[.int .u8 37] 22)).cell 19 (v := .string ⟨#[83, 73, 90, 69]⟩) rfl
  have g2 := (hT.alloc (.cells #[.int .u8 37] 22)).cell 20 (v := .int .i64 10) rfl
  have g3 := (hT.alloc (.cells #[.int .u8 37] 22)).cell 21 (v := .bool false) rfl
  have g4 := (hT.alloc (.cells #[.int .u8 37] 22)).cell 22 (v := .bool false) rfl
  have g5 := (hT.alloc (.cells #[.int .u8 37] 22)).cell 23 (v := .int .u8 1) rfl
  go_wp2
  refine bodyPost_ret (v := .tuple #[.agg #[.int .u8 37, .string ⟨#[83, 73, 90, 69]⟩, .int .i64 10, .bool false, .bool false, .int .u8 1], .bool true]) (by simp [results, Tryd.results27, go_sem, hc1]) rfl ?_
  refine ⟨rfl, ?_⟩
  go_grown
set_option maxRecDepth 100000 in
set_option maxHeartbeats 1000000 in
theorem find_40 (w : World) (hT : Tabs w) :
    Calls Tryd.prog 27 #[.int .u8 40] w fun e w' => e = .returned (.tuple #[.agg #[.int .u8 40, .string ⟨#[82, 69, 65, 68]⟩, .int .i64 10, .bool false, .bool true, .int .u8 1], .bool true]) ∧ Kept w w' := by
  have hc : ∀ w2 B, Tabs w2 → B < w2.heap.size → w2.cell? ⟨B, 0, none⟩ = some (.int .u8 40) → Calls Tryd.prog 41 #[.slice (some ⟨0, 0, none⟩) 7 7, .func (.func 42) #[] #[.pointer (some ⟨B, 0, none⟩)]] w2 fun e w' => e = .returned (.int .i64 4) ∧ Kept w2 w' := fun w2 B h1 h2 h3 => by
    have := index_any 40 B w2 h1 h2 h3
    rw [show Lib.idxBy (fun _ y : Form => decide ((y.op : Int) = 40)) formsL default = 4 by decide] at this
    exact this
  go_enter Tryd.func27, Tryd.ntmps27
  go_wp2_with fail
  go_at_call 41
  refine (hc _ w.heap.size ((hT.alloc _).alloc _) (by simp <;> omega) (by simp)).mono ?_
  rintro e w1 ⟨rfl, hk1⟩
  obtain ⟨hc1, hf1⟩ := bcell hk1
  have hs1 := hk1.size
  simp only [World.size_alloc] at hc1 hf1 hs1
  have hkw : Below w.heap.size w w1 := (((Below.refl _ w).alloc (Nat.le_refl _) _).alloc (by simp) _).trans (hk1.mono (by simp <;> omega))
  have hlt := hT.lt
  have hne0 : (0 : Nat) ≠ w.heap.size := by omega
  have hne1 : (0 : Nat) ≠ w.heap.size + 1 := by omega
  have g0 := (hT.alloc (.cells #[.int .u8 40] 22)).cell 24 (v := .int .u8 40) rfl
  have g1 := (hT.alloc (.cells #[.int .u8 40] 22)).cell 25 (v := .string ⟨#[82, 69, 65, 68]⟩) rfl
  have g2 := (hT.alloc (.cells #[.int .u8 40] 22)).cell 26 (v := .int .i64 10) rfl
  have g3 := (hT.alloc (.cells #[.int .u8 40] 22)).cell 27 (v := .bool false) rfl
  have g4 := (hT.alloc (.cells #[.int .u8 40] 22)).cell 28 (v := .bool true) rfl
  have g5 := (hT.alloc (.cells #[.int .u8 40] 22)).cell 29 (v := .int .u8 1) rfl
  go_wp2
  refine bodyPost_ret (v := .tuple #[.agg #[.int .u8 40, .string ⟨#[82, 69, 65, 68]⟩, .int .i64 10, .bool false, .bool true, .int .u8 1], .bool true]) (by simp [results, Tryd.results27, go_sem, hc1]) rfl ?_
  refine ⟨rfl, ?_⟩
  go_grown
set_option maxRecDepth 100000 in
set_option maxHeartbeats 1000000 in
theorem find_42 (w : World) (hT : Tabs w) :
    Calls Tryd.prog 27 #[.int .u8 42] w fun e w' => e = .returned (.tuple #[.agg #[.int .u8 42, .string ⟨#[87, 82, 73, 84, 69]⟩, .int .i64 10, .bool false, .bool true, .int .u8 2], .bool true]) ∧ Kept w w' := by
  have hc : ∀ w2 B, Tabs w2 → B < w2.heap.size → w2.cell? ⟨B, 0, none⟩ = some (.int .u8 42) → Calls Tryd.prog 41 #[.slice (some ⟨0, 0, none⟩) 7 7, .func (.func 42) #[] #[.pointer (some ⟨B, 0, none⟩)]] w2 fun e w' => e = .returned (.int .i64 5) ∧ Kept w2 w' := fun w2 B h1 h2 h3 => by
    have := index_any 42 B w2 h1 h2 h3
    rw [show Lib.idxBy (fun _ y : Form => decide ((y.op : Int) = 42)) formsL default = 5 by decide] at this
    exact this
  go_enter Tryd.func27, Tryd.ntmps27
  go_wp2_with fail
  go_at_call 41
  refine (hc _ w.heap.size ((hT.alloc _).alloc _) (by simp <;> omega) (by simp)).mono ?_
  rintro e w1 ⟨rfl, hk1⟩
  obtain ⟨hc1, hf1⟩ := bcell hk1
  have hs1 := hk1.size
  simp only [World.size_alloc] at hc1 hf1 hs1
  have hkw : Below w.heap.size w w1 := (((Below.refl _ w).alloc (Nat.le_refl _) _).alloc (by simp) _).trans (hk1.mono (by simp <;> omega))
  have hlt := hT.lt
  have hne0 : (0 : Nat) ≠ w.heap.size := by omega
  have hne1 : (0 : Nat) ≠ w.heap.size + 1 := by omega
  have g0 := (hT.alloc (.cells #[.int .u8 42] 22)).cell 30 (v := .int .u8 42) rfl
  have g1 := (hT.alloc (.cells #[.int .u8 42] 22)).cell 31 (v := .string ⟨#[87, 82, 73, 84, 69]⟩) rfl
  have g2 := (hT.alloc (.cells #[.int .u8 42] 22)).cell 32 (v := .int .i64 10) rfl
  have g3 := (hT.alloc (.cells #[.int .u8 42] 22)).cell 33 (v := .bool false) rfl
  have g4 := (hT.alloc (.cells #[.int .u8 42] 22)).cell 34 (v := .bool true) rfl
  have g5 := (hT.alloc (.cells #[.int .u8 42] 22)).cell 35 (v := .int .u8 2) rfl
  go_wp2
  refine bodyPost_ret (v := .tuple #[.agg #[.int .u8 42, .string ⟨#[87, 82, 73, 84, 69]⟩, .int .i64 10, .bool false, .bool true, .int .u8 2], .bool true]) (by simp [results, Tryd.results27, go_sem, hc1]) rfl ?_
  refine ⟨rfl, ?_⟩
  go_grown
set_option maxRecDepth 100000 in
set_option maxHeartbeats 1000000 in
theorem find_53 (w : World) (hT : Tabs w) :
    Calls Tryd.prog 27 #[.int .u8 53] w fun e w' => e = .returned (.tuple #[.agg #[.int .u8 53, .string ⟨#[83, 89, 78, 67, 72, 82, 79, 78, 73, 90, 69]⟩, .int .i64 10, .bool false, .bool true, .int .u8 0], .bool true]) ∧ Kept w w' := by
  have hc : ∀ w2 B, Tabs w2 → B < w2.heap.size → w2.cell? ⟨B, 0, none⟩ = some (.int .u8 53) → Calls Tryd.prog 41 #[.slice (some ⟨0, 0, none⟩) 7 7, .func (.func 42) #[] #[.pointer (some ⟨B, 0, none⟩)]] w2 fun e w' => e = .returned (.int .i64 6) ∧ Kept w2 w' := fun w2 B h1 h2 h3 => by
    have := index_any 53 B w2 h1 h2 h3
    rw [show Lib.idxBy (fun _ y : Form => decide ((y.op : Int) = 53)) formsL default = 6 by decide] at this
    exact this
  go_enter Tryd.func27, Tryd.ntmps27
  go_wp2_with fail
  go_at_call 41
  refine (hc _ w.heap.size ((hT.alloc _).alloc _) (by simp <;> omega) (by simp)).mono ?_
  rintro e w1 ⟨rfl, hk1⟩
  obtain ⟨hc1, hf1⟩ := bcell hk1
  have hs1 := hk1.size
  simp only [World.size_alloc] at hc1 hf1 hs1
  have hkw : Below w.heap.size w w1 := (((Below.refl _ w).alloc (Nat.le_refl _) _).alloc (by simp) _).trans (hk1.mono (by simp <;> omega))
  have hlt := hT.lt
  have hne0 : (0 : Nat) ≠ w.heap.size := by omega
  have hne1 : (0 : Nat) ≠ w.heap.size + 1 := by omega
  have g0 := (hT.alloc (.cells #[.int .u8 53] 22)).cell 36 (v := .int .u8 53) rfl
  have g1 := (hT.alloc (.cells #[.int .u8 53] 22)).cell 37 (v := .string ⟨#[83, 89, 78, 67, 72, 82, 79, 78, 73, 90, 69]⟩) rfl
  have g2 := (hT.alloc (.cells #[.int .u8 53] 22)).cell 38 (v := .int .i64 10) rfl
  have g3 := (hT.alloc (.cells #[.int .u8 53] 22)).cell 39 (v := .bool false) rfl
  have g4 := (hT.alloc (.cells #[.int .u8 53] 22)).cell 40 (v := .bool true) rfl
  have g5 := (hT.alloc (.cells #[.int .u8 53] 22)).cell 41 (v := .int .u8 0) rfl
  go_wp2
  refine bodyPost_ret (v := .tuple #[.agg #[.int .u8 53, .string ⟨#[83, 89, 78, 67, 72, 82, 79, 78, 73, 90, 69]⟩, .int .i64 10, .bool false, .bool true, .int .u8 0], .bool true]) (by simp [results, Tryd.results27, go_sem, hc1]) rfl ?_
  refine ⟨rfl, ?_⟩
  go_grown
end Go.Proofs.YtfojemocffelhaaDoor
