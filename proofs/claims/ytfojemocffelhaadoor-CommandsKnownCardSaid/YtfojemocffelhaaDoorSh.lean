
/- Encode: by the form of the operation. -/
import Derived.Test.YtfojemocffelhaaDoorChecked
import Derived.Deep.RegionHeld3
import Derived.Deep.DrawnRows
import Derived.Deep.DeepCutAuto
import Derived.Deep.LoopGhost
import Derived.Outline
import Derived.Handy
import Derived.OwnWalk
import Derived.Laws.CopyOwn
import Derived.Test.YtfojemocffelhaaDoorSc
import Derived.Test.YtfojemocffelhaaDoorSe
set_option linter.unusedVariables false
set_option linter.unusedSimpArgs false
set_option linter.unusedSectionVars false
namespace Go.Proofs.YtfojemocffelhaaDoor
open Go.RowKit
attribute [local go_sem ↓] Go.wp_at_zero Go.wp_at_succ

/-- at any statement: the world gets a name; its blocks are known -/
theorem wp_nameH {P : Program} {c : Code} {Q : Exit → Act → World → Prop} {a : Act} {w w0 : World} {B : Nat} (hk : Below B w0 w)
    (h : ∀ W, Hid (∀ k : Nat, W.heap[k]? = w.heap[k]?) → (∀ b o, W.cell? ⟨b, o, none⟩ = w.cell? ⟨b, o, none⟩) → (∀ b o, W.frozen? ⟨b, o, none⟩ = w.frozen? ⟨b, o, none⟩) → W.heap.size = w.heap.size → Below B w0 W → c.wp P Q a W) : c.wp P Q a w :=
  h w (hide fun _ => rfl) (fun _ _ => rfl) (fun _ _ => rfl) rfl hk
def u8C (l : List UInt8) : List Value := l.map (fun b => Value.int .u8 (b.toNat : Int))
theorem u8C_append (l m : List UInt8) : u8C (l ++ m) = u8C l ++ u8C m := by simp [u8C]
theorem u8C_len (l : List UInt8) : (u8C l).length = l.length := by simp [u8C]
theorem own_cells {base g n c : Nat} {w : World} {xs : List UInt8} (h : Own byT 5 base w (.slice (some ⟨g, 0, none⟩) n c) n xs) (j : Nat) (v : Value) (hv : (u8C xs)[j]? = some v) : w.cell? ⟨g, j, none⟩ = some v := by
  unfold u8C at hv
  rw [List.getElem?_map, Option.map_eq_some_iff] at hv
  obtain ⟨x, hx, rfl⟩ := hv
  obtain ⟨b, off, cs, hA, _, ⟨rfl, _⟩, hc⟩ := h.sl.2 j x hx
  injection hA with hA
  injection hA with e1 e2 _
  subst e1 e2
  have h0 := hc 0 _ rfl
  simpa [byT, Ty.flat] using h0
theorem put4n (n : Nat) (w : World) (hn : n < 4294967296) : Calls Tryd.prog 30 #[.slice none 0 0, .int .u32 n, .int .i64 4] w fun e w' => ∃ g cap, e = .returned (.slice (some ⟨g, 0, none⟩) 4 cap) ∧ w.heap.size ≤ g ∧ g < w'.heap.size ∧
    (∀ (j : Nat) v, (u8C (be4 n))[j]? = some v → w'.cell? ⟨g, j, none⟩ = some v) ∧ Kept w w' := by
  refine (put4 (.slice none 0 0) 0 [] n w.heap.size w hn (by omega) (Own.nil _ _ _ _) (Nat.le_refl _)).mono ?_
  rintro e w' ⟨v, rfl, hown, hb⟩
  rcases hown.form with ⟨_, h0⟩ | ⟨g, cap, rfl, h1, h2, _, _⟩
  · omega
  · exact ⟨g, cap, rfl, h1, h2, fun j v hv => own_cells hown j v hv, hb⟩
theorem put2n (n : Nat) (w : World) (hn : n < 65536) : Calls Tryd.prog 31 #[.slice none 0 0, .int .u16 n, .int .i64 2] w fun e w' => ∃ g cap, e = .returned (.slice (some ⟨g, 0, none⟩) 2 cap) ∧ w.heap.size ≤ g ∧ g < w'.heap.size ∧
    (∀ (j : Nat) v, (u8C (be2 n))[j]? = some v → w'.cell? ⟨g, j, none⟩ = some v) ∧ Kept w w' := by
  refine (put2 (.slice none 0 0) 0 [] n w.heap.size w hn (by omega) (Own.nil _ _ _ _) (Nat.le_refl _)).mono ?_
  rintro e w' ⟨v, rfl, hown, hb⟩
  rcases hown.form with ⟨_, h0⟩ | ⟨g, cap, rfl, h1, h2, _, _⟩
  · omega
  · exact ⟨g, cap, rfl, h1, h2, fun j v hv => own_cells hown j v hv, hb⟩
theorem encode_bad (op b c l : Int) (w : World) (hT : Tabs w)
    (hp : ∀ w, Tabs w → Calls Tryd.prog 12 #[.agg #[.int .u8 op, .int .u32 b, .int .u16 c, .int .i64 l]] w fun e w' => e = .returned (.bool false) ∧ Kept w w') :
    Calls Tryd.prog 11 #[.agg #[.int .u8 op, .int .u32 b, .int .u16 c, .int .i64 l]] w fun e w' => e = .returned (.tuple #[.slice none 0 0, .int .i64 1]) ∧ Kept w w' := by
  go_enter Tryd.func11, Tryd.ntmps11
  go_wp2_with (go_at_call 12; refine (hp _ (hT.alloc _)).mono ?_; rintro e w1 ⟨rfl, hk1⟩; have hkw : Below w.heap.size w w1 := ((Below.refl _ w).alloc (Nat.le_refl _) _).trans (hk1.mono (by simp)))
  refine bodyPost_ret (v := .tuple #[.slice none 0 0, .int .i64 1]) (by simp [results, Tryd.results11, go_sem]) rfl ?_
  exact ⟨rfl, by go_grown⟩
theorem made_one (z : Value) (hz : z.cells = #[z]) (k : Nat) : madeCells z.cells k = (List.replicate k z).toArray := by
  rw [hz]
  apply Array.ext
  · simp [madeCells]
  · intro i h1 h2
    simp [madeCells, Nat.mod_one]
theorem makeB6 : ∀ W : World, (Instr.makeSlice 32 (.int .i64 6) (.int .i64 6)).run Tryd.prog W = .ok (.slice (some ⟨W.heap.size, 0, none⟩) 6 6) (W.alloc (.cells #[.int .u8 0, .int .u8 0, .int .u8 0, .int .u8 0, .int .u8 0, .int .u8 0] 5)) := by
  intro W
  obtain ⟨i, hi, hz0, hz1, hz2⟩ := info_parts info5
  have hr := run_make (P := Tryd.prog) W 32 5 i _ Tryd.underlying32 hi hz0 .i64 .i64 6 6 (by omega) (by omega) (by rw [hz2]; omega) (by omega)
  rw [hr, hz1, made_one _ rfl]
  rfl
theorem makeB10 : ∀ W : World, (Instr.makeSlice 32 (.int .i64 10) (.int .i64 10)).run Tryd.prog W = .ok (.slice (some ⟨W.heap.size, 0, none⟩) 10 10) (W.alloc (.cells #[.int .u8 0, .int .u8 0, .int .u8 0, .int .u8 0, .int .u8 0, .int .u8 0, .int .u8 0, .int .u8 0, .int .u8 0, .int .u8 0] 5)) := by
  intro W
  obtain ⟨i, hi, hz0, hz1, hz2⟩ := info_parts info5
  have hr := run_make (P := Tryd.prog) W 32 5 i _ Tryd.underlying32 hi hz0 .i64 .i64 10 10 (by omega) (by omega) (by rw [hz2]; omega) (by omega)
  rw [hr, hz1, made_one _ rfl]
  rfl
theorem makeB18 : ∀ W : World, (Instr.makeSlice 32 (.int .i64 18) (.int .i64 18)).run Tryd.prog W = .ok (.slice (some ⟨W.heap.size, 0, none⟩) 18 18) (W.alloc (.cells #[.int .u8 0, .int .u8 0, .int .u8 0, .int .u8 0, .int .u8 0, .int .u8 0, .int .u8 0, .int .u8 0, .int .u8 0, .int .u8 0, .int .u8 0, .int .u8 0, .int .u8 0, .int .u8 0, .int .u8 0, .int .u8 0, .int .u8 0, .int .u8 0] 5)) := by
  intro W
  obtain ⟨i, hi, hz0, hz1, hz2⟩ := info_parts info5
  have hr := run_make (P := Tryd.prog) W 32 5 i _ Tryd.underlying32 hi hz0 .i64 .i64 18 18 (by omega) (by omega) (by rw [hz2]; omega) (by omega)
  rw [hr, hz1, made_one _ rfl]
  rfl
set_option maxRecDepth 100000 in
set_option maxHeartbeats 2000000 in
theorem encode_six (op b c l dr op' : Int) (nm : ByteArray) (ok : Bool) (w : World) (hT : Tabs w) (h0 : True)
    (hp : ∀ w, Tabs w → Calls Tryd.prog 12 #[.agg #[.int .u8 op, .int .u32 b, .int .u16 c, .int .i64 l]] w fun e w' => e = .returned (.bool true) ∧ Kept w w')
    (hf : ∀ w, Tabs w → Calls Tryd.prog 27 #[.int .u8 op] w fun e w' => e = .returned (.tuple #[.agg #[.int .u8 op', .string nm, .int .i64 6, .bool false, .bool false, .int .u8 dr], .bool ok]) ∧ Kept w w') :
    Calls Tryd.prog 11 #[.agg #[.int .u8 op, .int .u32 b, .int .u16 c, .int .i64 l]] w fun e w' => ∃ g, e = .returned (.tuple #[.slice (some ⟨g, 0, none⟩) 6 6, .int .i64 0]) ∧ w.heap.size ≤ g ∧
      w'.heap[g]? = some (.cells #[.int .u8 op, .int .u8 0, .int .u8 0, .int .u8 0, .int .u8 0, .int .u8 0] 5 (0, 0)) ∧ Kept w w' := by
  have hmk := makeB6
  go_enter Tryd.func11, Tryd.ntmps11
  go_wp2_with (first
  | (go_at_call 12; refine (hp _ (hT.alloc _)).mono ?_; rintro e w1 ⟨rfl, hk1⟩; obtain ⟨hc1, hf1⟩ := bcell hk1; have hs1 := hk1.size; simp only [World.size_alloc] at hc1 hf1 hs1; have hkw : Below w.heap.size w w1 := ((Below.refl _ w).alloc (Nat.le_refl _) _).trans (hk1.mono (by simp)); have hlt1 : w.heap.size < w1.heap.size := (by omega); have hne1 : w.heap.size ≠ w1.heap.size := (by omega))
  | (go_at_call 27; refine (hf _ (hT.kept hkw)).mono ?_; rintro e w2 ⟨rfl, hk2⟩; obtain ⟨hc2, hf2⟩ := bcell hk2; have hs2 := hk2.size; have hkw2 : Below w.heap.size w w2 := hkw.trans (hk2.mono (by omega)); have hlt2 : w.heap.size < w2.heap.size := (by omega); have hne2 : w.heap.size ≠ w2.heap.size := (by omega); have hne3 : w.heap.size ≠ w2.heap.size + 1 := (by omega)))
  refine bodyPost_ret (v := .tuple #[.slice (some ⟨w2.heap.size + 1, 0, none⟩) 6 6, .int .i64 0]) (by simp [results, Tryd.results11, go_sem]) rfl ?_
  refine ⟨w2.heap.size + 1, rfl, by omega, ?_, by go_grown⟩
  refine heap_at _ ?_
  simp
set_option maxRecDepth 100000 in
set_option maxHeartbeats 2000000 in
theorem encode_ten (op b c l dr op' : Int) (nm : ByteArray) (ok : Bool) (w : World) (hT : Tabs w) (h0 : True)
    (hp : ∀ w, Tabs w → Calls Tryd.prog 12 #[.agg #[.int .u8 op, .int .u32 b, .int .u16 c, .int .i64 l]] w fun e w' => e = .returned (.bool true) ∧ Kept w w')
    (hf : ∀ w, Tabs w → Calls Tryd.prog 27 #[.int .u8 op] w fun e w' => e = .returned (.tuple #[.agg #[.int .u8 op', .string nm, .int .i64 10, .bool false, .bool false, .int .u8 dr], .bool ok]) ∧ Kept w w') :
    Calls Tryd.prog 11 #[.agg #[.int .u8 op, .int .u32 b, .int .u16 c, .int .i64 l]] w fun e w' => ∃ g, e = .returned (.tuple #[.slice (some ⟨g, 0, none⟩) 10 10, .int .i64 0]) ∧ w.heap.size ≤ g ∧
      w'.heap[g]? = some (.cells #[.int .u8 op, .int .u8 0, .int .u8 0, .int .u8 0, .int .u8 0, .int .u8 0, .int .u8 0, .int .u8 0, .int .u8 0, .int .u8 0] 5 (0, 0)) ∧ Kept w w' := by
  have hmk := makeB10
  go_enter Tryd.func11, Tryd.ntmps11
  go_wp2_with (first
  | (go_at_call 12; refine (hp _ (hT.alloc _)).mono ?_; rintro e w1 ⟨rfl, hk1⟩; obtain ⟨hc1, hf1⟩ := bcell hk1; have hs1 := hk1.size; simp only [World.size_alloc] at hc1 hf1 hs1; have hkw : Below w.heap.size w w1 := ((Below.refl _ w).alloc (Nat.le_refl _) _).trans (hk1.mono (by simp)); have hlt1 : w.heap.size < w1.heap.size := (by omega); have hne1 : w.heap.size ≠ w1.heap.size := (by omega))
  | (go_at_call 27; refine (hf _ (hT.kept hkw)).mono ?_; rintro e w2 ⟨rfl, hk2⟩; obtain ⟨hc2, hf2⟩ := bcell hk2; have hs2 := hk2.size; have hkw2 : Below w.heap.size w w2 := hkw.trans (hk2.mono (by omega)); have hlt2 : w.heap.size < w2.heap.size := (by omega); have hne2 : w.heap.size ≠ w2.heap.size := (by omega); have hne3 : w.heap.size ≠ w2.heap.size + 1 := (by omega)))
  refine bodyPost_ret (v := .tuple #[.slice (some ⟨w2.heap.size + 1, 0, none⟩) 10 10, .int .i64 0]) (by simp [results, Tryd.results11, go_sem]) rfl ?_
  refine ⟨w2.heap.size + 1, rfl, by omega, ?_, by go_grown⟩
  refine heap_at _ ?_
  simp
set_option maxRecDepth 100000 in
set_option maxHeartbeats 2000000 in
theorem encode_len (op b c l dr op' : Int) (nm : ByteArray) (ok : Bool) (w : World) (hT : Tabs w) (hl0 : 0 ≤ l) (hl1 : l ≤ 255)
    (hp : ∀ w, Tabs w → Calls Tryd.prog 12 #[.agg #[.int .u8 op, .int .u32 b, .int .u16 c, .int .i64 l]] w fun e w' => e = .returned (.bool true) ∧ Kept w w')
    (hf : ∀ w, Tabs w → Calls Tryd.prog 27 #[.int .u8 op] w fun e w' => e = .returned (.tuple #[.agg #[.int .u8 op', .string nm, .int .i64 6, .bool true, .bool false, .int .u8 dr], .bool ok]) ∧ Kept w w') :
    Calls Tryd.prog 11 #[.agg #[.int .u8 op, .int .u32 b, .int .u16 c, .int .i64 l]] w fun e w' => ∃ g, e = .returned (.tuple #[.slice (some ⟨g, 0, none⟩) 6 6, .int .i64 0]) ∧ w.heap.size ≤ g ∧
      w'.heap[g]? = some (.cells #[.int .u8 op, .int .u8 0, .int .u8 0, .int .u8 0, .int .u8 l, .int .u8 0] 5 (0, 0)) ∧ Kept w w' := by
  have hmk := makeB6
  go_enter Tryd.func11, Tryd.ntmps11
  go_wp2_with (first
  | (go_at_call 12; refine (hp _ (hT.alloc _)).mono ?_; rintro e w1 ⟨rfl, hk1⟩; obtain ⟨hc1, hf1⟩ := bcell hk1; have hs1 := hk1.size; simp only [World.size_alloc] at hc1 hf1 hs1; have hkw : Below w.heap.size w w1 := ((Below.refl _ w).alloc (Nat.le_refl _) _).trans (hk1.mono (by simp)); have hlt1 : w.heap.size < w1.heap.size := (by omega); have hne1 : w.heap.size ≠ w1.heap.size := (by omega))
  | (go_at_call 27; refine (hf _ (hT.kept hkw)).mono ?_; rintro e w2 ⟨rfl, hk2⟩; obtain ⟨hc2, hf2⟩ := bcell hk2; have hs2 := hk2.size; have hkw2 : Below w.heap.size w w2 := hkw.trans (hk2.mono (by omega)); have hlt2 : w.heap.size < w2.heap.size := (by omega); have hne2 : w.heap.size ≠ w2.heap.size := (by omega); have hne3 : w.heap.size ≠ w2.heap.size + 1 := (by omega)))
  refine bodyPost_ret (v := .tuple #[.slice (some ⟨w2.heap.size + 1, 0, none⟩) 6 6, .int .i64 0]) (by simp [results, Tryd.results11, go_sem]) rfl ?_
  refine ⟨w2.heap.size + 1, rfl, by omega, ?_, by go_grown⟩
  refine heap_at _ ?_
  simp
set_option maxRecDepth 100000 in
set_option maxHeartbeats 2000000 in
theorem encode_blk (op b c l dr op' : Int) (nm : ByteArray) (ok : Bool) (w : World) (hT : Tabs w) (bn cn : Nat) (eb : b = bn) (ec : c = cn) (hb9 : bn < 4294967296) (hc9 : cn < 65536)
    (hp : ∀ w, Tabs w → Calls Tryd.prog 12 #[.agg #[.int .u8 op, .int .u32 b, .int .u16 c, .int .i64 l]] w fun e w' => e = .returned (.bool true) ∧ Kept w w')
    (hf : ∀ w, Tabs w → Calls Tryd.prog 27 #[.int .u8 op] w fun e w' => e = .returned (.tuple #[.agg #[.int .u8 op', .string nm, .int .i64 10, .bool false, .bool true, .int .u8 dr], .bool ok]) ∧ Kept w w') :
    Calls Tryd.prog 11 #[.agg #[.int .u8 op, .int .u32 b, .int .u16 c, .int .i64 l]] w fun e w' => ∃ g, e = .returned (.tuple #[.slice (some ⟨g, 0, none⟩) 10 10, .int .i64 0]) ∧ w.heap.size ≤ g ∧
      w'.heap[g]? = some (.cells #[.int .u8 op, .int .u8 0, .int .u8 ((byteOf bn 3).toNat : Int), .int .u8 ((byteOf bn 2).toNat : Int), .int .u8 ((byteOf bn 1).toNat : Int), .int .u8 ((byteOf bn 0).toNat : Int), .int .u8 0, .int .u8 ((byteOf cn 1).toNat : Int), .int .u8 ((byteOf cn 0).toNat : Int), .int .u8 0] 5 (0, 0)) ∧ Kept w w' := by
  have hmk := makeB10
  subst eb ec
  have hput4 := fun w => put4n bn w hb9
  have hput2 := fun w => put2n cn w hc9
  clear hb9 hc9
  go_enter Tryd.func11, Tryd.ntmps11
  go_wp2_with (first
  | (go_at_call 12; refine (hp _ (hT.alloc _)).mono ?_; rintro e w1 ⟨rfl, hk1⟩; obtain ⟨hc1, hf1⟩ := bcell hk1; have hs1 := hk1.size; simp only [World.size_alloc] at hc1 hf1 hs1; have hkw : Below w.heap.size w w1 := ((Below.refl _ w).alloc (Nat.le_refl _) _).trans (hk1.mono (by simp)); have hlt1 : w.heap.size < w1.heap.size := (by omega); have hne1 : w.heap.size ≠ w1.heap.size := (by omega))
  | (go_at_call 27; refine (hf _ (hT.kept hkw)).mono ?_; rintro e w2 ⟨rfl, hk2⟩; obtain ⟨hc2, hf2⟩ := bcell hk2; have hs2 := hk2.size; have hkw2 : Below w.heap.size w w2 := hkw.trans (hk2.mono (by omega)); have hlt2 : w.heap.size < w2.heap.size := (by omega); have hne2 : w.heap.size ≠ w2.heap.size := (by omega); have hne3 : w.heap.size ≠ w2.heap.size + 1 := (by omega)))
  refine wp_nameH (B := w.heap.size) (w0 := w) (by go_grown) (fun W HH hcW hfW hz hkW => ?_)
  have hW : W.heap[w2.heap.size + 1]? = some (.cells #[.int .u8 op, .int .u8 0, .int .u8 0, .int .u8 0, .int .u8 0, .int .u8 0, .int .u8 0, .int .u8 0, .int .u8 0, .int .u8 0] 5 (0, 0)) := by
    rw [HH.out]
    refine heap_at _ ?_
    simp
  simp only [World.size_alloc] at hz
  clear HH
  go_region_law (first
    | (refine step_copy_splice rfl (.tmp 33) (.tmp 36) 32 32 rfl 5 Tryd.underlying32 (by kernel_rfl) (some ⟨w2.heap.size + 1, 2, none⟩) (some ⟨g5, 0, none⟩) 8 8 4 cap5 (by rfl) (by rfl) (w2.heap.size + 1) 2 [.int .u8 op, .int .u8 0, .int .u8 0, .int .u8 0, .int .u8 0, .int .u8 0, .int .u8 0, .int .u8 0, .int .u8 0, .int .u8 0] 5 (heap_kept hk5 (heap_drew hW)) (u8C (be4 bn)) (by rfl) (fun _ => ⟨rfl, _, rfl, fun j v hv => by rw [Addr.add_lit, Nat.zero_add]; exact hcel5 j v hv⟩) (by simp [u8C, be4]) (by simp [u8C, be4, Value.oneCell']) (w2.heap.size + 1) W.drew (hk5.mono (by show _ ≤ W.heap.size; omega)) (Nat.le_refl _) ?_; intro w6 hg6 hb6)
    | (go_simp; go_at_call 30; refine (hput4 _).mono ?_; rintro e w5 ⟨g5, cap5, rfl, hge5, hlt5, hcel5, hk5⟩; dsimp only))
  have hc6 : ∀ b o, b < w2.heap.size + 1 → w6.cell? ⟨b, o, none⟩ = W.cell? ⟨b, o, none⟩ := (bcell hb6).1
  have hs6 : W.heap.size ≤ w6.heap.size := by
    have := heap_lt hg6.out
    omega
  have hkw6 : Below w.heap.size w w6 := hkW.drew.trans (hb6.mono (by omega))
  clear hge5 hlt5 hcel5 hW
  go_wp2_with fail
  go_region_law (first
    | (refine step_copy_splice rfl (.tmp 39) (.tmp 42) 32 32 rfl 5 Tryd.underlying32 (by kernel_rfl) (some ⟨w2.heap.size + 1, 7, none⟩) (some ⟨g7, 0, none⟩) 3 3 2 cap7 (by rfl) (by rfl) (w2.heap.size + 1) 7 (splice [.int .u8 op, .int .u8 0, .int .u8 0, .int .u8 0, .int .u8 0, .int .u8 0, .int .u8 0, .int .u8 0, .int .u8 0, .int .u8 0] 2 (u8C (be4 bn))) 5 (heap_kept hk7 (heap_drew hg6.out)) (u8C (be2 cn)) (by rfl) (fun _ => ⟨rfl, _, rfl, fun j v hv => by rw [Addr.add_lit, Nat.zero_add]; exact hcel7 j v hv⟩) (by simp [u8C, be4, be2, splice]) (by simp [u8C, be2, Value.oneCell']) (w2.heap.size + 1) w6.drew (hk7.mono (by show _ ≤ w6.heap.size; omega)) (Nat.le_refl _) ?_; intro w8 hg8 hb8)
    | (go_simp; go_at_call 31; refine (hput2 _).mono ?_; rintro e w7 ⟨g7, cap7, rfl, hge7, hlt7, hcel7, hk7⟩; dsimp only))
  have hkw8 : Below w.heap.size w w8 := hkw6.drew.trans (hb8.mono (by omega))
  clear hge7 hlt7 hcel7
  go_wp2_with fail
  refine bodyPost_ret (v := .tuple #[.slice (some ⟨w2.heap.size + 1, 0, none⟩) 10 10, .int .i64 0]) (by simp [results, Tryd.results11, go_sem]) rfl ?_
  exact ⟨w2.heap.size + 1, rfl, by omega, hg8.out, hkw8⟩
end Go.Proofs.YtfojemocffelhaaDoor
