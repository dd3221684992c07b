

/- Parse: the request with a text. The library's variables are as the program lays them. -/
import Derived.Test.YtfoeihbajichpaaDoorChecked
import Derived.Deep.RegionHeld3
import Derived.Deep.DrawnRows
import Derived.Deep.DeepCutAuto
import Derived.Deep.LoopGhost
import Derived.Outline
import Derived.Handy
import Derived.OwnWalk
import Derived.Laws.EntriesVeiled
import Derived.Test.YtfoeihbajichpaaDoorSm
import Derived.Test.YtfoeihbajichpaaDoorSl
import Derived.Test.YtfoeihbajichpaaDoorSk
set_option linter.unusedVariables false
set_option linter.unusedSimpArgs false
set_option linter.unusedSectionVars false
namespace Go.Proofs.YtfoeihbajichpaaDoor
open Go.RowKit Go.Lib Go.Maps Go.WideShapes
attribute [local go_sem ↓] Go.wp_at_zero Go.wp_at_succ

theorem piece_small (sep : ByteArray) : ∀ (k : Nat) (s x : ByteArray), x ∈ Lib.splitB sep 0 k s → x.size ≤ s.size
  | 0, s, x, h => by
    have e : x = s := by simpa [Lib.splitB] using h
    rw [e]; exact Nat.le_refl _
  | k + 1, s, x, h => by
    unfold Lib.splitB at h
    split at h
    · have e : x = s := by simpa using h
      rw [e]; exact Nat.le_refl _
    · rcases List.mem_cons.1 h with rfl | h
      · rw [ByteArray.size_extract]; omega
      · have := piece_small sep k _ x h
        rw [ByteArray.size_extract] at this; omega
theorem word_small {s x : ByteArray} (h : x ∈ wordsB s) : x.size ≤ s.size := piece_small _ _ _ _ h
theorem Tabs.grown {w w' : World} {X : Nat} (h : Tabs w) (hg : w.grownBy w' (some X)) (hX : 3 < X) : Tabs w' := by
  have hlt := h.lt
  obtain ⟨⟨t0, p0, h0⟩, ⟨t1, p1, h1⟩, ⟨m, h2⟩, ⟨t, fr, h3⟩⟩ := h
  have hc : ∀ b, b ≤ 3 → w'.heap[b]? = w.heap[b]? := fun b hb => hg.block b (by omega) (by simp; omega)
  exact ⟨⟨t0, p0, (World.cell?_of_block (a := ⟨0, 0, none⟩) (hc 0 (by omega))).trans h0⟩, ⟨t1, p1, (World.cell?_of_block (a := ⟨1, 0, none⟩) (hc 1 (by omega))).trans h1⟩, ⟨m, (World.cell?_of_block (a := ⟨2, 0, none⟩) (hc 2 (by omega))).trans h2⟩, ⟨t, fr, (hc 3 (by omega)).trans h3⟩⟩
/-- all cells but those of one block are as they were -/
abbrev But (W : World) (X : Nat) (w' : World) : Prop := (∀ b o, b < W.heap.size → b ≠ X → w'.cell? ⟨b, o, none⟩ = W.cell? ⟨b, o, none⟩) ∧ W.grownBy w' (some X)
theorem But.start {W : World} {X : Nat} : But W X W.drew := ⟨fun _ _ _ _ => rfl, ⟨rfl, rfl, rfl, Nat.le_refl _, fun _ _ _ => rfl⟩⟩
theorem grown_comp {a b c : World} {X : Nat} (h : a.grownBy b (some X)) (k : b.grownBy c (some X)) : a.grownBy c (some X) :=
  ⟨k.os.trans h.os, k.tape.trans h.tape, k.output.trans h.output, Nat.le_trans h.size k.size, fun i hi hne => (k.block i (Nat.lt_of_lt_of_le hi h.size) hne).trans (h.block i hi hne)⟩
theorem But.then {W w1 w2 : World} {X : Nat} (h : But W X w1) (k : w1.grownBy w2 (some X)) : But W X w2 :=
  ⟨fun b o hb hne => (World.cell?_of_block (a := ⟨b, o, none⟩) (k.block b (Nat.lt_of_lt_of_le hb h.2.size) (by simpa using hne))).trans (h.1 b o hb hne), grown_comp h.2 k⟩
theorem heap_but {W w1 : World} {X b : Nat} {u : Obj} (h : W.grownBy w1 (some X)) (hb : W.heap[b]? = some u) (hne : b ≠ X) : w1.heap[b]? = some u := (h.block b (heap_lt hb) (by simpa using hne)).trans hb
theorem kept_but {w W w1 : World} {X : Nat} (h : Kept w W) (k : W.grownBy w1 (some X)) (hX : w.heap.size ≤ X) : Kept w w1 := h.grown k h.size (fun q hq => by injection hq with hq; omega)
/-- the box besides -/
abbrev Bx (W : World) (X : Nat) (v : Bool) (w' : World) : Prop := (∀ b o, b < W.heap.size → b ≠ X → w'.cell? ⟨b, o, none⟩ = W.cell? ⟨b, o, none⟩) ∧ (W.grownBy w' (some X) ∧ w'.heap[X]? = some (.cells #[.bool v] 4 (0, 0)))
theorem grown_cells {W w1 : World} {X : Nat} (h : W.grownBy w1 (some X)) : ∀ b o, b < W.heap.size → b ≠ X → w1.cell? ⟨b, o, none⟩ = W.cell? ⟨b, o, none⟩ :=
  fun b o hb hne => World.cell?_of_block (a := ⟨b, o, none⟩) (h.block b hb (by simpa using hne))
theorem Bx.of {W w1 : World} {X : Nat} {v : Bool} (h : W.grownBy w1 (some X)) (hb : w1.heap[X]? = some (.cells #[.bool v] 4 (0, 0))) : Bx W X v w1 := ⟨grown_cells h, h, hb⟩
theorem Bx.alloc {W w1 : World} {X : Nat} {v : Bool} (h : Bx W X v w1) (o : Obj) : Bx W X v (w1.alloc o) :=
  Bx.of (grown_comp h.2.1 (grown_any ((Below.refl _ _).alloc (Nat.le_refl _) o))) (heap_past h.2.2)
theorem grown_set2 {W w1 : World} {X : Nat} (h : W.grownBy w1 (some X)) (a : Addr) (ha : W.heap.size ≤ a.block) (v : Value) : W.grownBy (w1.setCell a v) (some X) :=
  ⟨h.os, h.tape, h.output, by rw [World.size_setCell]; exact h.size, fun k hk hne => (Below.heap_setCell _ _ _ k (by omega)).trans (h.block k hk hne)⟩
theorem heap_set2 {w1 : World} {k : Nat} {u : Obj} (h : w1.heap[k]? = some u) (a : Addr) (ha : a.block ≠ k) (v : Value) : (w1.setCell a v).heap[k]? = some u := (Below.heap_setCell _ _ _ k (Ne.symm ha)).trans h
theorem row_stored {W v : World} {X A : Nat} {b : Bool} {z0 z1 z2 z3 z4 : Value} (hBx : Bx W X b v) (hA : v.heap[A]? = some (.cells #[z0, z1, z2, z3, z4] 25 (0, 0))) (hAW : W.heap.size ≤ A) (hXA : A ≠ X) (p q r s t : Value) :
    Bx W X b (((((v.setCell ⟨A, 0, none⟩ p).setCell ⟨A, 1, none⟩ q).setCell ⟨A, 2, none⟩ r).setCell ⟨A, 3, none⟩ s).setCell ⟨A, 4, none⟩ t) ∧
    (((((v.setCell ⟨A, 0, none⟩ p).setCell ⟨A, 1, none⟩ q).setCell ⟨A, 2, none⟩ r).setCell ⟨A, 3, none⟩ s).setCell ⟨A, 4, none⟩ t).heap[A]? = some (.cells #[p, q, r, s, t] 25 (0, 0)) :=
  ⟨Bx.of (grown_set2 (grown_set2 (grown_set2 (grown_set2 (grown_set2 hBx.2.1 _ hAW _) _ hAW _) _ hAW _) _ hAW _) _ hAW _)
      (heap_set2 (heap_set2 (heap_set2 (heap_set2 (heap_set2 hBx.2.2 _ hXA _) _ hXA _) _ hXA _) _ hXA _) _ hXA _),
    heap_store (heap_store (heap_store (heap_store (heap_store hA p) q) r) s) t⟩
theorem row_kept {w v : World} {R : Nat} {z0 z1 z2 z3 z4 : Value} (hk : Kept w v) (hR : w.heap.size ≤ R) (h : v.heap[R]? = some (.cells #[z0, z1, z2, z3, z4] 25 (0, 0))) (p q r s t : Value) :
    Kept w (((((v.setCell ⟨R, 0, none⟩ p).setCell ⟨R, 1, none⟩ q).setCell ⟨R, 2, none⟩ r).setCell ⟨R, 3, none⟩ s).setCell ⟨R, 4, none⟩ t) ∧
    (((((v.setCell ⟨R, 0, none⟩ p).setCell ⟨R, 1, none⟩ q).setCell ⟨R, 2, none⟩ r).setCell ⟨R, 3, none⟩ s).setCell ⟨R, 4, none⟩ t).heap[R]? = some (.cells #[p, q, r, s, t] 25 (0, 0)) :=
  ⟨((((hk.setCell hR _).setCell hR _).setCell hR _).setCell hR _).setCell hR _, heap_store (heap_store (heap_store (heap_store (heap_store h p) q) r) s) t⟩
theorem grown_drew {W w1 : World} {X : Nat} (h : W.grownBy w1 (some X)) : W.grownBy w1.drew (some X) := ⟨h.os, h.tape, h.output, h.size, h.block⟩
theorem idx_lt {L : List ByteArray} {s : ByteArray} (h : s ∈ L) : Lib.idxOfS L s < L.length := by
  have hg : ∀ (zs : List ByteArray) (i : Nat), Lib.idxFromS zs s i < ((i + zs.length : Nat) : Int) ∨ Lib.idxFromS zs s i = -1 := by
    intro zs
    induction zs with
    | nil => intro i; exact .inr rfl
    | cons z zs ih =>
      intro i
      unfold Lib.idxFromS
      split
      · left; simp; omega
      · rcases ih (i + 1) with h | h
        · left; simp at *; omega
        · right; exact h
  have h0 := (Lib.idxOfS_nonneg_iff L s).2 h
  unfold Lib.idxOfS at *
  rcases hg L 0 with h1 | h1 <;> omega
theorem codeB_range {s : ByteArray} {c : Int} (h : codeB s = some c) : 0 ≤ c ∧ c < 13 := by
  unfold codeB at h
  split at h
  · rename_i hc
    obtain ⟨_, hi⟩ := hc
    injection h with h
    subst h
    refine ⟨hi, ?_⟩
    have hm := (Lib.idxOfS_nonneg_iff namesB s).1 hi
    have h13 : namesB.length = 13 := rfl
    have := idx_lt hm
    omega
  · cases h
theorem wrapI {c : Int} (h0 : 0 ≤ c) (h1 : c < 9223372036854775808) : IntKind.i64.wrap c = c := by
  simp only [IntKind.wrap, IntKind.signed, IntKind.bits]
  simp
  omega
theorem zero5 (w : World) : (zeroValue 5).run Tryd.prog w = .ok (.int .u8 0) w := by kernel_rfl
set_option maxRecDepth 100000 in
set_option maxHeartbeats 1000000 in
theorem parse_len (s : ByteArray) (w : World) (hs : s.size ≤ 1000) (hT : Tabs w) (h7 : (wordsB s).length ≠ 7) :
    Calls Tryd.prog 17 #[.string s] w fun e w' => e = .returned (.tuple #[.agg #[.int .u8 0, .int .u8 0, .int .u16 0, .int .u16 0, .int .u16 0], .int .i64 4]) ∧ Kept w w' := by
  have hb : ((((wordsB s).length : Nat) : Int) != 7) = true := by simp; omega
  generalize hL : wordsB s = L at *
  go_enter Tryd.func17, Tryd.ntmps17
  go_wp2_with (go_at_call 36; refine (split_at L _ _ hL (by omega) (hT.alloc _)).mono ?_; rintro e w1 ⟨rfl, rfl⟩)
  refine bodyPost_ret (v := .tuple #[.agg #[.int .u8 0, .int .u8 0, .int .u16 0, .int .u16 0, .int .u16 0], .int .i64 4]) (by simp [results, Tryd.results17, go_sem]) rfl ⟨rfl, by go_grown⟩
set_option maxRecDepth 100000 in
set_option maxHeartbeats 16000000 in
theorem parse_seven (s l0 l1 l2 l3 l4 l5 l6 : ByteArray) (w : World) (hs : s.size ≤ 1000) (hT : Tabs w) (hL : wordsB s = [l0, l1, l2, l3, l4, l5, l6]) :
    Calls Tryd.prog 17 #[.string s] w fun e w' => (parseW l1 l2 l3 l4 l5 l6 = false → textB (parseP l0 l1 l2 l3 l4 l5 l6) = s → e = .returned (.tuple #[.agg #[.int .u8 (parseP l0 l1 l2 l3 l4 l5 l6).typ, .int .u8 (parseP l0 l1 l2 l3 l4 l5 l6).code, .int .u16 (parseP l0 l1 l2 l3 l4 l5 l6).val, .int .u16 (parseP l0 l1 l2 l3 l4 l5 l6).idx, .int .u16 (parseP l0 l1 l2 l3 l4 l5 l6).len], .int .i64 0])) ∧
      (¬ (parseW l1 l2 l3 l4 l5 l6 = false ∧ textB (parseP l0 l1 l2 l3 l4 l5 l6) = s) → e = .returned (.tuple #[.agg #[.int .u8 0, .int .u8 0, .int .u16 0, .int .u16 0, .int .u16 0], .int .i64 4])) ∧ Kept w w' := by
  have hm : ∀ x ∈ [l0, l1, l2, l3, l4, l5, l6], x.size ≤ 1000 := fun x hx => Nat.le_trans (word_small (hL ▸ hx)) hs
  have s1 := hm l1 (by simp)
  have s2 := hm l2 (by simp)
  have s3 := hm l3 (by simp)
  have s4 := hm l4 (by simp)
  have s5 := hm l5 (by simp)
  have s6 := hm l6 (by simp)
  clear hm
  have hin : (⟨#[105, 110]⟩ : ByteArray).toList = inL := by decide +kernel
  go_enter Tryd.func17, Tryd.ntmps17
  go_upto_region 6 with (go_at_call 36; refine (split_at [l0, l1, l2, l3, l4, l5, l6] _ _ hL (by omega) (hT.alloc _)).mono ?_; rintro e w1 ⟨rfl, rfl⟩; rw [show ([l0, l1, l2, l3, l4, l5, l6]).length = 7 from rfl])
  have h3 := hT.lt
  refine wp_at (fun W => W.heap[w.heap.size]? = some (.cells #[.int .u8 0, .int .u8 0, .int .u16 0, .int .u16 0, .int .u16 0] 25 (0, 0)) ∧ W.heap[w.heap.size + 1]? = some (.cells (([l0, l1, l2, l3, l4, l5, l6]).map Value.string).toArray 9 (0, 0)) ∧ W.heap[w.heap.size + 1 + 1]? = some (.cells #[.bool false] 4 (0, 0)) ∧ Kept w W) ⟨?_, ?_, ?_, ?_⟩ (fun W hW => ?_)
  · exact heap_past (heap_past (heap_at _ rfl))
  · exact heap_past (heap_at _ (by simp))
  · exact heap_at _ (by simp)
  · go_grown
  obtain ⟨HR, HL, HB, hkW⟩ := hW
  have hTW := Lib.hid (hT.kept hkW)
  generalize hX : w.heap.size + 1 + 1 = X at *
  generalize hg : w.heap.size + 1 = g at *
  have hgX : g ≠ X := by omega
  have hRX : w.heap.size ≠ X := by omega
  have hX3 : 3 < X := by omega
  have hwX : w.heap.size ≤ X := by omega
  generalize hR : w.heap.size = R at *
  have HReq := Lib.hid hR
  clear hR
  have c0 := row_cell HL (j := 0) rfl
  have c1 := row_cell HL (j := 1) rfl
  have c2 := row_cell HL (j := 2) rfl
  have c3 := row_cell HL (j := 3) rfl
  have c4 := row_cell HL (j := 4) rfl
  have c5 := row_cell HL (j := 5) rfl
  have c6 := row_cell HL (j := 6) rfl
  have hgl := heap_lt HL
  have hXl := heap_lt HB
  clear hX hg
  have HRL := Lib.hid HL
  have HRR := Lib.hid HR
  have HRB := Lib.hid HB
  clear HL HR HB
  go_cut [7] (fun s7 wc => s7 = .int .u8 (typeI (l0.toList == inL) ((readB kindsB l1 (-1)).1 % 256) ((readB whomB l2 31).1 % 256)) ∧ wc.heap[X]? = some (.cells #[.bool ((readB kindsB l1 (-1)).2 || (readB whomB l2 31).2)] 4 (0, 0)) ∧ W.grownBy wc (some X))
  case first =>
    generalize hrk : readB kindsB l1 (-1) = rk at *
    generalize hrw : readB whomB l2 31 = rw at *
    refine wp_region_held_drew (S := But W X) (by kernel_rfl) But.start (fun hS => ?_)
    refine wpAnyH_take (i := 0) (v := ?_) rfl (by kernel_rfl) (by kernel_rfl) (by kernel_rfl) (fun _ _ _ h => h) (Or.inl ⟨by kernel_rfl, ?_⟩) hS ?_
    rotate_left
    · intro w' hS'
      have hq := hS'.1
      have hq2 := hS'.2
      clear hS'
      first | (go_simp; done) | (go_simp; with_reducible rfl)
    try simp only [Act.put, List.getElem_toArray, List.getElem_cons_zero, List.getElem_cons_succ, List.setIfInBounds_toArray, List.set_cons_zero, List.set_cons_succ]
    refine wpAnyH_take (i := 1) (v := ?_) rfl (by kernel_rfl) (by kernel_rfl) (by kernel_rfl) (fun _ _ _ h => h) (Or.inl ⟨by kernel_rfl, ?_⟩) hS ?_
    rotate_left
    · intro w' hS'
      have hq := hS'.1
      have hq2 := hS'.2
      clear hS'
      first | (go_simp; done) | (go_simp; with_reducible rfl)
    try simp only [Act.put, List.getElem_toArray, List.getElem_cons_zero, List.getElem_cons_succ, List.setIfInBounds_toArray, List.set_cons_zero, List.set_cons_succ]
    refine wpAnyH_take (i := 2) (v := ?_) rfl (by kernel_rfl) (by kernel_rfl) (by kernel_rfl) (fun _ _ _ h => h) (Or.inl ⟨by kernel_rfl, ?_⟩) hS ?_
    rotate_left
    · intro w' hS'
      have hq := hS'.1
      have hq2 := hS'.2
      clear hS'
      first | (go_simp; done) | (go_simp; with_reducible rfl)
    try simp only [Act.put, List.getElem_toArray, List.getElem_cons_zero, List.getElem_cons_succ, List.setIfInBounds_toArray, List.set_cons_zero, List.set_cons_succ]
    refine wpAnyH_take (i := 3) (v := ?_) rfl (by kernel_rfl) (by kernel_rfl) (by kernel_rfl) (fun _ _ _ h => h) (Or.inl ⟨by kernel_rfl, ?_⟩) hS ?_
    rotate_left
    · intro w' hS'
      have hq := hS'.1
      have hq2 := hS'.2
      clear hS'
      first | (go_simp; done) | (go_simp; with_reducible rfl)
    try simp only [Act.put, List.getElem_toArray, List.getElem_cons_zero, List.getElem_cons_succ, List.setIfInBounds_toArray, List.set_cons_zero, List.set_cons_succ]
    refine wpAnyH_take (i := 4) (v := ?_) rfl (by kernel_rfl) (by kernel_rfl) (by kernel_rfl) (fun _ _ _ h => h) (Or.inl ⟨by kernel_rfl, ?_⟩) hS ?_
    rotate_left
    · intro w' hS'
      have hq := hS'.1
      have hq2 := hS'.2
      clear hS'
      first | (go_simp; done) | (go_simp; with_reducible rfl)
    try simp only [Act.put, List.getElem_toArray, List.getElem_cons_zero, List.getElem_cons_succ, List.setIfInBounds_toArray, List.set_cons_zero, List.set_cons_succ]
    refine wpAnyH_take (i := 5) (v := ?_) rfl (by kernel_rfl) (by kernel_rfl) (by kernel_rfl) (fun _ _ _ h => h) (Or.inl ⟨by kernel_rfl, ?_⟩) hS ?_
    rotate_left
    · intro w' hS'
      have hq := hS'.1
      have hq2 := hS'.2
      clear hS'
      first | (go_simp; done) | (go_simp; with_reducible rfl)
    try simp only [Act.put, List.getElem_toArray, List.getElem_cons_zero, List.getElem_cons_succ, List.setIfInBounds_toArray, List.set_cons_zero, List.set_cons_succ]
    refine wpAnyH_take (i := 6) (v := ?_) rfl (by kernel_rfl) (by kernel_rfl) (by kernel_rfl) (fun _ _ _ h => h) (Or.inl ⟨by kernel_rfl, ?_⟩) hS ?_
    rotate_left
    · intro w' hS'
      have hq := hS'.1
      have hq2 := hS'.2
      clear hS'
      first | (go_simp; done) | (go_simp; with_reducible rfl)
    try simp only [Act.put, List.getElem_toArray, List.getElem_cons_zero, List.getElem_cons_succ, List.setIfInBounds_toArray, List.set_cons_zero, List.set_cons_succ]
    refine wpAnyH_take (i := 7) (v := ?_) rfl (by kernel_rfl) (by kernel_rfl) (by kernel_rfl) (fun _ _ _ h => h) (Or.inl ⟨by kernel_rfl, ?_⟩) hS ?_
    rotate_left
    · intro w' hS'
      have hq := hS'.1
      have hq2 := hS'.2
      clear hS'
      first | (go_simp; done) | (go_simp; with_reducible rfl)
    try simp only [Act.put, List.getElem_toArray, List.getElem_cons_zero, List.getElem_cons_succ, List.setIfInBounds_toArray, List.set_cons_zero, List.set_cons_succ]
    refine wpAnyH_take (i := 10) (v := ?_) rfl (by kernel_rfl) (by kernel_rfl) (by kernel_rfl) (fun _ _ _ h => h) (Or.inl ⟨by kernel_rfl, ?_⟩) hS ?_
    rotate_left
    · intro w' hS'
      have hq := hS'.1
      have hq2 := hS'.2
      clear hS'
      first | (go_simp; done) | (go_simp; with_reducible rfl)
    try simp only [Act.put, List.getElem_toArray, List.getElem_cons_zero, List.getElem_cons_succ, List.setIfInBounds_toArray, List.set_cons_zero, List.set_cons_succ]
    refine wpAnyH_take (i := 11) (v := ?_) rfl (by kernel_rfl) (by kernel_rfl) (by kernel_rfl) (fun _ _ _ h => h) (Or.inl ⟨by kernel_rfl, ?_⟩) hS ?_
    rotate_left
    · intro w' hS'
      have hq := hS'.1
      have hq2 := hS'.2
      clear hS'
      first | (go_simp; done) | (go_simp; with_reducible rfl)
    try simp only [Act.put, List.getElem_toArray, List.getElem_cons_zero, List.getElem_cons_succ, List.setIfInBounds_toArray, List.set_cons_zero, List.set_cons_succ]
    refine wpAnyH_take (i := 12) (v := ?_) rfl (by kernel_rfl) (by kernel_rfl) (by kernel_rfl) (fun _ _ _ h => h) (Or.inl ⟨by kernel_rfl, ?_⟩) hS ?_
    rotate_left
    · intro w' hS'
      have hq := hS'.1
      have hq2 := hS'.2
      clear hS'
      first | (go_simp; done) | (go_simp; with_reducible rfl)
    try simp only [Act.put, List.getElem_toArray, List.getElem_cons_zero, List.getElem_cons_succ, List.setIfInBounds_toArray, List.set_cons_zero, List.set_cons_succ]
    refine wpAnyH_take (i := 13) (v := ?_) rfl (by kernel_rfl) (by kernel_rfl) (by kernel_rfl) (fun _ _ _ h => h) (Or.inl ⟨by kernel_rfl, ?_⟩) hS ?_
    rotate_left
    · intro w' hS'
      have hq := hS'.1
      have hq2 := hS'.2
      clear hS'
      first | (go_simp; done) | (go_simp; with_reducible rfl)
    try simp only [Act.put, List.getElem_toArray, List.getElem_cons_zero, List.getElem_cons_succ, List.setIfInBounds_toArray, List.set_cons_zero, List.set_cons_succ]
    refine wpAnyH_ready (rs := [8]) (by kernel_rfl) (by simp) ?_
    refine AllReadyH.cons rfl (fun K hK => ?_) AllReadyH.nil
    go_simp
    go_at_call 37
    refine (read_any l1 _ kindsB _ false X _ (by decide +kernel) (by decide +kernel) (by decide) s1 (hTW.out.grown hS.2 hX3) HRB.out).mono ?_
    rw [hrk]
    rintro e w5 ⟨rfl, w5b, w5g⟩
    try dsimp only
    have w5S := hS.then w5g
    refine hK.out _ _ ?_ (fun hS => ?_)
    · exact w5S
    clear hK K
    try simp only [Act.put, List.getElem_toArray, List.getElem_cons_zero, List.getElem_cons_succ, List.setIfInBounds_toArray, List.set_cons_zero, List.set_cons_succ]
    refine wpAnyH_take (i := 9) (v := ?_) rfl (by kernel_rfl) (by kernel_rfl) (by kernel_rfl) (fun _ _ _ h => h) (Or.inl ⟨by kernel_rfl, ?_⟩) hS ?_
    rotate_left
    · intro w' hS'
      have hq := hS'.1
      have hq2 := hS'.2
      clear hS'
      first | (go_simp; done) | (go_simp; with_reducible rfl)
    try simp only [Act.put, List.getElem_toArray, List.getElem_cons_zero, List.getElem_cons_succ, List.setIfInBounds_toArray, List.set_cons_zero, List.set_cons_succ]
    refine wpAnyH_ready (rs := [14]) (by kernel_rfl) (by simp) ?_
    refine AllReadyH.cons rfl (fun K hK => ?_) AllReadyH.nil
    go_simp
    go_at_call 37
    refine (read_any l2 _ whomB _ _ X _ (by decide +kernel) (by decide +kernel) (by decide) s2 (hTW.out.grown hS.2 hX3) w5b).mono ?_
    rw [hrw]
    rintro e w6 ⟨rfl, w6b, w6g⟩
    try dsimp only
    have w6S := hS.then w6g
    refine hK.out _ _ ?_ (fun hS => ?_)
    · exact w6S
    clear hK K
    try simp only [Act.put, List.getElem_toArray, List.getElem_cons_zero, List.getElem_cons_succ, List.setIfInBounds_toArray, List.set_cons_zero, List.set_cons_succ]
    refine wpAnyH_take (i := 15) (v := ?_) rfl (by kernel_rfl) (by kernel_rfl) (by kernel_rfl) (fun _ _ _ h => h) (Or.inl ⟨by kernel_rfl, ?_⟩) hS ?_
    rotate_left
    · intro w' hS'
      have hq := hS'.1
      have hq2 := hS'.2
      clear hS'
      first | (go_simp; done) | (go_simp; with_reducible rfl)
    try simp only [Act.put, List.getElem_toArray, List.getElem_cons_zero, List.getElem_cons_succ, List.setIfInBounds_toArray, List.set_cons_zero, List.set_cons_succ]
    refine wpAnyH_ready (rs := [16]) (by kernel_rfl) (by simp) ?_
    refine AllReadyH.cons rfl (fun K hK => ?_) AllReadyH.nil
    go_simp
    go_at_call 10
    refine (type_any _ _ _ _ (Int.emod_nonneg _ (by decide)) (Int.emod_nonneg _ (by decide))).mono ?_
    rintro e w7 ⟨rfl, rfl⟩
    try dsimp only
    refine hK.out _ _ ?_ (fun hS => ?_)
    · exact hS
    clear hK K
    try simp only [Act.put, List.getElem_toArray, List.getElem_cons_zero, List.getElem_cons_succ, List.setIfInBounds_toArray, List.set_cons_zero, List.set_cons_succ]
    refine wpAnyH_take (i := 17) (v := ?_) rfl (by kernel_rfl) (by kernel_rfl) (by kernel_rfl) (fun _ _ _ h => h) (Or.inl ⟨by kernel_rfl, ?_⟩) hS ?_
    rotate_left
    · intro w' hS'
      have hq := hS'.1
      have hq2 := hS'.2
      clear hS'
      first | (go_simp; done) | (go_simp; with_reducible rfl)
    try simp only [Act.put, List.getElem_toArray, List.getElem_cons_zero, List.getElem_cons_succ, List.setIfInBounds_toArray, List.set_cons_zero, List.set_cons_succ]
    refine wpAnyH_take (i := 18) (v := ?_) rfl (by kernel_rfl) (by kernel_rfl) (by kernel_rfl) (fun _ _ _ h => h) (Or.inl ⟨by kernel_rfl, ?_⟩) hS ?_
    rotate_left
    · intro w' hS'
      have hq := hS'.1
      have hq2 := hS'.2
      clear hS'
      first | (go_simp; done) | (go_simp; with_reducible rfl)
    try simp only [Act.put, List.getElem_toArray, List.getElem_cons_zero, List.getElem_cons_succ, List.setIfInBounds_toArray, List.set_cons_zero, List.set_cons_succ]
    refine wpAnyH_take (i := 19) (v := ?_) rfl (by kernel_rfl) (by kernel_rfl) (by kernel_rfl) (fun _ _ _ h => h) (Or.inl ⟨by kernel_rfl, ?_⟩) hS ?_
    rotate_left
    · intro w' hS'
      have hq := hS'.1
      have hq2 := hS'.2
      clear hS'
      first | (go_simp; done) | (go_simp; with_reducible rfl)
    try simp only [Act.put, List.getElem_toArray, List.getElem_cons_zero, List.getElem_cons_succ, List.setIfInBounds_toArray, List.set_cons_zero, List.set_cons_succ]
    refine wpAnyH_take (i := 20) (v := ?_) rfl (by kernel_rfl) (by kernel_rfl) (by kernel_rfl) (fun _ _ _ h => h) (Or.inl ⟨by kernel_rfl, ?_⟩) hS ?_
    rotate_left
    · intro w' hS'
      have hq := hS'.1
      have hq2 := hS'.2
      clear hS'
      first | (go_simp; done) | (go_simp; with_reducible rfl)
    try simp only [Act.put, List.getElem_toArray, List.getElem_cons_zero, List.getElem_cons_succ, List.setIfInBounds_toArray, List.set_cons_zero, List.set_cons_succ]
    refine wpAnyH_take (i := 21) (v := ?_) rfl (by kernel_rfl) (by kernel_rfl) (by kernel_rfl) (fun _ _ _ h => h) (Or.inl ⟨by kernel_rfl, ?_⟩) hS ?_
    rotate_left
    · intro w' hS'
      have hq := hS'.1
      have hq2 := hS'.2
      clear hS'
      first | (go_simp; done) | (go_simp; with_reducible rfl)
    try simp only [Act.put, List.getElem_toArray, List.getElem_cons_zero, List.getElem_cons_succ, List.setIfInBounds_toArray, List.set_cons_zero, List.set_cons_succ]
    refine wpAnyH_done (by kernel_rfl) ?_ _
    go_wp2
    go_meet
    exact ⟨rfl, by rw [Bool.false_or] at w6b; exact w6b, hS.2⟩
  case rest =>
    obtain ⟨rfl, HB1, hg1⟩ := hcut
    generalize hb1 : ((readB kindsB l1 (-1)).2 || (readB whomB l2 31).2) = b1 at *
    generalize htt : typeI (l0.toList == inL) ((readB kindsB l1 (-1)).1 % 256) ((readB whomB l2 31).1 % 256) = tt at *
    have HC1 := Lib.hid HB1
    clear HB1
    refine (show ∀ (a : Act) (w : World), Code.wp Tryd.prog _ _ a w → _ from by assumption) _ _ ?_
    (apply wp_seq_k; intro _ _)
    go_cut [9] (fun s9 wd => s9 = .int .i64 0 ∧ wd.heap[X]? = some (.cells #[.bool b1] 4 (0, 0)) ∧ W.grownBy wd (some X))
    case first =>
      go_wp2
      go_meet
      exact ⟨rfl, HC1.out, hg1⟩
    clear HC1 hg1
    obtain ⟨rfl, HB1, hg1⟩ := hcut
    have HC1 := Lib.hid HB1
    clear HB1
    refine (show ∀ (a : Act) (w : World), Code.wp Tryd.prog _ _ a w → _ from by assumption) _ _ ?_
    (apply wp_seq_k; intro _ _)
    go_cut [9] (fun s9 wd => s9 = .int .i64 (codeR l3).1 ∧ wd.heap[X]? = some (.cells #[.bool (b1 || (codeR l3).2)] 4 (0, 0)) ∧ W.grownBy wd (some X))
    case first =>
      have hspl : wordsB (B8 []) = noneB := by decide +kernel
      (apply wp_seq_k; intro _ _)
      refine wp_region_held_drew (S := Bx W X b1) (by kernel_rfl) (Bx.of (grown_drew hg1) HC1.out) (fun hS => ?_)
      refine wpAnyH_take (i := 1) (v := ?_) rfl (by kernel_rfl) (by kernel_rfl) (by kernel_rfl) (fun _ _ _ h => h) (Or.inl ⟨by kernel_rfl, ?_⟩) hS ?_
      rotate_left
      · intro w' hS'
        have hq := hS'.1
        have hq2 := hS'.2
        clear hS'
        first | (go_simp; done) | (go_simp; with_reducible rfl)
      try simp only [Act.put, List.getElem_toArray, List.getElem_cons_zero, List.getElem_cons_succ, List.setIfInBounds_toArray, List.set_cons_zero, List.set_cons_succ]
      refine wpAnyH_take (i := 2) (v := ?_) rfl (by kernel_rfl) (by kernel_rfl) (by kernel_rfl) (fun _ _ _ h => h) (Or.inl ⟨by kernel_rfl, ?_⟩) hS ?_
      rotate_left
      · intro w' hS'
        have hq := hS'.1
        have hq2 := hS'.2
        clear hS'
        first | (go_simp; done) | (go_simp; with_reducible rfl)
      try simp only [Act.put, List.getElem_toArray, List.getElem_cons_zero, List.getElem_cons_succ, List.setIfInBounds_toArray, List.set_cons_zero, List.set_cons_succ]
      refine wpAnyH_take (i := 3) (v := ?_) rfl (by kernel_rfl) (by kernel_rfl) (by kernel_rfl) (fun _ _ _ h => h) (Or.inl ⟨by kernel_rfl, ?_⟩) hS ?_
      rotate_left
      · intro w' hS'
        have hq := hS'.1
        have hq2 := hS'.2
        clear hS'
        first | (go_simp; done) | (go_simp; with_reducible rfl)
      try simp only [Act.put, List.getElem_toArray, List.getElem_cons_zero, List.getElem_cons_succ, List.setIfInBounds_toArray, List.set_cons_zero, List.set_cons_succ]
      refine wpAnyH_ready (rs := [0]) (by kernel_rfl) (by simp) ?_
      refine AllReadyH.cons rfl (fun K hK => ?_) AllReadyH.nil
      go_simp
      go_at_call 40
      refine (codes_any _ (hTW.out.grown hS.2.1 hX3)).mono ?_
      rintro e w5 ⟨b, n, f, rfl, hm, hf, hk5⟩
      try dsimp only
      have q5 : Bx W X b1 w5 := Bx.of (grown_comp hS.2.1 (grown_any hk5)) (heap_kept hk5 hS.2.2)
      have hlk := hm.look (string_keyed Tryd.underlying9) Tryd.underlying75 (zero5 _) (WideMaps.keyOf_string_mk Tryd.underlying9 (s := l3) (by unfold maxLen; omega)) true
      rw [hf, if_pos rfl] at hlk
      refine hK.out _ _ ?_ (fun hS => ?_)
      · exact q5
      clear hK K
      try simp only [Act.put, List.getElem_toArray, List.getElem_cons_zero, List.getElem_cons_succ, List.setIfInBounds_toArray, List.set_cons_zero, List.set_cons_succ]
      clear hS
      have hS := q5
      cases hcb : codeB l3 with
      | some c =>
        obtain ⟨k0, k1⟩ := codeB_range hcb
        have hcr : codeR l3 = (c, false) := by unfold codeR; rw [hcb]
        rw [hcb] at hlk
        simp only [Option.map_some, Option.getD_some, Option.isSome_some] at hlk
        have hcw : IntKind.i64.wrap c = c := wrapI (by omega) (by omega)
        refine wpAnyH_ready (rs := [4]) (by kernel_rfl) (by simp) ?_
        refine AllReadyH.cons rfl (fun K hK => ?_) AllReadyH.nil
        go_simp
        refine hK.out _ _ ?_ (fun hS => ?_)
        · exact q5
        clear hK K
        try simp only [Act.put, List.getElem_toArray, List.getElem_cons_zero, List.getElem_cons_succ, List.setIfInBounds_toArray, List.set_cons_zero, List.set_cons_succ]
        refine wpAnyH_take (i := 5) (v := ?_) rfl (by kernel_rfl) (by kernel_rfl) (by kernel_rfl) (fun _ _ _ h => h) (Or.inl ⟨by kernel_rfl, ?_⟩) hS ?_
        rotate_left
        · intro w' hS'
          have hq := hS'.1
          have hq2 := hS'.2
          clear hS'
          first | (go_simp; done) | (go_simp; with_reducible rfl)
        try simp only [Act.put, List.getElem_toArray, List.getElem_cons_zero, List.getElem_cons_succ, List.setIfInBounds_toArray, List.set_cons_zero, List.set_cons_succ]
        refine wpAnyH_take (i := 6) (v := ?_) rfl (by kernel_rfl) (by kernel_rfl) (by kernel_rfl) (fun _ _ _ h => h) (Or.inl ⟨by kernel_rfl, ?_⟩) hS ?_
        rotate_left
        · intro w' hS'
          have hq := hS'.1
          have hq2 := hS'.2
          clear hS'
          first | (go_simp; done) | (go_simp; with_reducible rfl)
        try simp only [Act.put, List.getElem_toArray, List.getElem_cons_zero, List.getElem_cons_succ, List.setIfInBounds_toArray, List.set_cons_zero, List.set_cons_succ]
        refine wpAnyH_take (i := 7) (v := ?_) rfl (by kernel_rfl) (by kernel_rfl) (by kernel_rfl) (fun _ _ _ h => h) (Or.inl ⟨by kernel_rfl, ?_⟩) hS ?_
        rotate_left
        · intro w' hS'
          have hq := hS'.1
          have hq2 := hS'.2
          clear hS'
          first | (go_simp; done) | (go_simp; with_reducible rfl)
        try simp only [Act.put, List.getElem_toArray, List.getElem_cons_zero, List.getElem_cons_succ, List.setIfInBounds_toArray, List.set_cons_zero, List.set_cons_succ]
        refine wpAnyH_take (i := 8) (v := ?_) rfl (by kernel_rfl) (by kernel_rfl) (by kernel_rfl) (fun _ _ _ h => h) (Or.inl ⟨by kernel_rfl, ?_⟩) hS ?_
        rotate_left
        · intro w' hS'
          have hq := hS'.1
          have hq2 := hS'.2
          clear hS'
          first | (go_simp; done) | (go_simp; with_reducible rfl)
        try simp only [Act.put, List.getElem_toArray, List.getElem_cons_zero, List.getElem_cons_succ, List.setIfInBounds_toArray, List.set_cons_zero, List.set_cons_succ]
        refine wpAnyH_take (i := 9) (v := ?_) rfl (by kernel_rfl) (by kernel_rfl) (by kernel_rfl) (fun _ _ _ h => h) (Or.inl ⟨by kernel_rfl, ?_⟩) hS ?_
        rotate_left
        · intro w' hS'
          have hq := hS'.1
          have hq2 := hS'.2
          clear hS'
          first | (go_simp; done) | (go_simp; with_reducible rfl)
        try simp only [Act.put, List.getElem_toArray, List.getElem_cons_zero, List.getElem_cons_succ, List.setIfInBounds_toArray, List.set_cons_zero, List.set_cons_succ]
        refine wpAnyH_done (by kernel_rfl) ?_ _
        have hq5 := Lib.hid q5
        clear q5 hS
        go_wp2
        go_meet
        rw [hcr]
        exact ⟨by go_num, by rw [Bool.or_false]; exact hq5.out.2.2, hq5.out.2.1⟩
      | none =>
        have hcr : codeR l3 = readB noneB l3 255 := by unfold codeR; rw [hcb]
        rw [hcb] at hlk
        simp only [Option.map_none, Option.getD_none, Option.isSome_none] at hlk
        refine wpAnyH_ready (rs := [4]) (by kernel_rfl) (by simp) ?_
        refine AllReadyH.cons rfl (fun K hK => ?_) AllReadyH.nil
        go_simp
        refine hK.out _ _ ?_ (fun hS => ?_)
        · exact q5
        clear hK K
        try simp only [Act.put, List.getElem_toArray, List.getElem_cons_zero, List.getElem_cons_succ, List.setIfInBounds_toArray, List.set_cons_zero, List.set_cons_succ]
        refine wpAnyH_take (i := 5) (v := ?_) rfl (by kernel_rfl) (by kernel_rfl) (by kernel_rfl) (fun _ _ _ h => h) (Or.inl ⟨by kernel_rfl, ?_⟩) hS ?_
        rotate_left
        · intro w' hS'
          have hq := hS'.1
          have hq2 := hS'.2
          clear hS'
          first | (go_simp; done) | (go_simp; with_reducible rfl)
        try simp only [Act.put, List.getElem_toArray, List.getElem_cons_zero, List.getElem_cons_succ, List.setIfInBounds_toArray, List.set_cons_zero, List.set_cons_succ]
        refine wpAnyH_take (i := 6) (v := ?_) rfl (by kernel_rfl) (by kernel_rfl) (by kernel_rfl) (fun _ _ _ h => h) (Or.inl ⟨by kernel_rfl, ?_⟩) hS ?_
        rotate_left
        · intro w' hS'
          have hq := hS'.1
          have hq2 := hS'.2
          clear hS'
          first | (go_simp; done) | (go_simp; with_reducible rfl)
        try simp only [Act.put, List.getElem_toArray, List.getElem_cons_zero, List.getElem_cons_succ, List.setIfInBounds_toArray, List.set_cons_zero, List.set_cons_succ]
        refine wpAnyH_take (i := 7) (v := ?_) rfl (by kernel_rfl) (by kernel_rfl) (by kernel_rfl) (fun _ _ _ h => h) (Or.inl ⟨by kernel_rfl, ?_⟩) hS ?_
        rotate_left
        · intro w' hS'
          have hq := hS'.1
          have hq2 := hS'.2
          clear hS'
          first | (go_simp; done) | (go_simp; with_reducible rfl)
        try simp only [Act.put, List.getElem_toArray, List.getElem_cons_zero, List.getElem_cons_succ, List.setIfInBounds_toArray, List.set_cons_zero, List.set_cons_succ]
        refine wpAnyH_take (i := 8) (v := ?_) rfl (by kernel_rfl) (by kernel_rfl) (by kernel_rfl) (fun _ _ _ h => h) (Or.inl ⟨by kernel_rfl, ?_⟩) hS ?_
        rotate_left
        · intro w' hS'
          have hq := hS'.1
          have hq2 := hS'.2
          clear hS'
          first | (go_simp; done) | (go_simp; with_reducible rfl)
        try simp only [Act.put, List.getElem_toArray, List.getElem_cons_zero, List.getElem_cons_succ, List.setIfInBounds_toArray, List.set_cons_zero, List.set_cons_succ]
        refine wpAnyH_take (i := 9) (v := ?_) rfl (by kernel_rfl) (by kernel_rfl) (by kernel_rfl) (fun _ _ _ h => h) (Or.inl ⟨by kernel_rfl, ?_⟩) hS ?_
        rotate_left
        · intro w' hS'
          have hq := hS'.1
          have hq2 := hS'.2
          clear hS'
          first | (go_simp; done) | (go_simp; with_reducible rfl)
        try simp only [Act.put, List.getElem_toArray, List.getElem_cons_zero, List.getElem_cons_succ, List.setIfInBounds_toArray, List.set_cons_zero, List.set_cons_succ]
        refine wpAnyH_done (by kernel_rfl) ?_ _
        have hq5 := Lib.hid q5
        have hcq := q5.1 g 3 hgl hgX
        clear q5 hS
        go_wp2_with (go_at_call 37; refine (read_any l3 _ noneB 255 b1 X _ hspl (by decide +kernel) (by decide) s3 (hTW.out.grown hq5.out.2.1 hX3) hq5.out.2.2).mono ?_; rintro e w6 ⟨rfl, h6b, h6g⟩)
        go_meet
        rw [hcr]
        exact ⟨rfl, h6b, grown_comp hq5.out.2.1 h6g⟩
    case rest =>
      clear HC1 hg1
      obtain ⟨rfl, HB2, hg2⟩ := hcut
      generalize hb2 : (b1 || (codeR l3).2) = b2 at *
      generalize hcv : (codeR l3).1 = cv at *
      have HC2 := Lib.hid HB2
      clear HB2
      have hspl : wordsB (B8 []) = noneB := by decide +kernel
      generalize hr4 : readB noneB l4 65535 = r4 at *
      generalize hr5 : readB noneB l5 65535 = r5 at *
      generalize hr6 : readB noneB l6 65535 = r6 at *
      refine (show ∀ (a : Act) (w : World), Code.wp Tryd.prog _ _ a w → _ from by assumption) _ _ ?_
      (apply wp_seq_k; intro _ _)
      go_cut [12] (fun s12 wd => ∃ A, s12 = .pointer (some ⟨A, 0, none⟩) ∧ W.heap.size ≤ A ∧ wd.heap[A]? = some (.cells #[.int .u8 tt, .int .u8 (IntKind.u8.wrap cv), .int .u16 (IntKind.u16.wrap r4.1), .int .u16 (IntKind.u16.wrap r5.1), .int .u16 (IntKind.u16.wrap r6.1)] 25 (0, 0)) ∧ wd.heap[X]? = some (.cells #[.bool (b2 || r4.2 || r5.2 || r6.2)] 4 (0, 0)) ∧ W.grownBy wd (some X))
      case first =>
        refine wp_region_held_drew (S := But W X) (by kernel_rfl) ⟨grown_cells (grown_drew hg2), grown_drew hg2⟩ (fun hS => ?_)
        have hBx : Bx W X b2 wc.drew := Bx.of (grown_drew hg2) HC2.out
        clear HC2 hg2
        generalize wc.drew = v3 at *
        refine wpAnyH_take (i := 0) (v := ?_) rfl (by kernel_rfl) (by kernel_rfl) (by kernel_rfl) (fun _ _ _ h => h) (Or.inl ⟨by kernel_rfl, ?_⟩) hS ?_
        rotate_left
        · intro w' hS'
          have hq := hS'.1
          have hq2 := hS'.2
          clear hS'
          first | (go_simp; done) | (go_simp; with_reducible rfl)
        try simp only [Act.put, List.getElem_toArray, List.getElem_cons_zero, List.getElem_cons_succ, List.setIfInBounds_toArray, List.set_cons_zero, List.set_cons_succ]
        refine wpAnyH_take (i := 1) (v := ?_) rfl (by kernel_rfl) (by kernel_rfl) (by kernel_rfl) (fun _ _ _ h => h) (Or.inl ⟨by kernel_rfl, ?_⟩) hS ?_
        rotate_left
        · intro w' hS'
          have hq := hS'.1
          have hq2 := hS'.2
          clear hS'
          first | (go_simp; done) | (go_simp; with_reducible rfl)
        try simp only [Act.put, List.getElem_toArray, List.getElem_cons_zero, List.getElem_cons_succ, List.setIfInBounds_toArray, List.set_cons_zero, List.set_cons_succ]
        refine wpAnyH_take (i := 2) (v := ?_) rfl (by kernel_rfl) (by kernel_rfl) (by kernel_rfl) (fun _ _ _ h => h) (Or.inl ⟨by kernel_rfl, ?_⟩) hS ?_
        rotate_left
        · intro w' hS'
          have hq := hS'.1
          have hq2 := hS'.2
          clear hS'
          first | (go_simp; done) | (go_simp; with_reducible rfl)
        try simp only [Act.put, List.getElem_toArray, List.getElem_cons_zero, List.getElem_cons_succ, List.setIfInBounds_toArray, List.set_cons_zero, List.set_cons_succ]
        refine wpAnyH_take (i := 3) (v := ?_) rfl (by kernel_rfl) (by kernel_rfl) (by kernel_rfl) (fun _ _ _ h => h) (Or.inl ⟨by kernel_rfl, ?_⟩) hS ?_
        rotate_left
        · intro w' hS'
          have hq := hS'.1
          have hq2 := hS'.2
          clear hS'
          first | (go_simp; done) | (go_simp; with_reducible rfl)
        try simp only [Act.put, List.getElem_toArray, List.getElem_cons_zero, List.getElem_cons_succ, List.setIfInBounds_toArray, List.set_cons_zero, List.set_cons_succ]
        refine wpAnyH_take (i := 4) (v := ?_) rfl (by kernel_rfl) (by kernel_rfl) (by kernel_rfl) (fun _ _ _ h => h) (Or.inl ⟨by kernel_rfl, ?_⟩) hS ?_
        rotate_left
        · intro w' hS'
          have hq := hS'.1
          have hq2 := hS'.2
          clear hS'
          first | (go_simp; done) | (go_simp; with_reducible rfl)
        try simp only [Act.put, List.getElem_toArray, List.getElem_cons_zero, List.getElem_cons_succ, List.setIfInBounds_toArray, List.set_cons_zero, List.set_cons_succ]
        refine wpAnyH_take (i := 5) (v := ?_) rfl (by kernel_rfl) (by kernel_rfl) (by kernel_rfl) (fun _ _ _ h => h) (Or.inl ⟨by kernel_rfl, ?_⟩) hS ?_
        rotate_left
        · intro w' hS'
          have hq := hS'.1
          have hq2 := hS'.2
          clear hS'
          first | (go_simp; done) | (go_simp; with_reducible rfl)
        try simp only [Act.put, List.getElem_toArray, List.getElem_cons_zero, List.getElem_cons_succ, List.setIfInBounds_toArray, List.set_cons_zero, List.set_cons_succ]
        refine wpAnyH_take (i := 6) (v := ?_) rfl (by kernel_rfl) (by kernel_rfl) (by kernel_rfl) (fun _ _ _ h => h) (Or.inl ⟨by kernel_rfl, ?_⟩) hS ?_
        rotate_left
        · intro w' hS'
          have hq := hS'.1
          have hq2 := hS'.2
          clear hS'
          first | (go_simp; done) | (go_simp; with_reducible rfl)
        try simp only [Act.put, List.getElem_toArray, List.getElem_cons_zero, List.getElem_cons_succ, List.setIfInBounds_toArray, List.set_cons_zero, List.set_cons_succ]
        refine wpAnyH_take (i := 9) (v := ?_) rfl (by kernel_rfl) (by kernel_rfl) (by kernel_rfl) (fun _ _ _ h => h) (Or.inl ⟨by kernel_rfl, ?_⟩) hS ?_
        rotate_left
        · intro w' hS'
          have hq := hS'.1
          have hq2 := hS'.2
          clear hS'
          first | (go_simp; done) | (go_simp; with_reducible rfl)
        try simp only [Act.put, List.getElem_toArray, List.getElem_cons_zero, List.getElem_cons_succ, List.setIfInBounds_toArray, List.set_cons_zero, List.set_cons_succ]
        refine wpAnyH_take (i := 10) (v := ?_) rfl (by kernel_rfl) (by kernel_rfl) (by kernel_rfl) (fun _ _ _ h => h) (Or.inl ⟨by kernel_rfl, ?_⟩) hS ?_
        rotate_left
        · intro w' hS'
          have hq := hS'.1
          have hq2 := hS'.2
          clear hS'
          first | (go_simp; done) | (go_simp; with_reducible rfl)
        try simp only [Act.put, List.getElem_toArray, List.getElem_cons_zero, List.getElem_cons_succ, List.setIfInBounds_toArray, List.set_cons_zero, List.set_cons_succ]
        refine wpAnyH_take (i := 11) (v := ?_) rfl (by kernel_rfl) (by kernel_rfl) (by kernel_rfl) (fun _ _ _ h => h) (Or.inl ⟨by kernel_rfl, ?_⟩) hS ?_
        rotate_left
        · intro w' hS'
          have hq := hS'.1
          have hq2 := hS'.2
          clear hS'
          first | (go_simp; done) | (go_simp; with_reducible rfl)
        try simp only [Act.put, List.getElem_toArray, List.getElem_cons_zero, List.getElem_cons_succ, List.setIfInBounds_toArray, List.set_cons_zero, List.set_cons_succ]
        refine wpAnyH_take (i := 12) (v := ?_) rfl (by kernel_rfl) (by kernel_rfl) (by kernel_rfl) (fun _ _ _ h => h) (Or.inl ⟨by kernel_rfl, ?_⟩) hS ?_
        rotate_left
        · intro w' hS'
          have hq := hS'.1
          have hq2 := hS'.2
          clear hS'
          first | (go_simp; done) | (go_simp; with_reducible rfl)
        try simp only [Act.put, List.getElem_toArray, List.getElem_cons_zero, List.getElem_cons_succ, List.setIfInBounds_toArray, List.set_cons_zero, List.set_cons_succ]
        refine wpAnyH_take (i := 15) (v := ?_) rfl (by kernel_rfl) (by kernel_rfl) (by kernel_rfl) (fun _ _ _ h => h) (Or.inl ⟨by kernel_rfl, ?_⟩) hS ?_
        rotate_left
        · intro w' hS'
          have hq := hS'.1
          have hq2 := hS'.2
          clear hS'
          first | (go_simp; done) | (go_simp; with_reducible rfl)
        try simp only [Act.put, List.getElem_toArray, List.getElem_cons_zero, List.getElem_cons_succ, List.setIfInBounds_toArray, List.set_cons_zero, List.set_cons_succ]
        refine wpAnyH_take (i := 16) (v := ?_) rfl (by kernel_rfl) (by kernel_rfl) (by kernel_rfl) (fun _ _ _ h => h) (Or.inl ⟨by kernel_rfl, ?_⟩) hS ?_
        rotate_left
        · intro w' hS'
          have hq := hS'.1
          have hq2 := hS'.2
          clear hS'
          first | (go_simp; done) | (go_simp; with_reducible rfl)
        try simp only [Act.put, List.getElem_toArray, List.getElem_cons_zero, List.getElem_cons_succ, List.setIfInBounds_toArray, List.set_cons_zero, List.set_cons_succ]
        refine wpAnyH_take (i := 17) (v := ?_) rfl (by kernel_rfl) (by kernel_rfl) (by kernel_rfl) (fun _ _ _ h => h) (Or.inl ⟨by kernel_rfl, ?_⟩) hS ?_
        rotate_left
        · intro w' hS'
          have hq := hS'.1
          have hq2 := hS'.2
          clear hS'
          first | (go_simp; done) | (go_simp; with_reducible rfl)
        try simp only [Act.put, List.getElem_toArray, List.getElem_cons_zero, List.getElem_cons_succ, List.setIfInBounds_toArray, List.set_cons_zero, List.set_cons_succ]
        refine wpAnyH_take (i := 18) (v := ?_) rfl (by kernel_rfl) (by kernel_rfl) (by kernel_rfl) (fun _ _ _ h => h) (Or.inl ⟨by kernel_rfl, ?_⟩) hS ?_
        rotate_left
        · intro w' hS'
          have hq := hS'.1
          have hq2 := hS'.2
          clear hS'
          first | (go_simp; done) | (go_simp; with_reducible rfl)
        try simp only [Act.put, List.getElem_toArray, List.getElem_cons_zero, List.getElem_cons_succ, List.setIfInBounds_toArray, List.set_cons_zero, List.set_cons_succ]
        refine wpAnyH_ready (rs := [7, 22]) (by kernel_rfl) (by simp) ?_
        refine AllReadyH.cons rfl (fun K hK => ?_) (AllReadyH.cons rfl (fun K hK => ?_) AllReadyH.nil)
        · go_simp
          go_at_call 37
          refine (read_any l4 _ noneB 65535 _ X _ hspl (by decide +kernel) (by decide) s4 (hTW.out.grown hBx.2.1 hX3) hBx.2.2).mono ?_
          rw [hr4]
          rintro e v4 ⟨rfl, vb, vg⟩
          try dsimp only
          have q5 : Bx W X (b2 || r4.2) v4 := Bx.of (grown_comp hBx.2.1 vg) vb
          clear hS
          refine hK.out _ _ ?_ (fun hS => ?_)
          · exact ⟨q5.1, q5.2.1⟩
          clear hK K hBx
          try simp only [Act.put, List.getElem_toArray, List.getElem_cons_zero, List.getElem_cons_succ, List.setIfInBounds_toArray, List.set_cons_zero, List.set_cons_succ]
          have hBx := q5
          clear vb vg q5
          refine wpAnyH_take (i := 8) (v := ?_) rfl (by kernel_rfl) (by kernel_rfl) (by kernel_rfl) (fun _ _ _ h => h) (Or.inl ⟨by kernel_rfl, ?_⟩) hS ?_
          rotate_left
          · intro w' hS'
            have hq := hS'.1
            have hq2 := hS'.2
            clear hS'
            first | (go_simp; done) | (go_simp; with_reducible rfl)
          try simp only [Act.put, List.getElem_toArray, List.getElem_cons_zero, List.getElem_cons_succ, List.setIfInBounds_toArray, List.set_cons_zero, List.set_cons_succ]
          refine wpAnyH_ready (rs := [13, 22]) (by kernel_rfl) (by simp) ?_
          refine AllReadyH.cons rfl (fun K hK => ?_) (AllReadyH.cons rfl (fun K hK => ?_) AllReadyH.nil)
          · go_simp
            go_at_call 37
            refine (read_any l5 _ noneB 65535 _ X _ hspl (by decide +kernel) (by decide) s5 (hTW.out.grown hBx.2.1 hX3) hBx.2.2).mono ?_
            rw [hr5]
            rintro e v5 ⟨rfl, vb, vg⟩
            try dsimp only
            have q5 : Bx W X (b2 || r4.2 || r5.2) v5 := Bx.of (grown_comp hBx.2.1 vg) vb
            clear hS
            refine hK.out _ _ ?_ (fun hS => ?_)
            · exact ⟨q5.1, q5.2.1⟩
            clear hK K hBx
            try simp only [Act.put, List.getElem_toArray, List.getElem_cons_zero, List.getElem_cons_succ, List.setIfInBounds_toArray, List.set_cons_zero, List.set_cons_succ]
            have hBx := q5
            clear vb vg q5
            refine wpAnyH_take (i := 14) (v := ?_) rfl (by kernel_rfl) (by kernel_rfl) (by kernel_rfl) (fun _ _ _ h => h) (Or.inl ⟨by kernel_rfl, ?_⟩) hS ?_
            rotate_left
            · intro w' hS'
              have hq := hS'.1
              have hq2 := hS'.2
              clear hS'
              first | (go_simp; done) | (go_simp; with_reducible rfl)
            try simp only [Act.put, List.getElem_toArray, List.getElem_cons_zero, List.getElem_cons_succ, List.setIfInBounds_toArray, List.set_cons_zero, List.set_cons_succ]
            refine wpAnyH_ready (rs := [19, 22]) (by kernel_rfl) (by simp) ?_
            refine AllReadyH.cons rfl (fun K hK => ?_) (AllReadyH.cons rfl (fun K hK => ?_) AllReadyH.nil)
            · go_simp
              go_at_call 37
              refine (read_any l6 _ noneB 65535 _ X _ hspl (by decide +kernel) (by decide) s6 (hTW.out.grown hBx.2.1 hX3) hBx.2.2).mono ?_
              rw [hr6]
              rintro e v6 ⟨rfl, vb, vg⟩
              try dsimp only
              have q5 : Bx W X (b2 || r4.2 || r5.2 || r6.2) v6 := Bx.of (grown_comp hBx.2.1 vg) vb
              clear hS
              refine hK.out _ _ ?_ (fun hS => ?_)
              · exact ⟨q5.1, q5.2.1⟩
              clear hK K hBx
              try simp only [Act.put, List.getElem_toArray, List.getElem_cons_zero, List.getElem_cons_succ, List.setIfInBounds_toArray, List.set_cons_zero, List.set_cons_succ]
              have hBx := q5
              clear vb vg q5
              refine wpAnyH_take (i := 20) (v := ?_) rfl (by kernel_rfl) (by kernel_rfl) (by kernel_rfl) (fun _ _ _ h => h) (Or.inl ⟨by kernel_rfl, ?_⟩) hS ?_
              rotate_left
              · intro w' hS'
                have hq := hS'.1
                have hq2 := hS'.2
                clear hS'
                first | (go_simp; done) | (go_simp; with_reducible rfl)
              try simp only [Act.put, List.getElem_toArray, List.getElem_cons_zero, List.getElem_cons_succ, List.setIfInBounds_toArray, List.set_cons_zero, List.set_cons_succ]
              refine wpAnyH_take (i := 21) (v := ?_) rfl (by kernel_rfl) (by kernel_rfl) (by kernel_rfl) (fun _ _ _ h => h) (Or.inl ⟨by kernel_rfl, ?_⟩) hS ?_
              rotate_left
              · intro w' hS'
                have hq := hS'.1
                have hq2 := hS'.2
                clear hS'
                first | (go_simp; done) | (go_simp; with_reducible rfl)
              try simp only [Act.put, List.getElem_toArray, List.getElem_cons_zero, List.getElem_cons_succ, List.setIfInBounds_toArray, List.set_cons_zero, List.set_cons_succ]
              refine wpAnyH_ready (rs := [22]) (by kernel_rfl) (by simp) ?_
              refine AllReadyH.cons rfl (fun K hK => ?_) AllReadyH.nil
              go_simp
              have q5 := Bx.alloc hBx (.cells #[.int .u8 0, .int .u8 0, .int .u16 0, .int .u16 0, .int .u16 0] 25)
              have q6 := heap_at (w := v6) (.cells #[.int .u8 0, .int .u8 0, .int .u16 0, .int .u16 0, .int .u16 0] 25) rfl
              have q7 : W.heap.size ≤ v6.heap.size := hBx.2.1.size
              clear hS
              refine hK.out _ _ ?_ (fun hS => ?_)
              · exact ⟨q5.1, q5.2.1⟩
              clear hK K hBx
              try simp only [Act.put, List.getElem_toArray, List.getElem_cons_zero, List.getElem_cons_succ, List.setIfInBounds_toArray, List.set_cons_zero, List.set_cons_succ]
              generalize v6.alloc (.cells #[.int .u8 0, .int .u8 0, .int .u16 0, .int .u16 0, .int .u16 0] 25) = va at *
              generalize v6.heap.size = A at *
              have hBx := q5
              have hA := q6
              have hAW := q7
              have hXA : A ≠ X := by omega
              clear q5 q6 q7
              clear hS
              have a0 := cell_heap hA (o := 0) rfl
              have a1 := cell_heap hA (o := 1) rfl
              have a2 := cell_heap hA (o := 2) rfl
              have a3 := cell_heap hA (o := 3) rfl
              have a4 := cell_heap hA (o := 4) rfl
              have f0 := frozen_heap hA (o := 0)
              have f1 := frozen_heap hA (o := 1)
              have f2 := frozen_heap hA (o := 2)
              have f3 := frozen_heap hA (o := 3)
              have f4 := frozen_heap hA (o := 4)
              refine wpAnyH_ready (rs := [23]) (by kernel_rfl) (by simp) ?_
              refine AllReadyH.cons rfl (fun K hK => ?_) AllReadyH.nil
              go_simp
              have hz := row_stored hBx hA hAW hXA (.int .u8 tt) (.int .u8 (IntKind.u8.wrap cv)) (.int .u16 (IntKind.u16.wrap r4.1)) (.int .u16 (IntKind.u16.wrap r5.1)) (.int .u16 (IntKind.u16.wrap r6.1))
              refine hK.out _ _ ⟨hz.1.1, hz.1.2.1⟩ (fun _ => ?_)
              try simp only [Act.put, List.getElem_toArray, List.getElem_cons_zero, List.getElem_cons_succ, List.setIfInBounds_toArray, List.set_cons_zero, List.set_cons_succ]
              refine wpAnyH_done (by kernel_rfl) ?_ _
              clear hK K hBx hA a0 a1 a2 a3 a4 f0 f1 f2 f3 f4
              have hZ := Lib.hid hz
              clear hz
              go_wp2
              go_meet
              exact ⟨A, rfl, hAW, hZ.out.2, hZ.out.1.2.2, hZ.out.1.2.1⟩
            · go_simp
              have q5 := Bx.alloc hBx (.cells #[.int .u8 0, .int .u8 0, .int .u16 0, .int .u16 0, .int .u16 0] 25)
              have q6 := heap_at (w := v5) (.cells #[.int .u8 0, .int .u8 0, .int .u16 0, .int .u16 0, .int .u16 0] 25) rfl
              have q7 : W.heap.size ≤ v5.heap.size := hBx.2.1.size
              clear hS
              refine hK.out _ _ ?_ (fun hS => ?_)
              · exact ⟨q5.1, q5.2.1⟩
              clear hK K hBx
              try simp only [Act.put, List.getElem_toArray, List.getElem_cons_zero, List.getElem_cons_succ, List.setIfInBounds_toArray, List.set_cons_zero, List.set_cons_succ]
              generalize v5.alloc (.cells #[.int .u8 0, .int .u8 0, .int .u16 0, .int .u16 0, .int .u16 0] 25) = va at *
              generalize v5.heap.size = A at *
              have hBx := q5
              have hA := q6
              have hAW := q7
              have hXA : A ≠ X := by omega
              clear q5 q6 q7
              refine wpAnyH_ready (rs := [19]) (by kernel_rfl) (by simp) ?_
              refine AllReadyH.cons rfl (fun K hK => ?_) AllReadyH.nil
              go_simp
              go_at_call 37
              refine (read_any l6 _ noneB 65535 _ X _ hspl (by decide +kernel) (by decide) s6 (hTW.out.grown hBx.2.1 hX3) hBx.2.2).mono ?_
              rw [hr6]
              rintro e v6 ⟨rfl, vb, vg⟩
              try dsimp only
              have q5 : Bx W X (b2 || r4.2 || r5.2 || r6.2) v6 := Bx.of (grown_comp hBx.2.1 vg) vb
              have q6 := heap_but vg hA hXA
              clear hS
              refine hK.out _ _ ?_ (fun hS => ?_)
              · exact ⟨q5.1, q5.2.1⟩
              clear hK K hBx hA
              try simp only [Act.put, List.getElem_toArray, List.getElem_cons_zero, List.getElem_cons_succ, List.setIfInBounds_toArray, List.set_cons_zero, List.set_cons_succ]
              have hBx := q5
              have hA := q6
              clear vb vg q5 q6
              refine wpAnyH_take (i := 20) (v := ?_) rfl (by kernel_rfl) (by kernel_rfl) (by kernel_rfl) (fun _ _ _ h => h) (Or.inl ⟨by kernel_rfl, ?_⟩) hS ?_
              rotate_left
              · intro w' hS'
                have hq := hS'.1
                have hq2 := hS'.2
                clear hS'
                first | (go_simp; done) | (go_simp; with_reducible rfl)
              try simp only [Act.put, List.getElem_toArray, List.getElem_cons_zero, List.getElem_cons_succ, List.setIfInBounds_toArray, List.set_cons_zero, List.set_cons_succ]
              refine wpAnyH_take (i := 21) (v := ?_) rfl (by kernel_rfl) (by kernel_rfl) (by kernel_rfl) (fun _ _ _ h => h) (Or.inl ⟨by kernel_rfl, ?_⟩) hS ?_
              rotate_left
              · intro w' hS'
                have hq := hS'.1
                have hq2 := hS'.2
                clear hS'
                first | (go_simp; done) | (go_simp; with_reducible rfl)
              try simp only [Act.put, List.getElem_toArray, List.getElem_cons_zero, List.getElem_cons_succ, List.setIfInBounds_toArray, List.set_cons_zero, List.set_cons_succ]
              clear hS
              have a0 := cell_heap hA (o := 0) rfl
              have a1 := cell_heap hA (o := 1) rfl
              have a2 := cell_heap hA (o := 2) rfl
              have a3 := cell_heap hA (o := 3) rfl
              have a4 := cell_heap hA (o := 4) rfl
              have f0 := frozen_heap hA (o := 0)
              have f1 := frozen_heap hA (o := 1)
              have f2 := frozen_heap hA (o := 2)
              have f3 := frozen_heap hA (o := 3)
              have f4 := frozen_heap hA (o := 4)
              refine wpAnyH_ready (rs := [23]) (by kernel_rfl) (by simp) ?_
              refine AllReadyH.cons rfl (fun K hK => ?_) AllReadyH.nil
              go_simp
              have hz := row_stored hBx hA hAW hXA (.int .u8 tt) (.int .u8 (IntKind.u8.wrap cv)) (.int .u16 (IntKind.u16.wrap r4.1)) (.int .u16 (IntKind.u16.wrap r5.1)) (.int .u16 (IntKind.u16.wrap r6.1))
              refine hK.out _ _ ⟨hz.1.1, hz.1.2.1⟩ (fun _ => ?_)
              try simp only [Act.put, List.getElem_toArray, List.getElem_cons_zero, List.getElem_cons_succ, List.setIfInBounds_toArray, List.set_cons_zero, List.set_cons_succ]
              refine wpAnyH_done (by kernel_rfl) ?_ _
              clear hK K hBx hA a0 a1 a2 a3 a4 f0 f1 f2 f3 f4
              have hZ := Lib.hid hz
              clear hz
              go_wp2
              go_meet
              exact ⟨A, rfl, hAW, hZ.out.2, hZ.out.1.2.2, hZ.out.1.2.1⟩
          · go_simp
            have q5 := Bx.alloc hBx (.cells #[.int .u8 0, .int .u8 0, .int .u16 0, .int .u16 0, .int .u16 0] 25)
            have q6 := heap_at (w := v4) (.cells #[.int .u8 0, .int .u8 0, .int .u16 0, .int .u16 0, .int .u16 0] 25) rfl
            have q7 : W.heap.size ≤ v4.heap.size := hBx.2.1.size
            clear hS
            refine hK.out _ _ ?_ (fun hS => ?_)
            · exact ⟨q5.1, q5.2.1⟩
            clear hK K hBx
            try simp only [Act.put, List.getElem_toArray, List.getElem_cons_zero, List.getElem_cons_succ, List.setIfInBounds_toArray, List.set_cons_zero, List.set_cons_succ]
            generalize v4.alloc (.cells #[.int .u8 0, .int .u8 0, .int .u16 0, .int .u16 0, .int .u16 0] 25) = va at *
            generalize v4.heap.size = A at *
            have hBx := q5
            have hA := q6
            have hAW := q7
            have hXA : A ≠ X := by omega
            clear q5 q6 q7
            refine wpAnyH_ready (rs := [13]) (by kernel_rfl) (by simp) ?_
            refine AllReadyH.cons rfl (fun K hK => ?_) AllReadyH.nil
            go_simp
            go_at_call 37
            refine (read_any l5 _ noneB 65535 _ X _ hspl (by decide +kernel) (by decide) s5 (hTW.out.grown hBx.2.1 hX3) hBx.2.2).mono ?_
            rw [hr5]
            rintro e v5 ⟨rfl, vb, vg⟩
            try dsimp only
            have q5 : Bx W X (b2 || r4.2 || r5.2) v5 := Bx.of (grown_comp hBx.2.1 vg) vb
            have q6 := heap_but vg hA hXA
            clear hS
            refine hK.out _ _ ?_ (fun hS => ?_)
            · exact ⟨q5.1, q5.2.1⟩
            clear hK K hBx hA
            try simp only [Act.put, List.getElem_toArray, List.getElem_cons_zero, List.getElem_cons_succ, List.setIfInBounds_toArray, List.set_cons_zero, List.set_cons_succ]
            have hBx := q5
            have hA := q6
            clear vb vg q5 q6
            refine wpAnyH_take (i := 14) (v := ?_) rfl (by kernel_rfl) (by kernel_rfl) (by kernel_rfl) (fun _ _ _ h => h) (Or.inl ⟨by kernel_rfl, ?_⟩) hS ?_
            rotate_left
            · intro w' hS'
              have hq := hS'.1
              have hq2 := hS'.2
              clear hS'
              first | (go_simp; done) | (go_simp; with_reducible rfl)
            try simp only [Act.put, List.getElem_toArray, List.getElem_cons_zero, List.getElem_cons_succ, List.setIfInBounds_toArray, List.set_cons_zero, List.set_cons_succ]
            refine wpAnyH_ready (rs := [19]) (by kernel_rfl) (by simp) ?_
            refine AllReadyH.cons rfl (fun K hK => ?_) AllReadyH.nil
            go_simp
            go_at_call 37
            refine (read_any l6 _ noneB 65535 _ X _ hspl (by decide +kernel) (by decide) s6 (hTW.out.grown hBx.2.1 hX3) hBx.2.2).mono ?_
            rw [hr6]
            rintro e v6 ⟨rfl, vb, vg⟩
            try dsimp only
            have q5 : Bx W X (b2 || r4.2 || r5.2 || r6.2) v6 := Bx.of (grown_comp hBx.2.1 vg) vb
            have q6 := heap_but vg hA hXA
            clear hS
            refine hK.out _ _ ?_ (fun hS => ?_)
            · exact ⟨q5.1, q5.2.1⟩
            clear hK K hBx hA
            try simp only [Act.put, List.getElem_toArray, List.getElem_cons_zero, List.getElem_cons_succ, List.setIfInBounds_toArray, List.set_cons_zero, List.set_cons_succ]
            have hBx := q5
            have hA := q6
            clear vb vg q5 q6
            refine wpAnyH_take (i := 20) (v := ?_) rfl (by kernel_rfl) (by kernel_rfl) (by kernel_rfl) (fun _ _ _ h => h) (Or.inl ⟨by kernel_rfl, ?_⟩) hS ?_
            rotate_left
            · intro w' hS'
              have hq := hS'.1
              have hq2 := hS'.2
              clear hS'
              first | (go_simp; done) | (go_simp; with_reducible rfl)
            try simp only [Act.put, List.getElem_toArray, List.getElem_cons_zero, List.getElem_cons_succ, List.setIfInBounds_toArray, List.set_cons_zero, List.set_cons_succ]
            refine wpAnyH_take (i := 21) (v := ?_) rfl (by kernel_rfl) (by kernel_rfl) (by kernel_rfl) (fun _ _ _ h => h) (Or.inl ⟨by kernel_rfl, ?_⟩) hS ?_
            rotate_left
            · intro w' hS'
              have hq := hS'.1
              have hq2 := hS'.2
              clear hS'
              first | (go_simp; done) | (go_simp; with_reducible rfl)
            try simp only [Act.put, List.getElem_toArray, List.getElem_cons_zero, List.getElem_cons_succ, List.setIfInBounds_toArray, List.set_cons_zero, List.set_cons_succ]
            clear hS
            have a0 := cell_heap hA (o := 0) rfl
            have a1 := cell_heap hA (o := 1) rfl
            have a2 := cell_heap hA (o := 2) rfl
            have a3 := cell_heap hA (o := 3) rfl
            have a4 := cell_heap hA (o := 4) rfl
            have f0 := frozen_heap hA (o := 0)
            have f1 := frozen_heap hA (o := 1)
            have f2 := frozen_heap hA (o := 2)
            have f3 := frozen_heap hA (o := 3)
            have f4 := frozen_heap hA (o := 4)
            refine wpAnyH_ready (rs := [23]) (by kernel_rfl) (by simp) ?_
            refine AllReadyH.cons rfl (fun K hK => ?_) AllReadyH.nil
            go_simp
            have hz := row_stored hBx hA hAW hXA (.int .u8 tt) (.int .u8 (IntKind.u8.wrap cv)) (.int .u16 (IntKind.u16.wrap r4.1)) (.int .u16 (IntKind.u16.wrap r5.1)) (.int .u16 (IntKind.u16.wrap r6.1))
            refine hK.out _ _ ⟨hz.1.1, hz.1.2.1⟩ (fun _ => ?_)
            try simp only [Act.put, List.getElem_toArray, List.getElem_cons_zero, List.getElem_cons_succ, List.setIfInBounds_toArray, List.set_cons_zero, List.set_cons_succ]
            refine wpAnyH_done (by kernel_rfl) ?_ _
            clear hK K hBx hA a0 a1 a2 a3 a4 f0 f1 f2 f3 f4
            have hZ := Lib.hid hz
            clear hz
            go_wp2
            go_meet
            exact ⟨A, rfl, hAW, hZ.out.2, hZ.out.1.2.2, hZ.out.1.2.1⟩
        · go_simp
          have q5 := Bx.alloc hBx (.cells #[.int .u8 0, .int .u8 0, .int .u16 0, .int .u16 0, .int .u16 0] 25)
          have q6 := heap_at (w := v3) (.cells #[.int .u8 0, .int .u8 0, .int .u16 0, .int .u16 0, .int .u16 0] 25) rfl
          have q7 : W.heap.size ≤ v3.heap.size := hBx.2.1.size
          clear hS
          refine hK.out _ _ ?_ (fun hS => ?_)
          · exact ⟨q5.1, q5.2.1⟩
          clear hK K hBx
          try simp only [Act.put, List.getElem_toArray, List.getElem_cons_zero, List.getElem_cons_succ, List.setIfInBounds_toArray, List.set_cons_zero, List.set_cons_succ]
          generalize v3.alloc (.cells #[.int .u8 0, .int .u8 0, .int .u16 0, .int .u16 0, .int .u16 0] 25) = va at *
          generalize v3.heap.size = A at *
          have hBx := q5
          have hA := q6
          have hAW := q7
          have hXA : A ≠ X := by omega
          clear q5 q6 q7
          refine wpAnyH_ready (rs := [7]) (by kernel_rfl) (by simp) ?_
          refine AllReadyH.cons rfl (fun K hK => ?_) AllReadyH.nil
          go_simp
          go_at_call 37
          refine (read_any l4 _ noneB 65535 _ X _ hspl (by decide +kernel) (by decide) s4 (hTW.out.grown hBx.2.1 hX3) hBx.2.2).mono ?_
          rw [hr4]
          rintro e v4 ⟨rfl, vb, vg⟩
          try dsimp only
          have q5 : Bx W X (b2 || r4.2) v4 := Bx.of (grown_comp hBx.2.1 vg) vb
          have q6 := heap_but vg hA hXA
          clear hS
          refine hK.out _ _ ?_ (fun hS => ?_)
          · exact ⟨q5.1, q5.2.1⟩
          clear hK K hBx hA
          try simp only [Act.put, List.getElem_toArray, List.getElem_cons_zero, List.getElem_cons_succ, List.setIfInBounds_toArray, List.set_cons_zero, List.set_cons_succ]
          have hBx := q5
          have hA := q6
          clear vb vg q5 q6
          refine wpAnyH_take (i := 8) (v := ?_) rfl (by kernel_rfl) (by kernel_rfl) (by kernel_rfl) (fun _ _ _ h => h) (Or.inl ⟨by kernel_rfl, ?_⟩) hS ?_
          rotate_left
          · intro w' hS'
            have hq := hS'.1
            have hq2 := hS'.2
            clear hS'
            first | (go_simp; done) | (go_simp; with_reducible rfl)
          try simp only [Act.put, List.getElem_toArray, List.getElem_cons_zero, List.getElem_cons_succ, List.setIfInBounds_toArray, List.set_cons_zero, List.set_cons_succ]
          refine wpAnyH_ready (rs := [13]) (by kernel_rfl) (by simp) ?_
          refine AllReadyH.cons rfl (fun K hK => ?_) AllReadyH.nil
          go_simp
          go_at_call 37
          refine (read_any l5 _ noneB 65535 _ X _ hspl (by decide +kernel) (by decide) s5 (hTW.out.grown hBx.2.1 hX3) hBx.2.2).mono ?_
          rw [hr5]
          rintro e v5 ⟨rfl, vb, vg⟩
          try dsimp only
          have q5 : Bx W X (b2 || r4.2 || r5.2) v5 := Bx.of (grown_comp hBx.2.1 vg) vb
          have q6 := heap_but vg hA hXA
          clear hS
          refine hK.out _ _ ?_ (fun hS => ?_)
          · exact ⟨q5.1, q5.2.1⟩
          clear hK K hBx hA
          try simp only [Act.put, List.getElem_toArray, List.getElem_cons_zero, List.getElem_cons_succ, List.setIfInBounds_toArray, List.set_cons_zero, List.set_cons_succ]
          have hBx := q5
          have hA := q6
          clear vb vg q5 q6
          refine wpAnyH_take (i := 14) (v := ?_) rfl (by kernel_rfl) (by kernel_rfl) (by kernel_rfl) (fun _ _ _ h => h) (Or.inl ⟨by kernel_rfl, ?_⟩) hS ?_
          rotate_left
          · intro w' hS'
            have hq := hS'.1
            have hq2 := hS'.2
            clear hS'
            first | (go_simp; done) | (go_simp; with_reducible rfl)
          try simp only [Act.put, List.getElem_toArray, List.getElem_cons_zero, List.getElem_cons_succ, List.setIfInBounds_toArray, List.set_cons_zero, List.set_cons_succ]
          refine wpAnyH_ready (rs := [19]) (by kernel_rfl) (by simp) ?_
          refine AllReadyH.cons rfl (fun K hK => ?_) AllReadyH.nil
          go_simp
          go_at_call 37
          refine (read_any l6 _ noneB 65535 _ X _ hspl (by decide +kernel) (by decide) s6 (hTW.out.grown hBx.2.1 hX3) hBx.2.2).mono ?_
          rw [hr6]
          rintro e v6 ⟨rfl, vb, vg⟩
          try dsimp only
          have q5 : Bx W X (b2 || r4.2 || r5.2 || r6.2) v6 := Bx.of (grown_comp hBx.2.1 vg) vb
          have q6 := heap_but vg hA hXA
          clear hS
          refine hK.out _ _ ?_ (fun hS => ?_)
          · exact ⟨q5.1, q5.2.1⟩
          clear hK K hBx hA
          try simp only [Act.put, List.getElem_toArray, List.getElem_cons_zero, List.getElem_cons_succ, List.setIfInBounds_toArray, List.set_cons_zero, List.set_cons_succ]
          have hBx := q5
          have hA := q6
          clear vb vg q5 q6
          refine wpAnyH_take (i := 20) (v := ?_) rfl (by kernel_rfl) (by kernel_rfl) (by kernel_rfl) (fun _ _ _ h => h) (Or.inl ⟨by kernel_rfl, ?_⟩) hS ?_
          rotate_left
          · intro w' hS'
            have hq := hS'.1
            have hq2 := hS'.2
            clear hS'
            first | (go_simp; done) | (go_simp; with_reducible rfl)
          try simp only [Act.put, List.getElem_toArray, List.getElem_cons_zero, List.getElem_cons_succ, List.setIfInBounds_toArray, List.set_cons_zero, List.set_cons_succ]
          refine wpAnyH_take (i := 21) (v := ?_) rfl (by kernel_rfl) (by kernel_rfl) (by kernel_rfl) (fun _ _ _ h => h) (Or.inl ⟨by kernel_rfl, ?_⟩) hS ?_
          rotate_left
          · intro w' hS'
            have hq := hS'.1
            have hq2 := hS'.2
            clear hS'
            first | (go_simp; done) | (go_simp; with_reducible rfl)
          try simp only [Act.put, List.getElem_toArray, List.getElem_cons_zero, List.getElem_cons_succ, List.setIfInBounds_toArray, List.set_cons_zero, List.set_cons_succ]
          clear hS
          have a0 := cell_heap hA (o := 0) rfl
          have a1 := cell_heap hA (o := 1) rfl
          have a2 := cell_heap hA (o := 2) rfl
          have a3 := cell_heap hA (o := 3) rfl
          have a4 := cell_heap hA (o := 4) rfl
          have f0 := frozen_heap hA (o := 0)
          have f1 := frozen_heap hA (o := 1)
          have f2 := frozen_heap hA (o := 2)
          have f3 := frozen_heap hA (o := 3)
          have f4 := frozen_heap hA (o := 4)
          refine wpAnyH_ready (rs := [23]) (by kernel_rfl) (by simp) ?_
          refine AllReadyH.cons rfl (fun K hK => ?_) AllReadyH.nil
          go_simp
          have hz := row_stored hBx hA hAW hXA (.int .u8 tt) (.int .u8 (IntKind.u8.wrap cv)) (.int .u16 (IntKind.u16.wrap r4.1)) (.int .u16 (IntKind.u16.wrap r5.1)) (.int .u16 (IntKind.u16.wrap r6.1))
          refine hK.out _ _ ⟨hz.1.1, hz.1.2.1⟩ (fun _ => ?_)
          try simp only [Act.put, List.getElem_toArray, List.getElem_cons_zero, List.getElem_cons_succ, List.setIfInBounds_toArray, List.set_cons_zero, List.set_cons_succ]
          refine wpAnyH_done (by kernel_rfl) ?_ _
          clear hK K hBx hA a0 a1 a2 a3 a4 f0 f1 f2 f3 f4
          have hZ := Lib.hid hz
          clear hz
          go_wp2
          go_meet
          exact ⟨A, rfl, hAW, hZ.out.2, hZ.out.1.2.2, hZ.out.1.2.1⟩
      case rest =>
        clear HC2 hg2
        obtain ⟨A, rfl, hA, HA, HB3, hg3⟩ := hcut
        rw [IntKind.wrap_u8, IntKind.wrap_u16, IntKind.wrap_u16, IntKind.wrap_u16] at HA
        have hPP : parseP l0 l1 l2 l3 l4 l5 l6 = ⟨tt, cv % 256, r4.1 % 65536, r5.1 % 65536, r6.1 % 65536⟩ := by unfold parseP; rw [htt, hcv, hr4, hr5, hr6]
        have hPW : parseW l1 l2 l3 l4 l5 l6 = (b2 || r4.2 || r5.2 || r6.2) := by unfold parseW; rw [hb1, hb2, hr4, hr5, hr6]
        have hok := parseP_ok l0 l1 l2 l3 l4 l5 l6
        rw [hPP] at hok
        generalize (b2 || r4.2 || r5.2 || r6.2) = wr at *
        generalize cv % 256 = q1 at *
        generalize r4.1 % 65536 = q2 at *
        generalize r5.1 % 65536 = q3 at *
        generalize r6.1 % 65536 = q4 at *
        have hRW := heap_lt HRR.out
        have hRA : R ≠ A := by omega
        have hTc := hTW.out.grown hg3 hX3
        have hRc := heap_but hg3 HRR.out hRX
        have hkc := kept_but hkW hg3 (by rw [HReq.out]; exact hwX)
        have hx := cell_heap HB3 (o := 0) rfl
        have y0 := cell_heap HA (o := 0) rfl
        have y1 := cell_heap HA (o := 1) rfl
        have y2 := cell_heap HA (o := 2) rfl
        have y3 := cell_heap HA (o := 3) rfl
        have y4 := cell_heap HA (o := 4) rfl
        clear hr4 hr5 hr6 hcv hb1 hb2 htt HB3 HRL HRB c0 c1 c2 c3 c4 c5 c6
        clear hg3 hL s1 s2 s3 s4 s5 s6 hTW
        refine (show ∀ (a : Act) (w : World), Code.wp Tryd.prog _ _ a w → _ from by assumption) _ _ ?_
        have hr0 := cell_heap hRc (o := 0) rfl
        have hf0 := frozen_heap hRc (o := 0)
        have hr1 := cell_heap hRc (o := 1) rfl
        have hf1 := frozen_heap hRc (o := 1)
        have hr2 := cell_heap hRc (o := 2) rfl
        have hf2 := frozen_heap hRc (o := 2)
        have hr3 := cell_heap hRc (o := 3) rfl
        have hf3 := frozen_heap hRc (o := 3)
        have hr4 := cell_heap hRc (o := 4) rfl
        have hf4 := frozen_heap hRc (o := 4)
        cases wr with
        | true =>
          go_wp2
          have hz := row_kept hkc (by rw [HReq.out]; exact Nat.le_refl _) hRc (.int .u8 0) (.int .u8 0) (.int .u16 0) (.int .u16 0) (.int .u16 0)
          generalize (((((wc.setCell ⟨R, 0, none⟩ (.int .u8 0)).setCell ⟨R, 1, none⟩ (.int .u8 0)).setCell ⟨R, 2, none⟩ (.int .u16 0)).setCell ⟨R, 3, none⟩ (.int .u16 0)).setCell ⟨R, 4, none⟩ (.int .u16 0)) = w9 at *
          obtain ⟨hk9, h9⟩ := hz
          have g0 := cell_heap h9 (o := 0) rfl
          have g1 := cell_heap h9 (o := 1) rfl
          have g2 := cell_heap h9 (o := 2) rfl
          have g3 := cell_heap h9 (o := 3) rfl
          have g4 := cell_heap h9 (o := 4) rfl
          refine bodyPost_ret (v := .tuple #[.agg #[.int .u8 0, .int .u8 0, .int .u16 0, .int .u16 0, .int .u16 0], .int .i64 4]) (by simp [results, Tryd.results17, go_sem, g0, g1, g2, g3, g4]) rfl ⟨?_, ?_, hk9⟩
          · intro h _; rw [hPW] at h; cases h
          · intro _; rfl
        | false =>
          generalize htx : textB ⟨tt, q1, q2, q3, q4⟩ = tx at *
          by_cases hts : tx = s
          · have hbe : (tx.toList == s.toList) = true := by rw [hts]; simp
            have hbn : (tx.toList != s.toList) = false := by rw [hts]; simp
            go_wp2_with (go_at_call 18; refine (text_any tt q1 q2 q3 q4 _ hok hTc).mono ?_; rw [htx]; rintro e w6 ⟨rfl, hk6⟩; have hA6 := heap_kept hk6 HA; have hR6 := heap_kept hk6 hRc; have x0 := cell_heap hA6 (o := 0) rfl; have p0 := cell_heap hR6 (o := 0) rfl; have e0 := frozen_heap hR6 (o := 0); have x1 := cell_heap hA6 (o := 1) rfl; have p1 := cell_heap hR6 (o := 1) rfl; have e1 := frozen_heap hR6 (o := 1); have x2 := cell_heap hA6 (o := 2) rfl; have p2 := cell_heap hR6 (o := 2) rfl; have e2 := frozen_heap hR6 (o := 2); have x3 := cell_heap hA6 (o := 3) rfl; have p3 := cell_heap hR6 (o := 3) rfl; have e3 := frozen_heap hR6 (o := 3); have x4 := cell_heap hA6 (o := 4) rfl; have p4 := cell_heap hR6 (o := 4) rfl; have e4 := frozen_heap hR6 (o := 4))
            have hz := row_kept (hkc.trans' hk6) (by rw [HReq.out]; exact Nat.le_refl _) hR6 (.int .u8 tt) (.int .u8 q1) (.int .u16 q2) (.int .u16 q3) (.int .u16 q4)
            generalize (((((w6.setCell ⟨R, 0, none⟩ (.int .u8 tt)).setCell ⟨R, 1, none⟩ (.int .u8 q1)).setCell ⟨R, 2, none⟩ (.int .u16 q2)).setCell ⟨R, 3, none⟩ (.int .u16 q3)).setCell ⟨R, 4, none⟩ (.int .u16 q4)) = w9 at *
            obtain ⟨hk9, h9⟩ := hz
            have g0 := cell_heap h9 (o := 0) rfl
            have g1 := cell_heap h9 (o := 1) rfl
            have g2 := cell_heap h9 (o := 2) rfl
            have g3 := cell_heap h9 (o := 3) rfl
            have g4 := cell_heap h9 (o := 4) rfl
            refine bodyPost_ret (v := .tuple #[.agg #[.int .u8 tt, .int .u8 q1, .int .u16 q2, .int .u16 q3, .int .u16 q4], .int .i64 0]) (by simp [results, Tryd.results17, go_sem, g0, g1, g2, g3, g4]) rfl ⟨?_, ?_, hk9⟩
            · intro _ _; rw [hPP]
            · intro h; exact absurd ⟨hPW, by rw [hPP, htx]; exact hts⟩ h
          · have hne : tx.toList ≠ s.toList := fun h => hts (by rw [ByteArray.toList_eq, ByteArray.toList_eq] at h; exact bytes_inj h)
            have hbe : (tx.toList == s.toList) = false := by simp [hne]
            have hbn : (tx.toList != s.toList) = true := by simp [hne]
            go_wp2_with (go_at_call 18; refine (text_any tt q1 q2 q3 q4 _ hok hTc).mono ?_; rw [htx]; rintro e w6 ⟨rfl, hk6⟩; have hA6 := heap_kept hk6 HA; have hR6 := heap_kept hk6 hRc; have x0 := cell_heap hA6 (o := 0) rfl; have p0 := cell_heap hR6 (o := 0) rfl; have e0 := frozen_heap hR6 (o := 0); have x1 := cell_heap hA6 (o := 1) rfl; have p1 := cell_heap hR6 (o := 1) rfl; have e1 := frozen_heap hR6 (o := 1); have x2 := cell_heap hA6 (o := 2) rfl; have p2 := cell_heap hR6 (o := 2) rfl; have e2 := frozen_heap hR6 (o := 2); have x3 := cell_heap hA6 (o := 3) rfl; have p3 := cell_heap hR6 (o := 3) rfl; have e3 := frozen_heap hR6 (o := 3); have x4 := cell_heap hA6 (o := 4) rfl; have p4 := cell_heap hR6 (o := 4) rfl; have e4 := frozen_heap hR6 (o := 4))
            have hz := row_kept (hkc.trans' hk6) (by rw [HReq.out]; exact Nat.le_refl _) hR6 (.int .u8 0) (.int .u8 0) (.int .u16 0) (.int .u16 0) (.int .u16 0)
            generalize (((((w6.setCell ⟨R, 0, none⟩ (.int .u8 0)).setCell ⟨R, 1, none⟩ (.int .u8 0)).setCell ⟨R, 2, none⟩ (.int .u16 0)).setCell ⟨R, 3, none⟩ (.int .u16 0)).setCell ⟨R, 4, none⟩ (.int .u16 0)) = w9 at *
            obtain ⟨hk9, h9⟩ := hz
            have g0 := cell_heap h9 (o := 0) rfl
            have g1 := cell_heap h9 (o := 1) rfl
            have g2 := cell_heap h9 (o := 2) rfl
            have g3 := cell_heap h9 (o := 3) rfl
            have g4 := cell_heap h9 (o := 4) rfl
            refine bodyPost_ret (v := .tuple #[.agg #[.int .u8 0, .int .u8 0, .int .u16 0, .int .u16 0, .int .u16 0], .int .i64 4]) (by simp [results, Tryd.results17, go_sem, g0, g1, g2, g3, g4]) rfl ⟨?_, ?_, hk9⟩
            · intro _ h; rw [hPP, htx] at h; exact absurd h hts
            · intro _; rfl
end Go.Proofs.YtfoeihbajichpaaDoor
