

/- Decode: operations with blocks. -/
import Derived.Test.YtfojemocffelhaaDoorChecked
import Derived.Deep.RegionHeld3
import Derived.Deep.DrawnRows
import Derived.Deep.DeepCutAuto
import Derived.Deep.LoopGhost
import Derived.Outline
import Derived.Handy
import Derived.OwnWalk
import Derived.Test.YtfojemocffelhaaDoorSp
set_option linter.unusedVariables false
set_option linter.unusedSimpArgs false
set_option linter.unusedSectionVars false
namespace Go.Proofs.YtfojemocffelhaaDoor
open Go.RowKit Go.Shelf
attribute [local go_sem ↓] Go.wp_at_zero Go.wp_at_succ

set_option maxRecDepth 100000 in
set_option maxHeartbeats 4000000 in
theorem dec_blk_ne (op dr : Int) (nm : ByteArray) (g0 off n cp : Nat) (bs out : List UInt8) (w : World) (hT : Tabs w) (hl : bs.length = n) (hn : 10 ≤ n) (hn16 : n ≤ 16) (hcp : n ≤ cp) (hB : Bs w g0 off bs) (z0 : w.cell? ⟨g0, off, none⟩ = some (.int .u8 op))
    (B4 B2 : Int) (hB40 : 0 ≤ B4) (hB41 : B4 < 4294967296) (hB20 : 0 ≤ B2) (hB21 : B2 < 65536) (h32 : ∀ w', Kept w w' → ∀ c, Calls Tryd.prog 32 #[.slice (some ⟨g0, off + 2, none⟩) 4 c] w' fun e w'' => e = .returned (.int .u32 B4) ∧ w'' = w') (h33 : ∀ w', Kept w w' → ∀ c, Calls Tryd.prog 33 #[.slice (some ⟨g0, off + 7, none⟩) 2 c] w' fun e w'' => e = .returned (.int .u16 B2) ∧ w'' = w') (h11 : ∀ w, Tabs w → Calls Tryd.prog 11 #[.agg #[.int .u8 op, .int .u32 B4, .int .u16 B2, .int .i64 0]] w fun e w' => ∃ g, e = .returned (.tuple #[.slice (some ⟨g, 0, none⟩) 10 10, .int .i64 0]) ∧ w.heap.size ≤ g ∧ w'.heap[g]? = some (.cells (u8C out).toArray 5 (0, 0)) ∧ Kept w w') (hout : out.length = 10) (hd : out ≠ bs.take 10)
    (hf : ∀ w, Tabs w → Calls Tryd.prog 27 #[.int .u8 op] w fun e w' => e = .returned (.tuple #[.agg #[.int .u8 op, .string nm, .int .i64 10, .bool false, .bool true, .int .u8 dr], .bool true]) ∧ Kept w w') :
    Calls Tryd.prog 20 #[.slice (some ⟨g0, off, none⟩) n cp] w fun e w' => e = .returned (.tuple #[.agg #[.int .u8 0, .int .u32 0, .int .u16 0, .int .i64 0], .int .i64 4]) ∧ Kept w w' := by
  have hn0 : (0 : Int) < (n : Int) := by omega
  have hn1 : ((n : Int) == 0) = false := by simp; omega
  have hn4 : (4 : Int) < (n : Int) := by omega
  have hnw : (10 : Int) ≤ (n : Int) := by omega
  have hnw2 : (n : Int) ≤ 16 := by omega
  have hcw : (10 : Int) ≤ (cp : Int) := by omega
  have hcn : (n : Int) ≤ (cp : Int) := by omega
  have hb := hB.1
  have hne0 : g0 ≠ w.heap.size := by omega
  have hT3l : (⟨(bs.drop 10).toArray⟩ : ByteArray).size ≤ 100 := by rw [Lib.size_mk, List.length_drop]; omega
  have htk : (bs.take 10).length = 10 := by rw [List.length_take]; omega
  obtain ⟨P, J, C, hs1, hs2, hcv3⟩ := tail_run g0 off n cp 10 10 bs hl hn hcp rfl
  have hcv3 := hide hcv3
  have htr : ∀ w, _ := fun w => trim_q ⟨(bs.drop 10).toArray⟩ w hT3l
  have hl := hide hl
  have hB := hide hB
  go_enter Tryd.func20, Tryd.ntmps20
  go_upto_region 12 with (go_at_call 27; refine (hf _ (by first | exact hT.alloc _ | exact hT)).mono ?_; rintro e w1 ⟨rfl, hk1⟩; obtain ⟨hc1, hf1⟩ := bcell hk1; have hs1 := hk1.size; simp only [World.size_alloc] at hc1 hf1 hs1; have hkw1 : Kept w w1 := ((Below.refl _ w).alloc (Nat.le_refl _) _).trans (hk1.mono (by simp)); have hT1 := hT.kept hkw1; have hlt1 : w.heap.size < w1.heap.size := (by omega); have hne1 : w.heap.size ≠ w1.heap.size := (by omega); have hne2 : w.heap.size ≠ w1.heap.size + 1 := (by omega); have hne3 : g0 ≠ w1.heap.size := (by omega); have hne4 : g0 ≠ w1.heap.size + 1 := (by omega); have hg1 : g0 < w1.heap.size := (by omega))
  refine wp_name (B := w.heap.size) (w0 := w) (by go_grown) (fun W hcW hfW hz hkW => ?_)
  simp only [World.size_alloc] at hz
  have h7 : (7 : Int) ≤ (n : Int) := by omega
  have h9 : (9 : Int) ≤ (cp : Int) := by omega
  have h6 : (6 : Int) ≤ (cp : Int) := by omega
  go_region_with (first
    | (go_at_call 32; (with_reducible refine (h32 _ (by exact hkW.drew) _).mono ?_); rintro e w5 ⟨rfl, rfl⟩)
    | (go_at_call 33; (with_reducible refine (h33 _ (by exact hkW.drew) _).mono ?_); rintro e w5 ⟨rfl, rfl⟩))
  go_wp2_with (go_at_call 11; refine (h11 _ (by exact hT.kept (by go_grown))).mono ?_; rintro e w2 ⟨g1, rfl, hg1, hr1, hk2⟩; obtain ⟨hc2, hf2⟩ := bcell hk2; have hs2' := hk2.size; simp only [World.size_setCell, World.size_drew, hz] at hc2 hf2 hs2' hg1; have hkw2 : Kept w w2 := Below.trans (by go_grown) (hk2.mono (by simp; omega)); have hlt2 : w.heap.size < w2.heap.size := (by omega); have hx := hB; dsimp only)
  have hBW := hB.out.kept hkw2
  have hOW : Bs w2 g1 0 out := Bs.of_heap hr1
  have hkn : ∀ k, Kept w2 (w2.drewN k) := fun k => below_drewN (Below.refl _ _) k
  have q2 : ∀ k, (convert 32 9 (.slice (some ⟨g1, 0, none⟩) 10 10)).run Tryd.prog (w2.drewN k) = .ok (.string ⟨out.toArray⟩) (w2.drewN k) := fun k => (hOW.kept (hkn k)).conv 10 10 hout
  have q3 : ∀ k, (convert 32 9 (.slice (some ⟨g0, off, none⟩) 10 cp)).run Tryd.prog (w2.drewN k) = .ok (.string ⟨(bs.take 10).toArray⟩) (w2.drewN k) := fun k => ((hBW.kept (hkn k)).take 10).conv 10 cp htk
  have q4 : ∀ k, (convert 32 9 (.slice P J C)).run Tryd.prog (w2.drewN k) = .ok (.string ⟨(bs.drop 10).toArray⟩) (w2.drewN k) := fun k => hcv3.out _ (hBW.kept (hkn k))
  have hltA : w1.heap.size < w2.heap.size := by omega
  have hltB : w1.heap.size + 1 < w2.heap.size := by omega
  have hltC : w.heap.size < w1.heap.size + 1 + 1 := by omega
  clear hBW hOW hcv3 hx hB hkn
  have hq : ((⟨out.toArray⟩ : ByteArray).toList == (⟨(bs.take 10).toArray⟩ : ByteArray).toList) = false := by
    simp only [ByteArray.toList_eq, beq_eq_false_iff_ne]
    exact hd
  clear htr hT3l htk hd
  generalize (⟨out.toArray⟩ : ByteArray) = T1 at *
  generalize (⟨(bs.take 10).toArray⟩ : ByteArray) = T2 at *
  generalize (⟨(bs.drop 10).toArray⟩ : ByteArray) = T3 at *
  go_quiet (fail)
  have hkE : Kept w (w2.drewN nq) := below_drewN hkw2 nq
  go_wp2_with fail
  have c0 : w2.cell? ⟨w.heap.size, 0, none⟩ = some (.int .u8 0) := by rw [hc2 _ _ hltC]; simp [go_sem, hc1, hlt1, hne1, hne2, hcW]
  have c1 : w2.cell? ⟨w.heap.size, 1, none⟩ = some (.int .u32 0) := by rw [hc2 _ _ hltC]; simp [go_sem, hc1, hlt1, hne1, hne2, hcW]
  have c2 : w2.cell? ⟨w.heap.size, 2, none⟩ = some (.int .u16 0) := by rw [hc2 _ _ hltC]; simp [go_sem, hc1, hlt1, hne1, hne2, hcW]
  have c3 : w2.cell? ⟨w.heap.size, 3, none⟩ = some (.int .i64 0) := by rw [hc2 _ _ hltC]; simp [go_sem, hc1, hlt1, hne1, hne2, hcW]
  refine bodyPost_ret (v := .tuple #[.agg #[.int .u8 0, .int .u32 0, .int .u16 0, .int .i64 0], .int .i64 4]) (by simp [results, Tryd.results20, go_sem, c0, c1, c2, c3]) rfl ?_
  exact ⟨rfl, by go_grown⟩
set_option maxRecDepth 100000 in
set_option maxHeartbeats 4000000 in
theorem dec_blk_tail (op dr : Int) (nm : ByteArray) (g0 off n cp : Nat) (bs out : List UInt8) (w : World) (hT : Tabs w) (hl : bs.length = n) (hn : 10 ≤ n) (hn16 : n ≤ 16) (hcp : n ≤ cp) (hB : Bs w g0 off bs) (z0 : w.cell? ⟨g0, off, none⟩ = some (.int .u8 op))
    (B4 B2 : Int) (hB40 : 0 ≤ B4) (hB41 : B4 < 4294967296) (hB20 : 0 ≤ B2) (hB21 : B2 < 65536) (h32 : ∀ w', Kept w w' → ∀ c, Calls Tryd.prog 32 #[.slice (some ⟨g0, off + 2, none⟩) 4 c] w' fun e w'' => e = .returned (.int .u32 B4) ∧ w'' = w') (h33 : ∀ w', Kept w w' → ∀ c, Calls Tryd.prog 33 #[.slice (some ⟨g0, off + 7, none⟩) 2 c] w' fun e w'' => e = .returned (.int .u16 B2) ∧ w'' = w') (h11 : ∀ w, Tabs w → Calls Tryd.prog 11 #[.agg #[.int .u8 op, .int .u32 B4, .int .u16 B2, .int .i64 0]] w fun e w' => ∃ g, e = .returned (.tuple #[.slice (some ⟨g, 0, none⟩) 10 10, .int .i64 0]) ∧ w.heap.size ≤ g ∧ w'.heap[g]? = some (.cells (u8C out).toArray 5 (0, 0)) ∧ Kept w w') (hout : out.length = 10) (hd : out = bs.take 10) (htm : Lib.trimB (bs.drop 10) 0 ≠ [])
    (hf : ∀ w, Tabs w → Calls Tryd.prog 27 #[.int .u8 op] w fun e w' => e = .returned (.tuple #[.agg #[.int .u8 op, .string nm, .int .i64 10, .bool false, .bool true, .int .u8 dr], .bool true]) ∧ Kept w w') :
    Calls Tryd.prog 20 #[.slice (some ⟨g0, off, none⟩) n cp] w fun e w' => e = .returned (.tuple #[.agg #[.int .u8 0, .int .u32 0, .int .u16 0, .int .i64 0], .int .i64 4]) ∧ Kept w w' := by
  have hn0 : (0 : Int) < (n : Int) := by omega
  have hn1 : ((n : Int) == 0) = false := by simp; omega
  have hn4 : (4 : Int) < (n : Int) := by omega
  have hnw : (10 : Int) ≤ (n : Int) := by omega
  have hnw2 : (n : Int) ≤ 16 := by omega
  have hcw : (10 : Int) ≤ (cp : Int) := by omega
  have hcn : (n : Int) ≤ (cp : Int) := by omega
  have hb := hB.1
  have hne0 : g0 ≠ w.heap.size := by omega
  have hT3l : (⟨(bs.drop 10).toArray⟩ : ByteArray).size ≤ 100 := by rw [Lib.size_mk, List.length_drop]; omega
  have htk : (bs.take 10).length = 10 := by rw [List.length_take]; omega
  obtain ⟨P, J, C, hs1, hs2, hcv3⟩ := tail_run g0 off n cp 10 10 bs hl hn hcp rfl
  have hcv3 := hide hcv3
  have htr : ∀ w, _ := fun w => trim_q ⟨(bs.drop 10).toArray⟩ w hT3l
  have hl := hide hl
  have hB := hide hB
  go_enter Tryd.func20, Tryd.ntmps20
  go_upto_region 12 with (go_at_call 27; refine (hf _ (by first | exact hT.alloc _ | exact hT)).mono ?_; rintro e w1 ⟨rfl, hk1⟩; obtain ⟨hc1, hf1⟩ := bcell hk1; have hs1 := hk1.size; simp only [World.size_alloc] at hc1 hf1 hs1; have hkw1 : Kept w w1 := ((Below.refl _ w).alloc (Nat.le_refl _) _).trans (hk1.mono (by simp)); have hT1 := hT.kept hkw1; have hlt1 : w.heap.size < w1.heap.size := (by omega); have hne1 : w.heap.size ≠ w1.heap.size := (by omega); have hne2 : w.heap.size ≠ w1.heap.size + 1 := (by omega); have hne3 : g0 ≠ w1.heap.size := (by omega); have hne4 : g0 ≠ w1.heap.size + 1 := (by omega); have hg1 : g0 < w1.heap.size := (by omega))
  refine wp_name (B := w.heap.size) (w0 := w) (by go_grown) (fun W hcW hfW hz hkW => ?_)
  simp only [World.size_alloc] at hz
  have h7 : (7 : Int) ≤ (n : Int) := by omega
  have h9 : (9 : Int) ≤ (cp : Int) := by omega
  have h6 : (6 : Int) ≤ (cp : Int) := by omega
  go_region_with (first
    | (go_at_call 32; (with_reducible refine (h32 _ (by exact hkW.drew) _).mono ?_); rintro e w5 ⟨rfl, rfl⟩)
    | (go_at_call 33; (with_reducible refine (h33 _ (by exact hkW.drew) _).mono ?_); rintro e w5 ⟨rfl, rfl⟩))
  go_wp2_with (go_at_call 11; refine (h11 _ (by exact hT.kept (by go_grown))).mono ?_; rintro e w2 ⟨g1, rfl, hg1, hr1, hk2⟩; obtain ⟨hc2, hf2⟩ := bcell hk2; have hs2' := hk2.size; simp only [World.size_setCell, World.size_drew, hz] at hc2 hf2 hs2' hg1; have hkw2 : Kept w w2 := Below.trans (by go_grown) (hk2.mono (by simp; omega)); have hlt2 : w.heap.size < w2.heap.size := (by omega); have hx := hB; dsimp only)
  have hBW := hB.out.kept hkw2
  have hOW : Bs w2 g1 0 out := Bs.of_heap hr1
  have hkn : ∀ k, Kept w2 (w2.drewN k) := fun k => below_drewN (Below.refl _ _) k
  have q2 : ∀ k, (convert 32 9 (.slice (some ⟨g1, 0, none⟩) 10 10)).run Tryd.prog (w2.drewN k) = .ok (.string ⟨out.toArray⟩) (w2.drewN k) := fun k => (hOW.kept (hkn k)).conv 10 10 hout
  have q3 : ∀ k, (convert 32 9 (.slice (some ⟨g0, off, none⟩) 10 cp)).run Tryd.prog (w2.drewN k) = .ok (.string ⟨(bs.take 10).toArray⟩) (w2.drewN k) := fun k => ((hBW.kept (hkn k)).take 10).conv 10 cp htk
  have q4 : ∀ k, (convert 32 9 (.slice P J C)).run Tryd.prog (w2.drewN k) = .ok (.string ⟨(bs.drop 10).toArray⟩) (w2.drewN k) := fun k => hcv3.out _ (hBW.kept (hkn k))
  have hltA : w1.heap.size < w2.heap.size := by omega
  have hltB : w1.heap.size + 1 < w2.heap.size := by omega
  have hltC : w.heap.size < w1.heap.size + 1 + 1 := by omega
  clear hBW hOW hcv3 hx hB hkn
  subst hd
  have hq := bytes_some (s := ⟨(Lib.trimB (bs.drop 10) 0).toArray⟩) (by rw [Lib.size_mk]; intro h; exact htm (List.eq_nil_of_length_eq_zero h))
  obtain ⟨hq1, hq2⟩ := hq
  clear hT3l htk htm
  generalize (⟨(Lib.trimB (bs.drop 10) 0).toArray⟩ : ByteArray) = Tr at *
  generalize (⟨(bs.take 10).toArray⟩ : ByteArray) = T1 at *
  generalize (⟨(bs.drop 10).toArray⟩ : ByteArray) = T3 at *
  go_quiet ((go_at_call 34; exact Calls.quiet_of (htr _)))
  have hkE : Kept w (w2.drewN nq) := below_drewN hkw2 nq
  go_wp2_with fail
  have c0 : w2.cell? ⟨w.heap.size, 0, none⟩ = some (.int .u8 0) := by rw [hc2 _ _ hltC]; simp [go_sem, hc1, hlt1, hne1, hne2, hcW]
  have c1 : w2.cell? ⟨w.heap.size, 1, none⟩ = some (.int .u32 0) := by rw [hc2 _ _ hltC]; simp [go_sem, hc1, hlt1, hne1, hne2, hcW]
  have c2 : w2.cell? ⟨w.heap.size, 2, none⟩ = some (.int .u16 0) := by rw [hc2 _ _ hltC]; simp [go_sem, hc1, hlt1, hne1, hne2, hcW]
  have c3 : w2.cell? ⟨w.heap.size, 3, none⟩ = some (.int .i64 0) := by rw [hc2 _ _ hltC]; simp [go_sem, hc1, hlt1, hne1, hne2, hcW]
  refine bodyPost_ret (v := .tuple #[.agg #[.int .u8 0, .int .u32 0, .int .u16 0, .int .i64 0], .int .i64 4]) (by simp [results, Tryd.results20, go_sem, c0, c1, c2, c3]) rfl ?_
  exact ⟨rfl, by go_grown⟩
set_option maxRecDepth 100000 in
set_option maxHeartbeats 4000000 in
theorem dec_blk_ok (op dr : Int) (nm : ByteArray) (g0 off n cp : Nat) (bs out : List UInt8) (w : World) (hT : Tabs w) (hl : bs.length = n) (hn : 10 ≤ n) (hn16 : n ≤ 16) (hcp : n ≤ cp) (hB : Bs w g0 off bs) (z0 : w.cell? ⟨g0, off, none⟩ = some (.int .u8 op))
    (B4 B2 : Int) (hB40 : 0 ≤ B4) (hB41 : B4 < 4294967296) (hB20 : 0 ≤ B2) (hB21 : B2 < 65536) (h32 : ∀ w', Kept w w' → ∀ c, Calls Tryd.prog 32 #[.slice (some ⟨g0, off + 2, none⟩) 4 c] w' fun e w'' => e = .returned (.int .u32 B4) ∧ w'' = w') (h33 : ∀ w', Kept w w' → ∀ c, Calls Tryd.prog 33 #[.slice (some ⟨g0, off + 7, none⟩) 2 c] w' fun e w'' => e = .returned (.int .u16 B2) ∧ w'' = w') (h11 : ∀ w, Tabs w → Calls Tryd.prog 11 #[.agg #[.int .u8 op, .int .u32 B4, .int .u16 B2, .int .i64 0]] w fun e w' => ∃ g, e = .returned (.tuple #[.slice (some ⟨g, 0, none⟩) 10 10, .int .i64 0]) ∧ w.heap.size ≤ g ∧ w'.heap[g]? = some (.cells (u8C out).toArray 5 (0, 0)) ∧ Kept w w') (hout : out.length = 10) (hd : out = bs.take 10) (htm : Lib.trimB (bs.drop 10) 0 = [])
    (hf : ∀ w, Tabs w → Calls Tryd.prog 27 #[.int .u8 op] w fun e w' => e = .returned (.tuple #[.agg #[.int .u8 op, .string nm, .int .i64 10, .bool false, .bool true, .int .u8 dr], .bool true]) ∧ Kept w w') :
    Calls Tryd.prog 20 #[.slice (some ⟨g0, off, none⟩) n cp] w fun e w' => e = .returned (.tuple #[.agg #[.int .u8 op, .int .u32 B4, .int .u16 B2, .int .i64 0], .int .i64 0]) ∧ Kept w w' := by
  have hn0 : (0 : Int) < (n : Int) := by omega
  have hn1 : ((n : Int) == 0) = false := by simp; omega
  have hn4 : (4 : Int) < (n : Int) := by omega
  have hnw : (10 : Int) ≤ (n : Int) := by omega
  have hnw2 : (n : Int) ≤ 16 := by omega
  have hcw : (10 : Int) ≤ (cp : Int) := by omega
  have hcn : (n : Int) ≤ (cp : Int) := by omega
  have hb := hB.1
  have hne0 : g0 ≠ w.heap.size := by omega
  have hT3l : (⟨(bs.drop 10).toArray⟩ : ByteArray).size ≤ 100 := by rw [Lib.size_mk, List.length_drop]; omega
  have htk : (bs.take 10).length = 10 := by rw [List.length_take]; omega
  obtain ⟨P, J, C, hs1, hs2, hcv3⟩ := tail_run g0 off n cp 10 10 bs hl hn hcp rfl
  have hcv3 := hide hcv3
  have htr : ∀ w, _ := fun w => trim_q ⟨(bs.drop 10).toArray⟩ w hT3l
  have hl := hide hl
  have hB := hide hB
  go_enter Tryd.func20, Tryd.ntmps20
  go_upto_region 12 with (go_at_call 27; refine (hf _ (by first | exact hT.alloc _ | exact hT)).mono ?_; rintro e w1 ⟨rfl, hk1⟩; obtain ⟨hc1, hf1⟩ := bcell hk1; have hs1 := hk1.size; simp only [World.size_alloc] at hc1 hf1 hs1; have hkw1 : Kept w w1 := ((Below.refl _ w).alloc (Nat.le_refl _) _).trans (hk1.mono (by simp)); have hT1 := hT.kept hkw1; have hlt1 : w.heap.size < w1.heap.size := (by omega); have hne1 : w.heap.size ≠ w1.heap.size := (by omega); have hne2 : w.heap.size ≠ w1.heap.size + 1 := (by omega); have hne3 : g0 ≠ w1.heap.size := (by omega); have hne4 : g0 ≠ w1.heap.size + 1 := (by omega); have hg1 : g0 < w1.heap.size := (by omega))
  refine wp_name (B := w.heap.size) (w0 := w) (by go_grown) (fun W hcW hfW hz hkW => ?_)
  simp only [World.size_alloc] at hz
  have h7 : (7 : Int) ≤ (n : Int) := by omega
  have h9 : (9 : Int) ≤ (cp : Int) := by omega
  have h6 : (6 : Int) ≤ (cp : Int) := by omega
  go_region_with (first
    | (go_at_call 32; (with_reducible refine (h32 _ (by exact hkW.drew) _).mono ?_); rintro e w5 ⟨rfl, rfl⟩)
    | (go_at_call 33; (with_reducible refine (h33 _ (by exact hkW.drew) _).mono ?_); rintro e w5 ⟨rfl, rfl⟩))
  go_wp2_with (go_at_call 11; refine (h11 _ (by exact hT.kept (by go_grown))).mono ?_; rintro e w2 ⟨g1, rfl, hg1, hr1, hk2⟩; obtain ⟨hc2, hf2⟩ := bcell hk2; have hs2' := hk2.size; simp only [World.size_setCell, World.size_drew, hz] at hc2 hf2 hs2' hg1; have hkw2 : Kept w w2 := Below.trans (by go_grown) (hk2.mono (by simp; omega)); have hlt2 : w.heap.size < w2.heap.size := (by omega); have hx := hB; dsimp only)
  have hBW := hB.out.kept hkw2
  have hOW : Bs w2 g1 0 out := Bs.of_heap hr1
  have hkn : ∀ k, Kept w2 (w2.drewN k) := fun k => below_drewN (Below.refl _ _) k
  have q2 : ∀ k, (convert 32 9 (.slice (some ⟨g1, 0, none⟩) 10 10)).run Tryd.prog (w2.drewN k) = .ok (.string ⟨out.toArray⟩) (w2.drewN k) := fun k => (hOW.kept (hkn k)).conv 10 10 hout
  have q3 : ∀ k, (convert 32 9 (.slice (some ⟨g0, off, none⟩) 10 cp)).run Tryd.prog (w2.drewN k) = .ok (.string ⟨(bs.take 10).toArray⟩) (w2.drewN k) := fun k => ((hBW.kept (hkn k)).take 10).conv 10 cp htk
  have q4 : ∀ k, (convert 32 9 (.slice P J C)).run Tryd.prog (w2.drewN k) = .ok (.string ⟨(bs.drop 10).toArray⟩) (w2.drewN k) := fun k => hcv3.out _ (hBW.kept (hkn k))
  have hltA : w1.heap.size < w2.heap.size := by omega
  have hltB : w1.heap.size + 1 < w2.heap.size := by omega
  have hltC : w.heap.size < w1.heap.size + 1 + 1 := by omega
  clear hBW hOW hcv3 hx hB hkn
  subst hd
  rw [htm] at htr
  clear hT3l htk htm
  generalize (⟨(bs.take 10).toArray⟩ : ByteArray) = T1 at *
  generalize (⟨(bs.drop 10).toArray⟩ : ByteArray) = T3 at *
  go_quiet ((go_at_call 34; exact Calls.quiet_of (htr _)))
  have hkE : Kept w (w2.drewN nq) := below_drewN hkw2 nq
  go_wp2_with fail
  have c0 : w2.cell? ⟨w.heap.size, 0, none⟩ = some (.int .u8 0) := by rw [hc2 _ _ hltC]; simp [go_sem, hc1, hlt1, hne1, hne2, hcW]
  have c1 : w2.cell? ⟨w.heap.size, 1, none⟩ = some (.int .u32 0) := by rw [hc2 _ _ hltC]; simp [go_sem, hc1, hlt1, hne1, hne2, hcW]
  have c2 : w2.cell? ⟨w.heap.size, 2, none⟩ = some (.int .u16 0) := by rw [hc2 _ _ hltC]; simp [go_sem, hc1, hlt1, hne1, hne2, hcW]
  have c3 : w2.cell? ⟨w.heap.size, 3, none⟩ = some (.int .i64 0) := by rw [hc2 _ _ hltC]; simp [go_sem, hc1, hlt1, hne1, hne2, hcW]
  refine bodyPost_ret (v := .tuple #[.agg #[.int .u8 op, .int .u32 B4, .int .u16 B2, .int .i64 0], .int .i64 0]) (by simp [results, Tryd.results20, go_sem, c0, c1, c2, c3]) rfl ?_
  exact ⟨rfl, by go_grown⟩
set_option maxRecDepth 100000 in
set_option maxHeartbeats 4000000 in
theorem dec_blk_err (op dr : Int) (nm : ByteArray) (g0 off n cp : Nat) (bs out : List UInt8) (w : World) (hT : Tabs w) (hl : bs.length = n) (hn : 10 ≤ n) (hn16 : n ≤ 16) (hcp : n ≤ cp) (hB : Bs w g0 off bs) (z0 : w.cell? ⟨g0, off, none⟩ = some (.int .u8 op))
    (B4 B2 : Int) (hB40 : 0 ≤ B4) (hB41 : B4 < 4294967296) (hB20 : 0 ≤ B2) (hB21 : B2 < 65536) (h32 : ∀ w', Kept w w' → ∀ c, Calls Tryd.prog 32 #[.slice (some ⟨g0, off + 2, none⟩) 4 c] w' fun e w'' => e = .returned (.int .u32 B4) ∧ w'' = w') (h33 : ∀ w', Kept w w' → ∀ c, Calls Tryd.prog 33 #[.slice (some ⟨g0, off + 7, none⟩) 2 c] w' fun e w'' => e = .returned (.int .u16 B2) ∧ w'' = w') (h11 : ∀ w, Tabs w → Calls Tryd.prog 11 #[.agg #[.int .u8 op, .int .u32 B4, .int .u16 B2, .int .i64 0]] w fun e w' => e = .returned (.tuple #[.slice none 0 0, .int .i64 1]) ∧ Kept w w')
    (hf : ∀ w, Tabs w → Calls Tryd.prog 27 #[.int .u8 op] w fun e w' => e = .returned (.tuple #[.agg #[.int .u8 op, .string nm, .int .i64 10, .bool false, .bool true, .int .u8 dr], .bool true]) ∧ Kept w w') :
    Calls Tryd.prog 20 #[.slice (some ⟨g0, off, none⟩) n cp] w fun e w' => e = .returned (.tuple #[.agg #[.int .u8 0, .int .u32 0, .int .u16 0, .int .i64 0], .int .i64 4]) ∧ Kept w w' := by
  have hn0 : (0 : Int) < (n : Int) := by omega
  have hn1 : ((n : Int) == 0) = false := by simp; omega
  have hn4 : (4 : Int) < (n : Int) := by omega
  have hnw : (10 : Int) ≤ (n : Int) := by omega
  have hnw2 : (n : Int) ≤ 16 := by omega
  have hcw : (10 : Int) ≤ (cp : Int) := by omega
  have hcn : (n : Int) ≤ (cp : Int) := by omega
  have hb := hB.1
  have hne0 : g0 ≠ w.heap.size := by omega
  have hT3l : (⟨(bs.drop 10).toArray⟩ : ByteArray).size ≤ 100 := by rw [Lib.size_mk, List.length_drop]; omega
  have htk : (bs.take 10).length = 10 := by rw [List.length_take]; omega
  obtain ⟨P, J, C, hs1, hs2, hcv3⟩ := tail_run g0 off n cp 10 10 bs hl hn hcp rfl
  have hcv3 := hide hcv3
  have htr : ∀ w, _ := fun w => trim_q ⟨(bs.drop 10).toArray⟩ w hT3l
  have hl := hide hl
  have hB := hide hB
  go_enter Tryd.func20, Tryd.ntmps20
  go_upto_region 12 with (go_at_call 27; refine (hf _ (by first | exact hT.alloc _ | exact hT)).mono ?_; rintro e w1 ⟨rfl, hk1⟩; obtain ⟨hc1, hf1⟩ := bcell hk1; have hs1 := hk1.size; simp only [World.size_alloc] at hc1 hf1 hs1; have hkw1 : Kept w w1 := ((Below.refl _ w).alloc (Nat.le_refl _) _).trans (hk1.mono (by simp)); have hT1 := hT.kept hkw1; have hlt1 : w.heap.size < w1.heap.size := (by omega); have hne1 : w.heap.size ≠ w1.heap.size := (by omega); have hne2 : w.heap.size ≠ w1.heap.size + 1 := (by omega); have hne3 : g0 ≠ w1.heap.size := (by omega); have hne4 : g0 ≠ w1.heap.size + 1 := (by omega); have hg1 : g0 < w1.heap.size := (by omega))
  refine wp_name (B := w.heap.size) (w0 := w) (by go_grown) (fun W hcW hfW hz hkW => ?_)
  simp only [World.size_alloc] at hz
  have h7 : (7 : Int) ≤ (n : Int) := by omega
  have h9 : (9 : Int) ≤ (cp : Int) := by omega
  have h6 : (6 : Int) ≤ (cp : Int) := by omega
  go_region_with (first
    | (go_at_call 32; (with_reducible refine (h32 _ (by exact hkW.drew) _).mono ?_); rintro e w5 ⟨rfl, rfl⟩)
    | (go_at_call 33; (with_reducible refine (h33 _ (by exact hkW.drew) _).mono ?_); rintro e w5 ⟨rfl, rfl⟩))
  go_wp2_with (go_at_call 11; refine (h11 _ (by exact hT.kept (by go_grown))).mono ?_; rintro e w2 ⟨rfl, hk2⟩; obtain ⟨hc2, hf2⟩ := bcell hk2; have hs2' := hk2.size; simp only [World.size_setCell, World.size_drew, hz] at hc2 hf2 hs2'; have hkw2 : Kept w w2 := Below.trans (by go_grown) (hk2.mono (by simp; omega)); have hlt2 : w.heap.size < w2.heap.size := (by omega); dsimp only)
  have hltA : w1.heap.size < w2.heap.size := by omega
  have hltB : w1.heap.size + 1 < w2.heap.size := by omega
  have hltC : w.heap.size < w1.heap.size + 1 + 1 := by omega
  clear hcv3 hB
  go_quiet (fail)
  have hkE : Kept w (w2.drewN nq) := below_drewN hkw2 nq
  go_wp2_with fail
  have c0 : w2.cell? ⟨w.heap.size, 0, none⟩ = some (.int .u8 0) := by rw [hc2 _ _ hltC]; simp [go_sem, hc1, hlt1, hne1, hne2, hcW]
  have c1 : w2.cell? ⟨w.heap.size, 1, none⟩ = some (.int .u32 0) := by rw [hc2 _ _ hltC]; simp [go_sem, hc1, hlt1, hne1, hne2, hcW]
  have c2 : w2.cell? ⟨w.heap.size, 2, none⟩ = some (.int .u16 0) := by rw [hc2 _ _ hltC]; simp [go_sem, hc1, hlt1, hne1, hne2, hcW]
  have c3 : w2.cell? ⟨w.heap.size, 3, none⟩ = some (.int .i64 0) := by rw [hc2 _ _ hltC]; simp [go_sem, hc1, hlt1, hne1, hne2, hcW]
  refine bodyPost_ret (v := .tuple #[.agg #[.int .u8 0, .int .u32 0, .int .u16 0, .int .i64 0], .int .i64 4]) (by simp [results, Tryd.results20, go_sem, c0, c1, c2, c3]) rfl ?_
  exact ⟨rfl, by go_grown⟩
end Go.Proofs.YtfojemocffelhaaDoor
