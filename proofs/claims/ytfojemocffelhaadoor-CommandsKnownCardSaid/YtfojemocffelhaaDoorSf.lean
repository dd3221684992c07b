
/- Moves: by the form of the operation. -/
import Derived.Test.YtfojemocffelhaaDoorChecked
import Derived.Deep.RegionHeld3
import Derived.Deep.DrawnRows
import Derived.Deep.DeepCutAuto
import Derived.Deep.LoopGhost
import Derived.Outline
import Derived.Handy
import Derived.OwnWalk
import Derived.Test.YtfojemocffelhaaDoorSe
set_option linter.unusedVariables false
set_option linter.unusedSimpArgs false
set_option linter.unusedSectionVars false
namespace Go.Proofs.YtfojemocffelhaaDoor
open Go.RowKit
attribute [local go_sem ↓] Go.wp_at_zero Go.wp_at_succ

def dirZ (op : Int) : Int := if op = 3 ∨ op = 18 ∨ op = 37 ∨ op = 40 then 1 else if op = 42 then 2 else 0
def manyZ (op c l size : Int) : Int := if op = 37 then 8 else if op = 40 ∨ op = 42 then c * size else l
/-- what Moves returns: the direction, how many bytes, the error -/
def movesZ (op b c l size : Int) : Int × Int × Int :=
  if properZ op b c l = false ∨ size < 1 ∨ 4096 < size then (0, 0, 1) else if manyZ op c l size = 0 then (0, 0, 0) else (dirZ op, manyZ op c l size, 0)

set_option maxRecDepth 100000 in
set_option maxHeartbeats 2000000 in
theorem moves_bad (op b c l size : Int) (p : Bool) (w : World) (hT : Tabs w) (hbad : p = false ∨ size < 1 ∨ 4096 < size)
    (hp : ∀ w, Tabs w → Calls Tryd.prog 12 #[.agg #[.int .u8 op, .int .u32 b, .int .u16 c, .int .i64 l]] w fun e w' => e = .returned (.bool p) ∧ Kept w w') :
    Calls Tryd.prog 9 #[.agg #[.int .u8 op, .int .u32 b, .int .u16 c, .int .i64 l], .int .i64 size] w fun e w' => e = .returned (.tuple #[.int .u8 0, .int .i64 0, .int .i64 1]) ∧ Kept w w' := by
  cases p
  · clear hbad
    go_enter Tryd.func9, Tryd.ntmps9
    go_wp2_with (first
  | (go_at_call 12; refine (hp _ (hT.alloc _)).mono ?_; rintro e w1 ⟨rfl, hk1⟩; obtain ⟨hc1, hf1⟩ := bcell hk1; have hs1 := hk1.size; simp only [World.size_alloc] at hc1 hf1 hs1; have hkw : Below w.heap.size w w1 := ((Below.refl _ w).alloc (Nat.le_refl _) _).trans (hk1.mono (by simp)); have hlt1 : w.heap.size < w1.heap.size := (by omega); have hne1 : w.heap.size ≠ w1.heap.size := (by omega))
  | (go_at_call 27; refine (hf _ (hT.kept hkw)).mono ?_; rintro e w2 ⟨rfl, hk2⟩; obtain ⟨hc2, hf2⟩ := bcell hk2; have hs2 := hk2.size; have hkw2 : Below w.heap.size w w2 := hkw.trans (hk2.mono (by omega)); have hlt2 : w.heap.size < w2.heap.size := (by omega); have hne2 : w.heap.size ≠ w2.heap.size := (by omega)))
    refine bodyPost_ret (v := .tuple #[.int .u8 0, .int .i64 0, .int .i64 1]) (by simp [results, Tryd.results9, go_sem]) rfl ?_
    exact ⟨rfl, by go_grown⟩
  · by_cases h1 : size < 1
    · clear hbad
      go_enter Tryd.func9, Tryd.ntmps9
      go_wp2_with (first
  | (go_at_call 12; refine (hp _ (hT.alloc _)).mono ?_; rintro e w1 ⟨rfl, hk1⟩; obtain ⟨hc1, hf1⟩ := bcell hk1; have hs1 := hk1.size; simp only [World.size_alloc] at hc1 hf1 hs1; have hkw : Below w.heap.size w w1 := ((Below.refl _ w).alloc (Nat.le_refl _) _).trans (hk1.mono (by simp)); have hlt1 : w.heap.size < w1.heap.size := (by omega); have hne1 : w.heap.size ≠ w1.heap.size := (by omega))
  | (go_at_call 27; refine (hf _ (hT.kept hkw)).mono ?_; rintro e w2 ⟨rfl, hk2⟩; obtain ⟨hc2, hf2⟩ := bcell hk2; have hs2 := hk2.size; have hkw2 : Below w.heap.size w w2 := hkw.trans (hk2.mono (by omega)); have hlt2 : w.heap.size < w2.heap.size := (by omega); have hne2 : w.heap.size ≠ w2.heap.size := (by omega)))
      refine bodyPost_ret (v := .tuple #[.int .u8 0, .int .i64 0, .int .i64 1]) (by simp [results, Tryd.results9, go_sem]) rfl ?_
      exact ⟨rfl, by go_grown⟩
    · have h2 : 4096 < size := by simp at hbad; omega
      clear hbad
      go_enter Tryd.func9, Tryd.ntmps9
      go_wp2_with (first
  | (go_at_call 12; refine (hp _ (hT.alloc _)).mono ?_; rintro e w1 ⟨rfl, hk1⟩; obtain ⟨hc1, hf1⟩ := bcell hk1; have hs1 := hk1.size; simp only [World.size_alloc] at hc1 hf1 hs1; have hkw : Below w.heap.size w w1 := ((Below.refl _ w).alloc (Nat.le_refl _) _).trans (hk1.mono (by simp)); have hlt1 : w.heap.size < w1.heap.size := (by omega); have hne1 : w.heap.size ≠ w1.heap.size := (by omega))
  | (go_at_call 27; refine (hf _ (hT.kept hkw)).mono ?_; rintro e w2 ⟨rfl, hk2⟩; obtain ⟨hc2, hf2⟩ := bcell hk2; have hs2 := hk2.size; have hkw2 : Below w.heap.size w w2 := hkw.trans (hk2.mono (by omega)); have hlt2 : w.heap.size < w2.heap.size := (by omega); have hne2 : w.heap.size ≠ w2.heap.size := (by omega)))
      refine bodyPost_ret (v := .tuple #[.int .u8 0, .int .i64 0, .int .i64 1]) (by simp [results, Tryd.results9, go_sem]) rfl ?_
      exact ⟨rfl, by go_grown⟩
set_option maxRecDepth 100000 in
set_option maxHeartbeats 2000000 in
theorem moves_size (op b c l size wd dr op' : Int) (nm : ByteArray) (le bl ok : Bool) (w : World) (hT : Tabs w) (hs1 : 1 ≤ size) (hs2 : size ≤ 4096) (hop : op = 37)
    (hp : ∀ w, Tabs w → Calls Tryd.prog 12 #[.agg #[.int .u8 op, .int .u32 b, .int .u16 c, .int .i64 l]] w fun e w' => e = .returned (.bool true) ∧ Kept w w')
    (hf : ∀ w, Tabs w → Calls Tryd.prog 27 #[.int .u8 op] w fun e w' => e = .returned (.tuple #[.agg #[.int .u8 op', .string nm, .int .i64 wd, .bool le, .bool bl, .int .u8 dr], .bool ok]) ∧ Kept w w') :
    Calls Tryd.prog 9 #[.agg #[.int .u8 op, .int .u32 b, .int .u16 c, .int .i64 l], .int .i64 size] w fun e w' => e = .returned (.tuple #[.int .u8 (dr), .int .i64 (8), .int .i64 0]) ∧ Kept w w' := by
  subst hop
  go_enter Tryd.func9, Tryd.ntmps9
  go_wp2_with (first
  | (go_at_call 12; refine (hp _ (hT.alloc _)).mono ?_; rintro e w1 ⟨rfl, hk1⟩; obtain ⟨hc1, hf1⟩ := bcell hk1; have hs1 := hk1.size; simp only [World.size_alloc] at hc1 hf1 hs1; have hkw : Below w.heap.size w w1 := ((Below.refl _ w).alloc (Nat.le_refl _) _).trans (hk1.mono (by simp)); have hlt1 : w.heap.size < w1.heap.size := (by omega); have hne1 : w.heap.size ≠ w1.heap.size := (by omega))
  | (go_at_call 27; refine (hf _ (hT.kept hkw)).mono ?_; rintro e w2 ⟨rfl, hk2⟩; obtain ⟨hc2, hf2⟩ := bcell hk2; have hs2 := hk2.size; have hkw2 : Below w.heap.size w w2 := hkw.trans (hk2.mono (by omega)); have hlt2 : w.heap.size < w2.heap.size := (by omega); have hne2 : w.heap.size ≠ w2.heap.size := (by omega)))
  refine bodyPost_ret (v := .tuple #[.int .u8 (dr), .int .i64 (8), .int .i64 0]) (by simp [results, Tryd.results9, go_sem]) rfl ?_
  exact ⟨rfl, by go_grown⟩
set_option maxRecDepth 100000 in
set_option maxHeartbeats 2000000 in
theorem moves_none (op b c l size wd dr op' : Int) (nm : ByteArray) (le bl ok : Bool) (w : World) (hT : Tabs w) (hs1 : 1 ≤ size) (hs2 : size ≤ 4096) (hop : op ≠ 37) (hbl : bl = false) (hl : l = 0)
    (hp : ∀ w, Tabs w → Calls Tryd.prog 12 #[.agg #[.int .u8 op, .int .u32 b, .int .u16 c, .int .i64 l]] w fun e w' => e = .returned (.bool true) ∧ Kept w w')
    (hf : ∀ w, Tabs w → Calls Tryd.prog 27 #[.int .u8 op] w fun e w' => e = .returned (.tuple #[.agg #[.int .u8 op', .string nm, .int .i64 wd, .bool le, .bool bl, .int .u8 dr], .bool ok]) ∧ Kept w w') :
    Calls Tryd.prog 9 #[.agg #[.int .u8 op, .int .u32 b, .int .u16 c, .int .i64 l], .int .i64 size] w fun e w' => e = .returned (.tuple #[.int .u8 (0), .int .i64 (0), .int .i64 0]) ∧ Kept w w' := by
  subst hbl hl
  go_enter Tryd.func9, Tryd.ntmps9
  go_wp2_with (first
  | (go_at_call 12; refine (hp _ (hT.alloc _)).mono ?_; rintro e w1 ⟨rfl, hk1⟩; obtain ⟨hc1, hf1⟩ := bcell hk1; have hs1 := hk1.size; simp only [World.size_alloc] at hc1 hf1 hs1; have hkw : Below w.heap.size w w1 := ((Below.refl _ w).alloc (Nat.le_refl _) _).trans (hk1.mono (by simp)); have hlt1 : w.heap.size < w1.heap.size := (by omega); have hne1 : w.heap.size ≠ w1.heap.size := (by omega))
  | (go_at_call 27; refine (hf _ (hT.kept hkw)).mono ?_; rintro e w2 ⟨rfl, hk2⟩; obtain ⟨hc2, hf2⟩ := bcell hk2; have hs2 := hk2.size; have hkw2 : Below w.heap.size w w2 := hkw.trans (hk2.mono (by omega)); have hlt2 : w.heap.size < w2.heap.size := (by omega); have hne2 : w.heap.size ≠ w2.heap.size := (by omega)))
  refine bodyPost_ret (v := .tuple #[.int .u8 (0), .int .i64 (0), .int .i64 0]) (by simp [results, Tryd.results9, go_sem]) rfl ?_
  exact ⟨rfl, by go_grown⟩
set_option maxRecDepth 100000 in
set_option maxHeartbeats 2000000 in
theorem moves_len (op b c l size wd dr op' : Int) (nm : ByteArray) (le bl ok : Bool) (w : World) (hT : Tabs w) (hs1 : 1 ≤ size) (hs2 : size ≤ 4096) (hop : op ≠ 37) (hbl : bl = false) (hl : l ≠ 0)
    (hp : ∀ w, Tabs w → Calls Tryd.prog 12 #[.agg #[.int .u8 op, .int .u32 b, .int .u16 c, .int .i64 l]] w fun e w' => e = .returned (.bool true) ∧ Kept w w')
    (hf : ∀ w, Tabs w → Calls Tryd.prog 27 #[.int .u8 op] w fun e w' => e = .returned (.tuple #[.agg #[.int .u8 op', .string nm, .int .i64 wd, .bool le, .bool bl, .int .u8 dr], .bool ok]) ∧ Kept w w') :
    Calls Tryd.prog 9 #[.agg #[.int .u8 op, .int .u32 b, .int .u16 c, .int .i64 l], .int .i64 size] w fun e w' => e = .returned (.tuple #[.int .u8 (dr), .int .i64 (l), .int .i64 0]) ∧ Kept w w' := by
  subst hbl
  go_enter Tryd.func9, Tryd.ntmps9
  go_wp2_with (first
  | (go_at_call 12; refine (hp _ (hT.alloc _)).mono ?_; rintro e w1 ⟨rfl, hk1⟩; obtain ⟨hc1, hf1⟩ := bcell hk1; have hs1 := hk1.size; simp only [World.size_alloc] at hc1 hf1 hs1; have hkw : Below w.heap.size w w1 := ((Below.refl _ w).alloc (Nat.le_refl _) _).trans (hk1.mono (by simp)); have hlt1 : w.heap.size < w1.heap.size := (by omega); have hne1 : w.heap.size ≠ w1.heap.size := (by omega))
  | (go_at_call 27; refine (hf _ (hT.kept hkw)).mono ?_; rintro e w2 ⟨rfl, hk2⟩; obtain ⟨hc2, hf2⟩ := bcell hk2; have hs2 := hk2.size; have hkw2 : Below w.heap.size w w2 := hkw.trans (hk2.mono (by omega)); have hlt2 : w.heap.size < w2.heap.size := (by omega); have hne2 : w.heap.size ≠ w2.heap.size := (by omega)))
  refine bodyPost_ret (v := .tuple #[.int .u8 (dr), .int .i64 (l), .int .i64 0]) (by simp [results, Tryd.results9, go_sem]) rfl ?_
  exact ⟨rfl, by go_grown⟩
set_option maxRecDepth 100000 in
set_option maxHeartbeats 2000000 in
theorem moves_still (op b c l size wd dr op' : Int) (nm : ByteArray) (le bl ok : Bool) (w : World) (hT : Tabs w) (hs1 : 1 ≤ size) (hs2 : size ≤ 4096) (hop : op ≠ 37) (hbl : bl = true) (hdr : dr = 0) (hl : l = 0)
    (hp : ∀ w, Tabs w → Calls Tryd.prog 12 #[.agg #[.int .u8 op, .int .u32 b, .int .u16 c, .int .i64 l]] w fun e w' => e = .returned (.bool true) ∧ Kept w w')
    (hf : ∀ w, Tabs w → Calls Tryd.prog 27 #[.int .u8 op] w fun e w' => e = .returned (.tuple #[.agg #[.int .u8 op', .string nm, .int .i64 wd, .bool le, .bool bl, .int .u8 dr], .bool ok]) ∧ Kept w w') :
    Calls Tryd.prog 9 #[.agg #[.int .u8 op, .int .u32 b, .int .u16 c, .int .i64 l], .int .i64 size] w fun e w' => e = .returned (.tuple #[.int .u8 (0), .int .i64 (0), .int .i64 0]) ∧ Kept w w' := by
  subst hbl hdr hl
  go_enter Tryd.func9, Tryd.ntmps9
  go_wp2_with (first
  | (go_at_call 12; refine (hp _ (hT.alloc _)).mono ?_; rintro e w1 ⟨rfl, hk1⟩; obtain ⟨hc1, hf1⟩ := bcell hk1; have hs1 := hk1.size; simp only [World.size_alloc] at hc1 hf1 hs1; have hkw : Below w.heap.size w w1 := ((Below.refl _ w).alloc (Nat.le_refl _) _).trans (hk1.mono (by simp)); have hlt1 : w.heap.size < w1.heap.size := (by omega); have hne1 : w.heap.size ≠ w1.heap.size := (by omega))
  | (go_at_call 27; refine (hf _ (hT.kept hkw)).mono ?_; rintro e w2 ⟨rfl, hk2⟩; obtain ⟨hc2, hf2⟩ := bcell hk2; have hs2 := hk2.size; have hkw2 : Below w.heap.size w w2 := hkw.trans (hk2.mono (by omega)); have hlt2 : w.heap.size < w2.heap.size := (by omega); have hne2 : w.heap.size ≠ w2.heap.size := (by omega)))
  refine bodyPost_ret (v := .tuple #[.int .u8 (0), .int .i64 (0), .int .i64 0]) (by simp [results, Tryd.results9, go_sem]) rfl ?_
  exact ⟨rfl, by go_grown⟩
set_option maxRecDepth 100000 in
set_option maxHeartbeats 2000000 in
theorem moves_zero (op b c l size wd dr op' : Int) (nm : ByteArray) (le bl ok : Bool) (w : World) (hT : Tabs w) (hs1 : 1 ≤ size) (hs2 : size ≤ 4096) (hop : op ≠ 37) (hbl : bl = true) (hdr : dr ≠ 0) (hcs : c = 0)
    (hp : ∀ w, Tabs w → Calls Tryd.prog 12 #[.agg #[.int .u8 op, .int .u32 b, .int .u16 c, .int .i64 l]] w fun e w' => e = .returned (.bool true) ∧ Kept w w')
    (hf : ∀ w, Tabs w → Calls Tryd.prog 27 #[.int .u8 op] w fun e w' => e = .returned (.tuple #[.agg #[.int .u8 op', .string nm, .int .i64 wd, .bool le, .bool bl, .int .u8 dr], .bool ok]) ∧ Kept w w') :
    Calls Tryd.prog 9 #[.agg #[.int .u8 op, .int .u32 b, .int .u16 c, .int .i64 l], .int .i64 size] w fun e w' => e = .returned (.tuple #[.int .u8 (0), .int .i64 (0), .int .i64 0]) ∧ Kept w w' := by
  subst hbl hcs
  go_enter Tryd.func9, Tryd.ntmps9
  go_wp2_with (first
  | (go_at_call 12; refine (hp _ (hT.alloc _)).mono ?_; rintro e w1 ⟨rfl, hk1⟩; obtain ⟨hc1, hf1⟩ := bcell hk1; have hs1 := hk1.size; simp only [World.size_alloc] at hc1 hf1 hs1; have hkw : Below w.heap.size w w1 := ((Below.refl _ w).alloc (Nat.le_refl _) _).trans (hk1.mono (by simp)); have hlt1 : w.heap.size < w1.heap.size := (by omega); have hne1 : w.heap.size ≠ w1.heap.size := (by omega))
  | (go_at_call 27; refine (hf _ (hT.kept hkw)).mono ?_; rintro e w2 ⟨rfl, hk2⟩; obtain ⟨hc2, hf2⟩ := bcell hk2; have hs2 := hk2.size; have hkw2 : Below w.heap.size w w2 := hkw.trans (hk2.mono (by omega)); have hlt2 : w.heap.size < w2.heap.size := (by omega); have hne2 : w.heap.size ≠ w2.heap.size := (by omega)))
  refine bodyPost_ret (v := .tuple #[.int .u8 (0), .int .i64 (0), .int .i64 0]) (by simp [results, Tryd.results9, go_sem]) rfl ?_
  exact ⟨rfl, by go_grown⟩
set_option maxRecDepth 100000 in
set_option maxHeartbeats 2000000 in
theorem moves_many (op b c l size wd dr op' : Int) (nm : ByteArray) (le bl ok : Bool) (w : World) (hT : Tabs w) (hs1 : 1 ≤ size) (hs2 : size ≤ 4096) (hop : op ≠ 37) (hbl : bl = true) (hdr : dr ≠ 0) (hm0 : 1 ≤ c * size) (hm1 : c * size ≤ 268431360) (hc0 : 0 ≤ c) (hc1 : c ≤ 65535)
    (hp : ∀ w, Tabs w → Calls Tryd.prog 12 #[.agg #[.int .u8 op, .int .u32 b, .int .u16 c, .int .i64 l]] w fun e w' => e = .returned (.bool true) ∧ Kept w w')
    (hf : ∀ w, Tabs w → Calls Tryd.prog 27 #[.int .u8 op] w fun e w' => e = .returned (.tuple #[.agg #[.int .u8 op', .string nm, .int .i64 wd, .bool le, .bool bl, .int .u8 dr], .bool ok]) ∧ Kept w w') :
    Calls Tryd.prog 9 #[.agg #[.int .u8 op, .int .u32 b, .int .u16 c, .int .i64 l], .int .i64 size] w fun e w' => e = .returned (.tuple #[.int .u8 (dr), .int .i64 (c * size), .int .i64 0]) ∧ Kept w w' := by
  subst hbl
  go_enter Tryd.func9, Tryd.ntmps9
  go_wp2_with (first
  | (go_at_call 12; refine (hp _ (hT.alloc _)).mono ?_; rintro e w1 ⟨rfl, hk1⟩; obtain ⟨hc1, hf1⟩ := bcell hk1; have hs1 := hk1.size; simp only [World.size_alloc] at hc1 hf1 hs1; have hkw : Below w.heap.size w w1 := ((Below.refl _ w).alloc (Nat.le_refl _) _).trans (hk1.mono (by simp)); have hlt1 : w.heap.size < w1.heap.size := (by omega); have hne1 : w.heap.size ≠ w1.heap.size := (by omega))
  | (go_at_call 27; refine (hf _ (hT.kept hkw)).mono ?_; rintro e w2 ⟨rfl, hk2⟩; obtain ⟨hc2, hf2⟩ := bcell hk2; have hs2 := hk2.size; have hkw2 : Below w.heap.size w w2 := hkw.trans (hk2.mono (by omega)); have hlt2 : w.heap.size < w2.heap.size := (by omega); have hne2 : w.heap.size ≠ w2.heap.size := (by omega)))
  refine bodyPost_ret (v := .tuple #[.int .u8 (dr), .int .i64 (c * size), .int .i64 0]) (by simp [results, Tryd.results9, go_sem]) rfl ?_
  exact ⟨rfl, by go_grown⟩
theorem moves_any (op b c l size : Int) (w : World) (hT : Tabs w) (hb0 : 0 ≤ b) (hb : b < 4294967296) (hc0 : 0 ≤ c) (hc : c < 65536) :
    Calls Tryd.prog 9 #[.agg #[.int .u8 op, .int .u32 b, .int .u16 c, .int .i64 l], .int .i64 size] w fun e w' => e = .returned (.tuple #[.int .u8 (movesZ op b c l size).1, .int .i64 (movesZ op b c l size).2.1, .int .i64 (movesZ op b c l size).2.2]) ∧ Kept w w' := by
  have hp : ∀ w, Tabs w → _ := fun w hT => proper_any op b c l w hT hb0 hb hc0 hc
  by_cases hbad : properZ op b c l = false ∨ size < 1 ∨ 4096 < size
  · have h := moves_bad op b c l size _ w hT hbad hp
    rw [show movesZ op b c l size = (0, 0, 1) by unfold movesZ; rw [if_pos hbad]]
    exact h
  · have hP : properZ op b c l = true := by
      cases h : properZ op b c l with
      | true => rfl
      | false => exact absurd (Or.inl h) hbad
    have hs1 : 1 ≤ size := by omega
    have hs2 : size ≤ 4096 := by omega
    have hm : ∀ m, m = manyZ op c l size → movesZ op b c l size = if m = 0 then (0, 0, 0) else (dirZ op, m, 0) := fun m h => by unfold movesZ; rw [if_neg hbad, h]
    have hcs0 : 0 ≤ c * size := Int.mul_nonneg hc0 (by omega)
    have hcs1 : c * size ≤ 268431360 := Int.le_trans (Int.mul_le_mul (show c ≤ 65535 by omega) hs2 (by omega) (by omega)) (by omega)
    have hcs2 : c ≠ 0 → 1 ≤ c * size := fun h => Int.le_trans (show 1 ≤ 1 * size by omega) (Int.mul_le_mul_of_nonneg_right (by omega) (by omega))
    rw [hP] at hp
    clear hbad
    rcases op_cases op with rfl | rfl | rfl | rfl | rfl | rfl | rfl | h
    · have hl : l = 0 := by simp [properZ] at hP; omega
      rw [hm 0 (by simp [manyZ, hl])]
      exact moves_none 0 b c l size _ _ _ _ _ _ _ w hT hs1 hs2 (by omega) rfl hl hp find_0
    · by_cases hl : l = 0
      · rw [hm 0 (by simp [manyZ, hl])]
        exact moves_none 3 b c l size _ _ _ _ _ _ _ w hT hs1 hs2 (by omega) rfl hl hp find_3
      · rw [hm l (by simp [manyZ]), if_neg hl]
        exact moves_len 3 b c l size _ _ _ _ _ _ _ w hT hs1 hs2 (by omega) rfl hl hp find_3
    · by_cases hl : l = 0
      · rw [hm 0 (by simp [manyZ, hl])]
        exact moves_none 18 b c l size _ _ _ _ _ _ _ w hT hs1 hs2 (by omega) rfl hl hp find_18
      · rw [hm l (by simp [manyZ]), if_neg hl]
        exact moves_len 18 b c l size _ _ _ _ _ _ _ w hT hs1 hs2 (by omega) rfl hl hp find_18
    · rw [hm 8 (by simp [manyZ])]
      exact moves_size 37 b c l size _ _ _ _ _ _ _ w hT hs1 hs2 rfl hp find_37
    · by_cases hc9 : c = 0
      · rw [hm 0 (by simp [manyZ, hc9])]
        exact moves_zero 40 b c l size _ _ _ _ _ _ _ w hT hs1 hs2 (by omega) rfl (by omega) hc9 hp find_40
      · have := hcs2 hc9
        rw [hm (c * size) (by simp [manyZ]), if_neg (by omega)]
        exact moves_many 40 b c l size _ 1 _ _ _ _ _ w hT hs1 hs2 (by omega) rfl (by omega) this hcs1 hc0 (by omega) hp find_40
    · by_cases hc9 : c = 0
      · rw [hm 0 (by simp [manyZ, hc9])]
        exact moves_zero 42 b c l size _ _ _ _ _ _ _ w hT hs1 hs2 (by omega) rfl (by omega) hc9 hp find_42
      · have := hcs2 hc9
        rw [hm (c * size) (by simp [manyZ]), if_neg (by omega)]
        exact moves_many 42 b c l size _ 2 _ _ _ _ _ w hT hs1 hs2 (by omega) rfl (by omega) this hcs1 hc0 (by omega) hp find_42
    · have hl : l = 0 := by simp [properZ] at hP; omega
      rw [hm 0 (by simp [manyZ, hl])]
      exact moves_still 53 b c l size _ _ _ _ _ _ _ w hT hs1 hs2 (by omega) rfl rfl hl hp find_53
    · have h' := properZ_none op h
      simp [properZ, h'] at hP
end Go.Proofs.YtfojemocffelhaaDoor
