/- The definition of Parse: memory and frame. -/
import Derived.Test.YtegdigfcgeoboaaChecked
import Derived.Deep.RegionHeld3
import Derived.Deep.DrawnRows
import Derived.Deep.DeepCutAuto
import Derived.Deep.LoopGhost
import Derived.Outline
import Derived.Handy
import Derived.OwnWalk
import Derived.Test.YtegdigfcgeoboaaN12
import Derived.Test.YtegdigfcgeoboaaQdK
import Derived.Test.YtegdigfcgeoboaaN2
set_option linter.unusedVariables false
set_option linter.unusedSimpArgs false
set_option linter.unusedSectionVars false
/- The definition of Parse in memory: its map, its state, the slices that it owns. No condition. -/
namespace Go.Proofs.Ytegdigfcgeoboaa
open Go.RowKit Go.Maps

def Gl.cellsM (g : Gl) : List Value := [.int .i64 g.page, .int .i64 g.lo, .int .i64 g.hi, .int .i64 g.size, .int .i64 g.count, .int .i64 g.report]
def glM : Ty Gl := Ty.flat 6 Gl.cellsM (fun _ => True) (fun _ => rfl)
theorem flat_glM : Flat glM := fun {w w' F F' x cs} h => h
def Fd.cellsC (f : Fd) (A : Option Addr) (c : Nat) : List Value := [.int .u8 f.kind, .int .u8 f.report, .int .i64 f.parent, .slice A f.usages.length c, .int .i64 f.lo, .int .i64 f.hi, .int .i64 f.size, .int .i64 f.count, .int .i64 f.pos, .bool f.const, .bool f.array, .bool f.signed, .bool f.rel]
/-- a field whose usages may have room -/
def fdM : Ty Fd :=
  ⟨13, fun w F f cs => ∃ A c, cs = f.cellsC A c ∧ f.usages.length ≤ c ∧ c ≤ maxLen ∧ Sl u32T w F A f.usages.length f.usages,
   fun {_ _ _ _} ⟨_, _, e, _⟩ => by rw [e]; rfl,
   fun {_ _ _ _ _ _} ⟨A, c, e, h1, h2, h⟩ hB hk => ⟨A, c, e, h1, h2, h.keep hB hk⟩⟩
/-- the blocks that the definition writes -/
def BusyM (M S : Nat) (vs vu vf vc : Value) : Nat → Prop := fun b => b ≠ M ∧ b ≠ S ∧ vs.ownBlock ≠ some b ∧ vu.ownBlock ≠ some b ∧ vf.ownBlock ≠ some b ∧ vc.ownBlock ≠ some b
def mC (s : RS) (vf vc : Value) : Array Value := #[vf, vc, .bool s.numbered]
def sC (s : RS) : Array Value := #[.int .i64 s.g.page, .int .i64 s.g.lo, .int .i64 s.g.hi, .int .i64 s.g.size, .int .i64 s.g.count, .int .i64 s.g.report]
structure Md (w : World) (base M S : Nat) (vs vu vf vc : Value) (s : RS) : Prop where
  bm : w.heap[M]? = some (.cells (mC s vf vc) 40 (0, 0))
  bs : w.heap[S]? = some (.cells (sC s) 78 (0, 0))
  st : Own glM 78 base w vs s.stack.length s.stack
  us : Own u32T 27 base w vu s.usages.length s.usages
  fs : Own (fdM.on (BusyM M S vs vu vf vc)) 59 base w vf s.fields.length s.fields
  cs : Own coT 68 base w vc s.colls.length s.colls
  low : M < base ∧ S < base ∧ M ≠ S
/-- all below a base is as it was, but the map and the state -/
structure FrM (base M S : Nat) (w w' : World) : Prop where
  os : w'.os = w.os
  tape : w'.tape = w.tape
  output : w'.output = w.output
  size : w.heap.size ≤ w'.heap.size
  block : ∀ k, k < base → k ≠ M → k ≠ S → w'.heap[k]? = w.heap[k]?
section
variable {base M S : Nat} {w w' w'' : World}
theorem FrM.refl : FrM base M S w w := ⟨rfl, rfl, rfl, Nat.le_refl _, fun _ _ _ _ => rfl⟩
theorem FrM.trans (h : FrM base M S w w') (k : FrM base M S w' w'') : FrM base M S w w'' := ⟨k.os.trans h.os, k.tape.trans h.tape, k.output.trans h.output, Nat.le_trans h.size k.size, fun i h1 h2 h3 => (k.block i h1 h2 h3).trans (h.block i h1 h2 h3)⟩
theorem FrM.kept (h : Kept w w') (hb : base ≤ w.heap.size) : FrM base M S w w' := ⟨h.os, h.tape, h.output, h.size, fun k h1 _ _ => h.block k (by omega)⟩
theorem FrM.below (h : Below base w w') : FrM base M S w w' := ⟨h.os, h.tape, h.output, h.size, fun k h1 _ _ => h.block k h1⟩
theorem FrM.setM (i : Nat) (u : Value) : FrM base M S w (w.setCell ⟨M, i, none⟩ u) := ⟨rfl, rfl, rfl, by rw [World.size_setCell]; exact Nat.le_refl _, fun k _ h2 _ => Below.heap_setCell _ _ _ k h2⟩
theorem FrM.setS (i : Nat) (u : Value) : FrM base M S w (w.setCell ⟨S, i, none⟩ u) := ⟨rfl, rfl, rfl, by rw [World.size_setCell]; exact Nat.le_refl _, fun k _ _ h2 => Below.heap_setCell _ _ _ k h2⟩
end
section
variable {w w' : World} {base M S : Nat} {vs vu vf vc v' : Value} {s s' : RS}
theorem Md.kept (h : Md w base M S vs vu vf vc s) (hk : Kept w w') : Md w' base M S vs vu vf vc s :=
  ⟨heap_kept hk h.bm, heap_kept hk h.bs, h.st.kept hk, h.us.kept hk, h.fs.kept hk, h.cs.kept hk, h.low⟩
/-- the state's cells are set -/
theorem Md.setS (h : Md w base M S vs vu vf vc s) (i : Nat) (u : Value) (hc : (sC s).setIfInBounds i u = sC s') (h1 : s'.stack = s.stack) (h2 : s'.usages = s.usages) (h3 : s'.fields = s.fields) (h4 : s'.colls = s.colls) (h5 : s'.numbered = s.numbered) : Md (w.setCell ⟨S, i, none⟩ u) base M S vs vu vf vc s' := by
  obtain ⟨l1, l2, l3⟩ := h.low
  have hg : w.grownBy (w.setCell ⟨S, i, none⟩ u) (some S) := grown_at grown_self i u
  refine ⟨?_, by rw [← hc]; exact heap_store h.bs u, by rw [h1]; exact h.st.grownF flat_glM hg (h.st.above l2), by rw [h2]; exact h.us.grownF flat_u32 hg (h.us.above l2), ?_, by rw [h4]; exact h.cs.grownF flat_co hg (h.cs.above l2), h.low⟩
  · rw [show mC s' vf vc = mC s vf vc by unfold mC; rw [h5]]
    exact heap_grown hg h.bm (fun e => l3 (by injection e))
  · rw [h3]
    exact h.fs.grownX hg (fun b e hx => by injection e with e; exact hx.2.1 e) (h.fs.above l2)
/-- the map's cells are set -/
theorem Md.setM (h : Md w base M S vs vu vf vc s) (i : Nat) (u : Value) (hc : (mC s vf vc).setIfInBounds i u = mC s' vf vc) (h0 : s'.g = s.g) (h1 : s'.stack = s.stack) (h2 : s'.usages = s.usages) (h3 : s'.fields = s.fields) (h4 : s'.colls = s.colls) : Md (w.setCell ⟨M, i, none⟩ u) base M S vs vu vf vc s' := by
  obtain ⟨l1, l2, l3⟩ := h.low
  have hg : w.grownBy (w.setCell ⟨M, i, none⟩ u) (some M) := grown_at grown_self i u
  refine ⟨by rw [← hc]; exact heap_store h.bm u, ?_, by rw [h1]; exact h.st.grownF flat_glM hg (h.st.above l1), by rw [h2]; exact h.us.grownF flat_u32 hg (h.us.above l1), ?_, by rw [h4]; exact h.cs.grownF flat_co hg (h.cs.above l1), h.low⟩
  · rw [show sC s' = sC s by unfold sC; rw [h0]]
    exact heap_grown hg h.bs (fun e => l3 (by injection e with e; exact e.symm))
  · rw [h3]
    exact h.fs.grownX hg (fun b e hx => by injection e with e; exact hx.1 e) (h.fs.above l1)
/-- what no cell holds may change -/
theorem Md.same (h : Md w base M S vs vu vf vc s) (h0 : s'.g = s.g) (h1 : s'.stack = s.stack) (h2 : s'.usages = s.usages) (h3 : s'.fields = s.fields) (h4 : s'.colls = s.colls) (h5 : s'.numbered = s.numbered) : Md w base M S vs vu vf vc s' := by
  refine ⟨?_, ?_, by rw [h1]; exact h.st, by rw [h2]; exact h.us, by rw [h3]; exact h.fs, by rw [h4]; exact h.cs, h.low⟩
  · rw [show mC s' vf vc = mC s vf vc by unfold mC; rw [h5]]; exact h.bm
  · rw [show sC s' = sC s by unfold sC; rw [h0]]; exact h.bs
theorem own_new {v v' : Value} {b n : Nat} (hat : v'.ownBlock = none ∨ v'.ownBlock = v.ownBlock ∨ v'.ownBlock = some n) (hb : b < n) (hv : v.ownBlock ≠ some b) : v'.ownBlock ≠ some b := by
  rcases hat with e | e | e
  · rw [e]; intro e2; cases e2
  · rw [e]; exact hv
  · rw [e]; intro e2; injection e2 with e2; omega
/-- the stack has another value -/
theorem Md.stTo (h : Md w base M S vs vu vf vc s) {l : List Gl} (hg : w.grownBy w' vs.ownBlock) (ho : Own glM 78 base w' v' l.length l) (hat : v'.ownBlock = none ∨ v'.ownBlock = vs.ownBlock ∨ v'.ownBlock = some w.heap.size) :
    Md w' base M S v' vu vf vc { s with stack := l } := by
  obtain ⟨l1, l2, l3⟩ := h.low
  have hX : ∀ b, b < w.heap.size → BusyM M S vs vu vf vc b → BusyM M S v' vu vf vc b := fun b hb ⟨b1, b2, b3, b4, b5, b6⟩ => ⟨b1, b2, own_new hat hb b3, b4, b5, b6⟩
  exact ⟨heap_grown hg h.bm (fun e => h.st.not_at l1 e.symm), heap_grown hg h.bs (fun e => h.st.not_at l2 e.symm), ho, h.us.grownF flat_u32 hg (rows_apart h.us h.st (by decide)), h.fs.step hg (fun b e hx => hx.2.2.1 e.symm) (rows_apart h.fs h.st (by decide)) hX, h.cs.grownF flat_co hg (rows_apart h.cs h.st (by decide)), h.low⟩
/-- the usages have another value -/
theorem Md.usTo (h : Md w base M S vs vu vf vc s) {l : List Int} (hg : w.grownBy w' vu.ownBlock) (ho : Own u32T 27 base w' v' l.length l) (hat : v'.ownBlock = none ∨ v'.ownBlock = vu.ownBlock ∨ v'.ownBlock = some w.heap.size) :
    Md w' base M S vs v' vf vc { s with usages := l } := by
  obtain ⟨l1, l2, l3⟩ := h.low
  have hX : ∀ b, b < w.heap.size → BusyM M S vs vu vf vc b → BusyM M S vs v' vf vc b := fun b hb ⟨b1, b2, b3, b4, b5, b6⟩ => ⟨b1, b2, b3, own_new hat hb b4, b5, b6⟩
  exact ⟨heap_grown hg h.bm (fun e => h.us.not_at l1 e.symm), heap_grown hg h.bs (fun e => h.us.not_at l2 e.symm), h.st.grownF flat_glM hg (rows_apart h.st h.us (by decide)), ho, h.fs.step hg (fun b e hx => hx.2.2.2.1 e.symm) (rows_apart h.fs h.us (by decide)) hX, h.cs.grownF flat_co hg (rows_apart h.cs h.us (by decide)), h.low⟩
/-- the collections have another value, which is stored -/
theorem Md.csTo (h : Md w base M S vs vu vf vc s) {l : List Co} (hg : w.grownBy w' vc.ownBlock) (ho : Own coT 68 base w' v' l.length l) (hat : v'.ownBlock = none ∨ v'.ownBlock = vc.ownBlock ∨ v'.ownBlock = some w.heap.size) :
    Md (w'.setCell ⟨M, 1, none⟩ v') base M S vs vu vf v' { s with colls := l } := by
  obtain ⟨l1, l2, l3⟩ := h.low
  have hX : ∀ b, b < w.heap.size → BusyM M S vs vu vf vc b → BusyM M S vs vu vf v' b := fun b hb ⟨b1, b2, b3, b4, b5, b6⟩ => ⟨b1, b2, b3, b4, b5, own_new hat hb b6⟩
  have hg2 : w'.grownBy (w'.setCell ⟨M, 1, none⟩ v') (some M) := grown_at grown_self 1 v'
  have hbm : w'.heap[M]? = some (.cells (mC s vf vc) 40 (0, 0)) := heap_grown hg h.bm (fun e => h.cs.not_at l1 e.symm)
  have hfs := h.fs.step hg (X' := BusyM M S vs vu vf v') (fun b e hx => hx.2.2.2.2.2 e.symm) (rows_apart h.fs h.cs (by decide)) hX
  exact ⟨heap_store hbm v', heap_grown hg2 (heap_grown hg h.bs (fun e => h.cs.not_at l2 e.symm)) (fun e => l3 (by injection e with e; exact e.symm)), (h.st.grownF flat_glM hg (rows_apart h.st h.cs (by decide))).grownF flat_glM hg2 (h.st.above l1), (h.us.grownF flat_u32 hg (rows_apart h.us h.cs (by decide))).grownF flat_u32 hg2 (h.us.above l1), hfs.grownX hg2 (fun b e hx => by injection e with e; exact hx.1 e) (h.fs.above l1), ho.grownF flat_co hg2 (ho.above l1), h.low⟩
/-- the fields have another value, which is stored -/
theorem Md.fsTo (h : Md w base M S vs vu vf vc s) {l : List Fd} (hg : w.grownBy w' vf.ownBlock) (ho : Own (fdM.on (fun b => BusyM M S vs vu vf vc b ∧ b < w.heap.size)) 59 base w' v' l.length l) (hat : v'.ownBlock = none ∨ v'.ownBlock = vf.ownBlock ∨ v'.ownBlock = some w.heap.size) :
    Md (w'.setCell ⟨M, 0, none⟩ v') base M S vs vu v' vc { s with fields := l } := by
  obtain ⟨l1, l2, l3⟩ := h.low
  have hX : ∀ b, BusyM M S vs vu vf vc b ∧ b < w.heap.size → BusyM M S vs vu v' vc b := fun b ⟨⟨b1, b2, b3, b4, b5, b6⟩, hb⟩ => ⟨b1, b2, b3, b4, own_new hat hb b5, b6⟩
  have hg2 : w'.grownBy (w'.setCell ⟨M, 0, none⟩ v') (some M) := grown_at grown_self 0 v'
  have hbm : w'.heap[M]? = some (.cells (mC s vf vc) 40 (0, 0)) := heap_grown hg h.bm (fun e => h.fs.not_at l1 e.symm)
  have hfs := ho.widen (X' := BusyM M S vs vu v' vc) (fun b _ h => hX b h)
  exact ⟨heap_store hbm v', heap_grown hg2 (heap_grown hg h.bs (fun e => h.fs.not_at l2 e.symm)) (fun e => l3 (by injection e with e; exact e.symm)), (h.st.grownF flat_glM hg (rows_apart h.st h.fs (by decide))).grownF flat_glM hg2 (h.st.above l1), (h.us.grownF flat_u32 hg (rows_apart h.us h.fs (by decide))).grownF flat_u32 hg2 (h.us.above l1), hfs.grownX hg2 (fun b e hx => by injection e with e; exact hx.1 e) (ho.above l1), (h.cs.grownF flat_co hg (rows_apart h.cs h.fs (by decide))).grownF flat_co hg2 (h.cs.above l1), h.low⟩
end
end Go.Proofs.Ytegdigfcgeoboaa
/- The definition of Parse: its frame. Printed by gen_m.py. -/
namespace Go.Proofs.Ytegdigfcgeoboaa
open Go.RowKit Go.Maps

theorem list_fn (l : List Value) (n : Nat) (h : l.length = n) : ∃ f : Nat → Value, (∀ i, i < n → l[i]? = some (f i)) ∧ l = (List.range n).map f := by
  refine ⟨fun i => (l[i]?).getD (.bool false), fun i hi => ?_, ?_⟩
  · have hl : i < l.length := by omega
    show l[i]? = some ((l[i]?).getD (.bool false))
    rw [List.getElem?_eq_getElem hl]; rfl
  apply List.ext_getElem?
  intro i
  rw [List.getElem?_map]
  by_cases hi : i < n
  · rw [List.getElem?_range hi]
    have hl : i < l.length := by omega
    simp [hl]
  · rw [List.getElem?_eq_none (by omega), List.getElem?_eq_none (by simp; omega)]; rfl
/-- the code from a region on, wherever it stands -/
def findR (k : Nat) : Code → Option Code
  | .seq a c => match a with
    | .region i o b => if i = k then some (.seq (.region i o b) c) else findR k c
    | a => (findR k a).orElse fun _ => findR k c
  | .block _ c => findR k c
  | .scope c => findR k c
  | .loop c => findR k c
  | .cond _ c e => (findR k c).orElse fun _ => findR k e
  | .region i o b => if i = k then some (.region i o b) else none
  | _ => none
def elseC : Code → Code
  | .cond _ _ e => e
  | c => c
set_option maxRecDepth 100000 in
theorem frame_loop {a : Act} {v0 v2 v4 v5 v6 v7 v8 v9 v10 : Value} (hs : a.tmps.size = 446) (hm : a.defers = []) (h0 : a.tmps[0]? = some v0) (h2 : a.tmps[2]? = some v2) (h4 : a.tmps[4]? = some v4) (h5 : a.tmps[5]? = some v5) (h6 : a.tmps[6]? = some v6) (h7 : a.tmps[7]? = some v7) (h8 : a.tmps[8]? = some v8) (h9 : a.tmps[9]? = some v9) (h10 : a.tmps[10]? = some v10) : ∃ us : Nat → Value, a = ⟨#[v0, us 1, v2, us 3, v4, v5, v6, v7, v8, v9, v10, us 11, us 12, us 13, us 14, us 15, us 16, us 17, us 18, us 19, us 20, us 21, us 22, us 23, us 24, us 25, us 26, us 27, us 28, us 29, us 30, us 31, us 32, us 33, us 34, us 35, us 36, us 37, us 38, us 39, us 40, us 41, us 42, us 43, us 44, us 45, us 46, us 47, us 48, us 49, us 50, us 51, us 52, us 53, us 54, us 55, us 56, us 57, us 58, us 59, us 60, us 61, us 62, us 63, us 64, us 65, us 66, us 67, us 68, us 69, us 70, us 71, us 72, us 73, us 74, us 75, us 76, us 77, us 78, us 79, us 80, us 81, us 82, us 83, us 84, us 85, us 86, us 87, us 88, us 89, us 90, us 91, us 92, us 93, us 94, us 95, us 96, us 97, us 98, us 99, us 100, us 101, us 102, us 103, us 104, us 105, us 106, us 107, us 108, us 109, us 110, us 111, us 112, us 113, us 114, us 115, us 116, us 117, us 118, us 119, us 120, us 121, us 122, us 123, us 124, us 125, us 126, us 127, us 128, us 129, us 130, us 131, us 132, us 133, us 134, us 135, us 136, us 137, us 138, us 139, us 140, us 141, us 142, us 143, us 144, us 145, us 146, us 147, us 148, us 149, us 150, us 151, us 152, us 153, us 154, us 155, us 156, us 157, us 158, us 159, us 160, us 161, us 162, us 163, us 164, us 165, us 166, us 167, us 168, us 169, us 170, us 171, us 172, us 173, us 174, us 175, us 176, us 177, us 178, us 179, us 180, us 181, us 182, us 183, us 184, us 185, us 186, us 187, us 188, us 189, us 190, us 191, us 192, us 193, us 194, us 195, us 196, us 197, us 198, us 199, us 200, us 201, us 202, us 203, us 204, us 205, us 206, us 207, us 208, us 209, us 210, us 211, us 212, us 213, us 214, us 215, us 216, us 217, us 218, us 219, us 220, us 221, us 222, us 223, us 224, us 225, us 226, us 227, us 228, us 229, us 230, us 231, us 232, us 233, us 234, us 235, us 236, us 237, us 238, us 239, us 240, us 241, us 242, us 243, us 244, us 245, us 246, us 247, us 248, us 249, us 250, us 251, us 252, us 253, us 254, us 255, us 256, us 257, us 258, us 259, us 260, us 261, us 262, us 263, us 264, us 265, us 266, us 267, us 268, us 269, us 270, us 271, us 272, us 273, us 274, us 275, us 276, us 277, us 278, us 279, us 280, us 281, us 282, us 283, us 284, us 285, us 286, us 287, us 288, us 289, us 290, us 291, us 292, us 293, us 294, us 295, us 296, us 297, us 298, us 299, us 300, us 301, us 302, us 303, us 304, us 305, us 306, us 307, us 308, us 309, us 310, us 311, us 312, us 313, us 314, us 315, us 316, us 317, us 318, us 319, us 320, us 321, us 322, us 323, us 324, us 325, us 326, us 327, us 328, us 329, us 330, us 331, us 332, us 333, us 334, us 335, us 336, us 337, us 338, us 339, us 340, us 341, us 342, us 343, us 344, us 345, us 346, us 347, us 348, us 349, us 350, us 351, us 352, us 353, us 354, us 355, us 356, us 357, us 358, us 359, us 360, us 361, us 362, us 363, us 364, us 365, us 366, us 367, us 368, us 369, us 370, us 371, us 372, us 373, us 374, us 375, us 376, us 377, us 378, us 379, us 380, us 381, us 382, us 383, us 384, us 385, us 386, us 387, us 388, us 389, us 390, us 391, us 392, us 393, us 394, us 395, us 396, us 397, us 398, us 399, us 400, us 401, us 402, us 403, us 404, us 405, us 406, us 407, us 408, us 409, us 410, us 411, us 412, us 413, us 414, us 415, us 416, us 417, us 418, us 419, us 420, us 421, us 422, us 423, us 424, us 425, us 426, us 427, us 428, us 429, us 430, us 431, us 432, us 433, us 434, us 435, us 436, us 437, us 438, us 439, us 440, us 441, us 442, us 443, us 444, us 445], []⟩ := by
  obtain ⟨⟨l⟩, m⟩ := a
  have hm' : m = [] := hm
  subst hm'
  obtain ⟨f, hf, hl⟩ := list_fn l 446 hs
  have e0 := hf 0 (by omega)
  have k0 : l[0]? = some v0 := by rw [← h0]; exact List.getElem?_toArray.symm
  rw [k0] at e0
  injection e0 with e0
  have e2 := hf 2 (by omega)
  have k2 : l[2]? = some v2 := by rw [← h2]; exact List.getElem?_toArray.symm
  rw [k2] at e2
  injection e2 with e2
  have e4 := hf 4 (by omega)
  have k4 : l[4]? = some v4 := by rw [← h4]; exact List.getElem?_toArray.symm
  rw [k4] at e4
  injection e4 with e4
  have e5 := hf 5 (by omega)
  have k5 : l[5]? = some v5 := by rw [← h5]; exact List.getElem?_toArray.symm
  rw [k5] at e5
  injection e5 with e5
  have e6 := hf 6 (by omega)
  have k6 : l[6]? = some v6 := by rw [← h6]; exact List.getElem?_toArray.symm
  rw [k6] at e6
  injection e6 with e6
  have e7 := hf 7 (by omega)
  have k7 : l[7]? = some v7 := by rw [← h7]; exact List.getElem?_toArray.symm
  rw [k7] at e7
  injection e7 with e7
  have e8 := hf 8 (by omega)
  have k8 : l[8]? = some v8 := by rw [← h8]; exact List.getElem?_toArray.symm
  rw [k8] at e8
  injection e8 with e8
  have e9 := hf 9 (by omega)
  have k9 : l[9]? = some v9 := by rw [← h9]; exact List.getElem?_toArray.symm
  rw [k9] at e9
  injection e9 with e9
  have e10 := hf 10 (by omega)
  have k10 : l[10]? = some v10 := by rw [← h10]; exact List.getElem?_toArray.symm
  rw [k10] at e10
  injection e10 with e10

  clear h0 k0
  subst e0
  clear h2 k2
  subst e2
  clear h4 k4
  subst e4
  clear h5 k5
  subst e5
  clear h6 k6
  subst e6
  clear h7 k7
  subst e7
  clear h8 k8
  subst e8
  clear h9 k9
  subst e9
  clear h10 k10
  subst e10

  exact ⟨f, by rw [hl]; rfl⟩
set_option maxRecDepth 100000 in
theorem frame_item {a : Act} {v0 v2 v4 v5 v6 v7 v8 v9 v10 v11 v12 v13 v14 v79 : Value} (hs : a.tmps.size = 446) (hm : a.defers = []) (h0 : a.tmps[0]? = some v0) (h2 : a.tmps[2]? = some v2) (h4 : a.tmps[4]? = some v4) (h5 : a.tmps[5]? = some v5) (h6 : a.tmps[6]? = some v6) (h7 : a.tmps[7]? = some v7) (h8 : a.tmps[8]? = some v8) (h9 : a.tmps[9]? = some v9) (h10 : a.tmps[10]? = some v10) (h11 : a.tmps[11]? = some v11) (h12 : a.tmps[12]? = some v12) (h13 : a.tmps[13]? = some v13) (h14 : a.tmps[14]? = some v14) (h79 : a.tmps[79]? = some v79) : ∃ us : Nat → Value, a = ⟨#[v0, us 1, v2, us 3, v4, v5, v6, v7, v8, v9, v10, v11, v12, v13, v14, us 15, us 16, us 17, us 18, us 19, us 20, us 21, us 22, us 23, us 24, us 25, us 26, us 27, us 28, us 29, us 30, us 31, us 32, us 33, us 34, us 35, us 36, us 37, us 38, us 39, us 40, us 41, us 42, us 43, us 44, us 45, us 46, us 47, us 48, us 49, us 50, us 51, us 52, us 53, us 54, us 55, us 56, us 57, us 58, us 59, us 60, us 61, us 62, us 63, us 64, us 65, us 66, us 67, us 68, us 69, us 70, us 71, us 72, us 73, us 74, us 75, us 76, us 77, us 78, v79, us 80, us 81, us 82, us 83, us 84, us 85, us 86, us 87, us 88, us 89, us 90, us 91, us 92, us 93, us 94, us 95, us 96, us 97, us 98, us 99, us 100, us 101, us 102, us 103, us 104, us 105, us 106, us 107, us 108, us 109, us 110, us 111, us 112, us 113, us 114, us 115, us 116, us 117, us 118, us 119, us 120, us 121, us 122, us 123, us 124, us 125, us 126, us 127, us 128, us 129, us 130, us 131, us 132, us 133, us 134, us 135, us 136, us 137, us 138, us 139, us 140, us 141, us 142, us 143, us 144, us 145, us 146, us 147, us 148, us 149, us 150, us 151, us 152, us 153, us 154, us 155, us 156, us 157, us 158, us 159, us 160, us 161, us 162, us 163, us 164, us 165, us 166, us 167, us 168, us 169, us 170, us 171, us 172, us 173, us 174, us 175, us 176, us 177, us 178, us 179, us 180, us 181, us 182, us 183, us 184, us 185, us 186, us 187, us 188, us 189, us 190, us 191, us 192, us 193, us 194, us 195, us 196, us 197, us 198, us 199, us 200, us 201, us 202, us 203, us 204, us 205, us 206, us 207, us 208, us 209, us 210, us 211, us 212, us 213, us 214, us 215, us 216, us 217, us 218, us 219, us 220, us 221, us 222, us 223, us 224, us 225, us 226, us 227, us 228, us 229, us 230, us 231, us 232, us 233, us 234, us 235, us 236, us 237, us 238, us 239, us 240, us 241, us 242, us 243, us 244, us 245, us 246, us 247, us 248, us 249, us 250, us 251, us 252, us 253, us 254, us 255, us 256, us 257, us 258, us 259, us 260, us 261, us 262, us 263, us 264, us 265, us 266, us 267, us 268, us 269, us 270, us 271, us 272, us 273, us 274, us 275, us 276, us 277, us 278, us 279, us 280, us 281, us 282, us 283, us 284, us 285, us 286, us 287, us 288, us 289, us 290, us 291, us 292, us 293, us 294, us 295, us 296, us 297, us 298, us 299, us 300, us 301, us 302, us 303, us 304, us 305, us 306, us 307, us 308, us 309, us 310, us 311, us 312, us 313, us 314, us 315, us 316, us 317, us 318, us 319, us 320, us 321, us 322, us 323, us 324, us 325, us 326, us 327, us 328, us 329, us 330, us 331, us 332, us 333, us 334, us 335, us 336, us 337, us 338, us 339, us 340, us 341, us 342, us 343, us 344, us 345, us 346, us 347, us 348, us 349, us 350, us 351, us 352, us 353, us 354, us 355, us 356, us 357, us 358, us 359, us 360, us 361, us 362, us 363, us 364, us 365, us 366, us 367, us 368, us 369, us 370, us 371, us 372, us 373, us 374, us 375, us 376, us 377, us 378, us 379, us 380, us 381, us 382, us 383, us 384, us 385, us 386, us 387, us 388, us 389, us 390, us 391, us 392, us 393, us 394, us 395, us 396, us 397, us 398, us 399, us 400, us 401, us 402, us 403, us 404, us 405, us 406, us 407, us 408, us 409, us 410, us 411, us 412, us 413, us 414, us 415, us 416, us 417, us 418, us 419, us 420, us 421, us 422, us 423, us 424, us 425, us 426, us 427, us 428, us 429, us 430, us 431, us 432, us 433, us 434, us 435, us 436, us 437, us 438, us 439, us 440, us 441, us 442, us 443, us 444, us 445], []⟩ := by
  obtain ⟨⟨l⟩, m⟩ := a
  have hm' : m = [] := hm
  subst hm'
  obtain ⟨f, hf, hl⟩ := list_fn l 446 hs
  have e0 := hf 0 (by omega)
  have k0 : l[0]? = some v0 := by rw [← h0]; exact List.getElem?_toArray.symm
  rw [k0] at e0
  injection e0 with e0
  have e2 := hf 2 (by omega)
  have k2 : l[2]? = some v2 := by rw [← h2]; exact List.getElem?_toArray.symm
  rw [k2] at e2
  injection e2 with e2
  have e4 := hf 4 (by omega)
  have k4 : l[4]? = some v4 := by rw [← h4]; exact List.getElem?_toArray.symm
  rw [k4] at e4
  injection e4 with e4
  have e5 := hf 5 (by omega)
  have k5 : l[5]? = some v5 := by rw [← h5]; exact List.getElem?_toArray.symm
  rw [k5] at e5
  injection e5 with e5
  have e6 := hf 6 (by omega)
  have k6 : l[6]? = some v6 := by rw [← h6]; exact List.getElem?_toArray.symm
  rw [k6] at e6
  injection e6 with e6
  have e7 := hf 7 (by omega)
  have k7 : l[7]? = some v7 := by rw [← h7]; exact List.getElem?_toArray.symm
  rw [k7] at e7
  injection e7 with e7
  have e8 := hf 8 (by omega)
  have k8 : l[8]? = some v8 := by rw [← h8]; exact List.getElem?_toArray.symm
  rw [k8] at e8
  injection e8 with e8
  have e9 := hf 9 (by omega)
  have k9 : l[9]? = some v9 := by rw [← h9]; exact List.getElem?_toArray.symm
  rw [k9] at e9
  injection e9 with e9
  have e10 := hf 10 (by omega)
  have k10 : l[10]? = some v10 := by rw [← h10]; exact List.getElem?_toArray.symm
  rw [k10] at e10
  injection e10 with e10
  have e11 := hf 11 (by omega)
  have k11 : l[11]? = some v11 := by rw [← h11]; exact List.getElem?_toArray.symm
  rw [k11] at e11
  injection e11 with e11
  have e12 := hf 12 (by omega)
  have k12 : l[12]? = some v12 := by rw [← h12]; exact List.getElem?_toArray.symm
  rw [k12] at e12
  injection e12 with e12
  have e13 := hf 13 (by omega)
  have k13 : l[13]? = some v13 := by rw [← h13]; exact List.getElem?_toArray.symm
  rw [k13] at e13
  injection e13 with e13
  have e14 := hf 14 (by omega)
  have k14 : l[14]? = some v14 := by rw [← h14]; exact List.getElem?_toArray.symm
  rw [k14] at e14
  injection e14 with e14
  have e79 := hf 79 (by omega)
  have k79 : l[79]? = some v79 := by rw [← h79]; exact List.getElem?_toArray.symm
  rw [k79] at e79
  injection e79 with e79

  clear h0 k0
  subst e0
  clear h2 k2
  subst e2
  clear h4 k4
  subst e4
  clear h5 k5
  subst e5
  clear h6 k6
  subst e6
  clear h7 k7
  subst e7
  clear h8 k8
  subst e8
  clear h9 k9
  subst e9
  clear h10 k10
  subst e10
  clear h11 k11
  subst e11
  clear h12 k12
  subst e12
  clear h13 k13
  subst e13
  clear h14 k14
  subst e14
  clear h79 k79
  subst e79

  exact ⟨f, by rw [hl]; rfl⟩
set_option maxRecDepth 100000 in
theorem frame_end {a : Act} {v0 v2 v4 v5 v6 v7 v8 v9 v10 v11 : Value} (hs : a.tmps.size = 446) (hm : a.defers = []) (h0 : a.tmps[0]? = some v0) (h2 : a.tmps[2]? = some v2) (h4 : a.tmps[4]? = some v4) (h5 : a.tmps[5]? = some v5) (h6 : a.tmps[6]? = some v6) (h7 : a.tmps[7]? = some v7) (h8 : a.tmps[8]? = some v8) (h9 : a.tmps[9]? = some v9) (h10 : a.tmps[10]? = some v10) (h11 : a.tmps[11]? = some v11) : ∃ us : Nat → Value, a = ⟨#[v0, us 1, v2, us 3, v4, v5, v6, v7, v8, v9, v10, v11, us 12, us 13, us 14, us 15, us 16, us 17, us 18, us 19, us 20, us 21, us 22, us 23, us 24, us 25, us 26, us 27, us 28, us 29, us 30, us 31, us 32, us 33, us 34, us 35, us 36, us 37, us 38, us 39, us 40, us 41, us 42, us 43, us 44, us 45, us 46, us 47, us 48, us 49, us 50, us 51, us 52, us 53, us 54, us 55, us 56, us 57, us 58, us 59, us 60, us 61, us 62, us 63, us 64, us 65, us 66, us 67, us 68, us 69, us 70, us 71, us 72, us 73, us 74, us 75, us 76, us 77, us 78, us 79, us 80, us 81, us 82, us 83, us 84, us 85, us 86, us 87, us 88, us 89, us 90, us 91, us 92, us 93, us 94, us 95, us 96, us 97, us 98, us 99, us 100, us 101, us 102, us 103, us 104, us 105, us 106, us 107, us 108, us 109, us 110, us 111, us 112, us 113, us 114, us 115, us 116, us 117, us 118, us 119, us 120, us 121, us 122, us 123, us 124, us 125, us 126, us 127, us 128, us 129, us 130, us 131, us 132, us 133, us 134, us 135, us 136, us 137, us 138, us 139, us 140, us 141, us 142, us 143, us 144, us 145, us 146, us 147, us 148, us 149, us 150, us 151, us 152, us 153, us 154, us 155, us 156, us 157, us 158, us 159, us 160, us 161, us 162, us 163, us 164, us 165, us 166, us 167, us 168, us 169, us 170, us 171, us 172, us 173, us 174, us 175, us 176, us 177, us 178, us 179, us 180, us 181, us 182, us 183, us 184, us 185, us 186, us 187, us 188, us 189, us 190, us 191, us 192, us 193, us 194, us 195, us 196, us 197, us 198, us 199, us 200, us 201, us 202, us 203, us 204, us 205, us 206, us 207, us 208, us 209, us 210, us 211, us 212, us 213, us 214, us 215, us 216, us 217, us 218, us 219, us 220, us 221, us 222, us 223, us 224, us 225, us 226, us 227, us 228, us 229, us 230, us 231, us 232, us 233, us 234, us 235, us 236, us 237, us 238, us 239, us 240, us 241, us 242, us 243, us 244, us 245, us 246, us 247, us 248, us 249, us 250, us 251, us 252, us 253, us 254, us 255, us 256, us 257, us 258, us 259, us 260, us 261, us 262, us 263, us 264, us 265, us 266, us 267, us 268, us 269, us 270, us 271, us 272, us 273, us 274, us 275, us 276, us 277, us 278, us 279, us 280, us 281, us 282, us 283, us 284, us 285, us 286, us 287, us 288, us 289, us 290, us 291, us 292, us 293, us 294, us 295, us 296, us 297, us 298, us 299, us 300, us 301, us 302, us 303, us 304, us 305, us 306, us 307, us 308, us 309, us 310, us 311, us 312, us 313, us 314, us 315, us 316, us 317, us 318, us 319, us 320, us 321, us 322, us 323, us 324, us 325, us 326, us 327, us 328, us 329, us 330, us 331, us 332, us 333, us 334, us 335, us 336, us 337, us 338, us 339, us 340, us 341, us 342, us 343, us 344, us 345, us 346, us 347, us 348, us 349, us 350, us 351, us 352, us 353, us 354, us 355, us 356, us 357, us 358, us 359, us 360, us 361, us 362, us 363, us 364, us 365, us 366, us 367, us 368, us 369, us 370, us 371, us 372, us 373, us 374, us 375, us 376, us 377, us 378, us 379, us 380, us 381, us 382, us 383, us 384, us 385, us 386, us 387, us 388, us 389, us 390, us 391, us 392, us 393, us 394, us 395, us 396, us 397, us 398, us 399, us 400, us 401, us 402, us 403, us 404, us 405, us 406, us 407, us 408, us 409, us 410, us 411, us 412, us 413, us 414, us 415, us 416, us 417, us 418, us 419, us 420, us 421, us 422, us 423, us 424, us 425, us 426, us 427, us 428, us 429, us 430, us 431, us 432, us 433, us 434, us 435, us 436, us 437, us 438, us 439, us 440, us 441, us 442, us 443, us 444, us 445], []⟩ := by
  obtain ⟨⟨l⟩, m⟩ := a
  have hm' : m = [] := hm
  subst hm'
  obtain ⟨f, hf, hl⟩ := list_fn l 446 hs
  have e0 := hf 0 (by omega)
  have k0 : l[0]? = some v0 := by rw [← h0]; exact List.getElem?_toArray.symm
  rw [k0] at e0
  injection e0 with e0
  have e2 := hf 2 (by omega)
  have k2 : l[2]? = some v2 := by rw [← h2]; exact List.getElem?_toArray.symm
  rw [k2] at e2
  injection e2 with e2
  have e4 := hf 4 (by omega)
  have k4 : l[4]? = some v4 := by rw [← h4]; exact List.getElem?_toArray.symm
  rw [k4] at e4
  injection e4 with e4
  have e5 := hf 5 (by omega)
  have k5 : l[5]? = some v5 := by rw [← h5]; exact List.getElem?_toArray.symm
  rw [k5] at e5
  injection e5 with e5
  have e6 := hf 6 (by omega)
  have k6 : l[6]? = some v6 := by rw [← h6]; exact List.getElem?_toArray.symm
  rw [k6] at e6
  injection e6 with e6
  have e7 := hf 7 (by omega)
  have k7 : l[7]? = some v7 := by rw [← h7]; exact List.getElem?_toArray.symm
  rw [k7] at e7
  injection e7 with e7
  have e8 := hf 8 (by omega)
  have k8 : l[8]? = some v8 := by rw [← h8]; exact List.getElem?_toArray.symm
  rw [k8] at e8
  injection e8 with e8
  have e9 := hf 9 (by omega)
  have k9 : l[9]? = some v9 := by rw [← h9]; exact List.getElem?_toArray.symm
  rw [k9] at e9
  injection e9 with e9
  have e10 := hf 10 (by omega)
  have k10 : l[10]? = some v10 := by rw [← h10]; exact List.getElem?_toArray.symm
  rw [k10] at e10
  injection e10 with e10
  have e11 := hf 11 (by omega)
  have k11 : l[11]? = some v11 := by rw [← h11]; exact List.getElem?_toArray.symm
  rw [k11] at e11
  injection e11 with e11

  clear h0 k0
  subst e0
  clear h2 k2
  subst e2
  clear h4 k4
  subst e4
  clear h5 k5
  subst e5
  clear h6 k6
  subst e6
  clear h7 k7
  subst e7
  clear h8 k8
  subst e8
  clear h9 k9
  subst e9
  clear h10 k10
  subst e10
  clear h11 k11
  subst e11

  exact ⟨f, by rw [hl]; rfl⟩
end Go.Proofs.Ytegdigfcgeoboaa
/- The definition of Parse: what holds at an item. Printed by gen_m.py. -/
namespace Go.Proofs.Ytegdigfcgeoboaa
open Go.RowKit Go.Maps

theorem info78 : (Try.prog.info? 78).map (fun i => (i.zero, i.size, i.bytes)) = some (some (.agg #[.int .i64 0, .int .i64 0, .int .i64 0, .int .i64 0, .int .i64 0, .int .i64 0]), 6, 48) := by kernel_rfl
def keptI (s : RS) : Int := if s.keeps then s.kept else -1
def zero40 : Obj := .cells #[.slice none 0 0, .slice none 0 0, .bool false] 40 (0, 0)
/-- the frame at an item; the usage is that of the state before it -/
def Live (a : Act) (A : Option Addr) (n c : Nat) (R M S X : Nat) (vs vu : Value) (s s0 : RS) (i : Int) (x : It) (cc : Int) : Prop := ∃ us : Nat → Value, a = ⟨#[.slice A n c, us 1, .pointer (some ⟨R, 0, none⟩), us 3, .pointer (some ⟨M, 0, none⟩), .pointer (some ⟨S, 0, none⟩), vs, vu, .int .i64 (keptI s), .int .i64 s.opn, .int .i64 i, .pointer (some ⟨X, 0, none⟩), .int .i64 x.data, .int .i64 (signS x), .int .i64 (usageS s0 x), us 15, us 16, us 17, us 18, us 19, us 20, us 21, us 22, us 23, us 24, us 25, us 26, us 27, us 28, us 29, us 30, us 31, us 32, us 33, us 34, us 35, us 36, us 37, us 38, us 39, us 40, us 41, us 42, us 43, us 44, us 45, us 46, us 47, us 48, us 49, us 50, us 51, us 52, us 53, us 54, us 55, us 56, us 57, us 58, us 59, us 60, us 61, us 62, us 63, us 64, us 65, us 66, us 67, us 68, us 69, us 70, us 71, us 72, us 73, us 74, us 75, us 76, us 77, us 78, .int .i64 cc, us 80, us 81, us 82, us 83, us 84, us 85, us 86, us 87, us 88, us 89, us 90, us 91, us 92, us 93, us 94, us 95, us 96, us 97, us 98, us 99, us 100, us 101, us 102, us 103, us 104, us 105, us 106, us 107, us 108, us 109, us 110, us 111, us 112, us 113, us 114, us 115, us 116, us 117, us 118, us 119, us 120, us 121, us 122, us 123, us 124, us 125, us 126, us 127, us 128, us 129, us 130, us 131, us 132, us 133, us 134, us 135, us 136, us 137, us 138, us 139, us 140, us 141, us 142, us 143, us 144, us 145, us 146, us 147, us 148, us 149, us 150, us 151, us 152, us 153, us 154, us 155, us 156, us 157, us 158, us 159, us 160, us 161, us 162, us 163, us 164, us 165, us 166, us 167, us 168, us 169, us 170, us 171, us 172, us 173, us 174, us 175, us 176, us 177, us 178, us 179, us 180, us 181, us 182, us 183, us 184, us 185, us 186, us 187, us 188, us 189, us 190, us 191, us 192, us 193, us 194, us 195, us 196, us 197, us 198, us 199, us 200, us 201, us 202, us 203, us 204, us 205, us 206, us 207, us 208, us 209, us 210, us 211, us 212, us 213, us 214, us 215, us 216, us 217, us 218, us 219, us 220, us 221, us 222, us 223, us 224, us 225, us 226, us 227, us 228, us 229, us 230, us 231, us 232, us 233, us 234, us 235, us 236, us 237, us 238, us 239, us 240, us 241, us 242, us 243, us 244, us 245, us 246, us 247, us 248, us 249, us 250, us 251, us 252, us 253, us 254, us 255, us 256, us 257, us 258, us 259, us 260, us 261, us 262, us 263, us 264, us 265, us 266, us 267, us 268, us 269, us 270, us 271, us 272, us 273, us 274, us 275, us 276, us 277, us 278, us 279, us 280, us 281, us 282, us 283, us 284, us 285, us 286, us 287, us 288, us 289, us 290, us 291, us 292, us 293, us 294, us 295, us 296, us 297, us 298, us 299, us 300, us 301, us 302, us 303, us 304, us 305, us 306, us 307, us 308, us 309, us 310, us 311, us 312, us 313, us 314, us 315, us 316, us 317, us 318, us 319, us 320, us 321, us 322, us 323, us 324, us 325, us 326, us 327, us 328, us 329, us 330, us 331, us 332, us 333, us 334, us 335, us 336, us 337, us 338, us 339, us 340, us 341, us 342, us 343, us 344, us 345, us 346, us 347, us 348, us 349, us 350, us 351, us 352, us 353, us 354, us 355, us 356, us 357, us 358, us 359, us 360, us 361, us 362, us 363, us 364, us 365, us 366, us 367, us 368, us 369, us 370, us 371, us 372, us 373, us 374, us 375, us 376, us 377, us 378, us 379, us 380, us 381, us 382, us 383, us 384, us 385, us 386, us 387, us 388, us 389, us 390, us 391, us 392, us 393, us 394, us 395, us 396, us 397, us 398, us 399, us 400, us 401, us 402, us 403, us 404, us 405, us 406, us 407, us 408, us 409, us 410, us 411, us 412, us 413, us 414, us 415, us 416, us 417, us 418, us 419, us 420, us 421, us 422, us 423, us 424, us 425, us 426, us 427, us 428, us 429, us 430, us 431, us 432, us 433, us 434, us 435, us 436, us 437, us 438, us 439, us 440, us 441, us 442, us 443, us 444, us 445], []⟩
/-- the frame behind an item -/
def LiveN (a : Act) (A : Option Addr) (n c : Nat) (R M S X : Nat) (vs vu : Value) (s : RS) (i : Int) : Prop := ∃ us : Nat → Value, a = ⟨#[.slice A n c, us 1, .pointer (some ⟨R, 0, none⟩), us 3, .pointer (some ⟨M, 0, none⟩), .pointer (some ⟨S, 0, none⟩), vs, vu, .int .i64 (keptI s), .int .i64 s.opn, .int .i64 i, .pointer (some ⟨X, 0, none⟩), us 12, us 13, us 14, us 15, us 16, us 17, us 18, us 19, us 20, us 21, us 22, us 23, us 24, us 25, us 26, us 27, us 28, us 29, us 30, us 31, us 32, us 33, us 34, us 35, us 36, us 37, us 38, us 39, us 40, us 41, us 42, us 43, us 44, us 45, us 46, us 47, us 48, us 49, us 50, us 51, us 52, us 53, us 54, us 55, us 56, us 57, us 58, us 59, us 60, us 61, us 62, us 63, us 64, us 65, us 66, us 67, us 68, us 69, us 70, us 71, us 72, us 73, us 74, us 75, us 76, us 77, us 78, us 79, us 80, us 81, us 82, us 83, us 84, us 85, us 86, us 87, us 88, us 89, us 90, us 91, us 92, us 93, us 94, us 95, us 96, us 97, us 98, us 99, us 100, us 101, us 102, us 103, us 104, us 105, us 106, us 107, us 108, us 109, us 110, us 111, us 112, us 113, us 114, us 115, us 116, us 117, us 118, us 119, us 120, us 121, us 122, us 123, us 124, us 125, us 126, us 127, us 128, us 129, us 130, us 131, us 132, us 133, us 134, us 135, us 136, us 137, us 138, us 139, us 140, us 141, us 142, us 143, us 144, us 145, us 146, us 147, us 148, us 149, us 150, us 151, us 152, us 153, us 154, us 155, us 156, us 157, us 158, us 159, us 160, us 161, us 162, us 163, us 164, us 165, us 166, us 167, us 168, us 169, us 170, us 171, us 172, us 173, us 174, us 175, us 176, us 177, us 178, us 179, us 180, us 181, us 182, us 183, us 184, us 185, us 186, us 187, us 188, us 189, us 190, us 191, us 192, us 193, us 194, us 195, us 196, us 197, us 198, us 199, us 200, us 201, us 202, us 203, us 204, us 205, us 206, us 207, us 208, us 209, us 210, us 211, us 212, us 213, us 214, us 215, us 216, us 217, us 218, us 219, us 220, us 221, us 222, us 223, us 224, us 225, us 226, us 227, us 228, us 229, us 230, us 231, us 232, us 233, us 234, us 235, us 236, us 237, us 238, us 239, us 240, us 241, us 242, us 243, us 244, us 245, us 246, us 247, us 248, us 249, us 250, us 251, us 252, us 253, us 254, us 255, us 256, us 257, us 258, us 259, us 260, us 261, us 262, us 263, us 264, us 265, us 266, us 267, us 268, us 269, us 270, us 271, us 272, us 273, us 274, us 275, us 276, us 277, us 278, us 279, us 280, us 281, us 282, us 283, us 284, us 285, us 286, us 287, us 288, us 289, us 290, us 291, us 292, us 293, us 294, us 295, us 296, us 297, us 298, us 299, us 300, us 301, us 302, us 303, us 304, us 305, us 306, us 307, us 308, us 309, us 310, us 311, us 312, us 313, us 314, us 315, us 316, us 317, us 318, us 319, us 320, us 321, us 322, us 323, us 324, us 325, us 326, us 327, us 328, us 329, us 330, us 331, us 332, us 333, us 334, us 335, us 336, us 337, us 338, us 339, us 340, us 341, us 342, us 343, us 344, us 345, us 346, us 347, us 348, us 349, us 350, us 351, us 352, us 353, us 354, us 355, us 356, us 357, us 358, us 359, us 360, us 361, us 362, us 363, us 364, us 365, us 366, us 367, us 368, us 369, us 370, us 371, us 372, us 373, us 374, us 375, us 376, us 377, us 378, us 379, us 380, us 381, us 382, us 383, us 384, us 385, us 386, us 387, us 388, us 389, us 390, us 391, us 392, us 393, us 394, us 395, us 396, us 397, us 398, us 399, us 400, us 401, us 402, us 403, us 404, us 405, us 406, us 407, us 408, us 409, us 410, us 411, us 412, us 413, us 414, us 415, us 416, us 417, us 418, us 419, us 420, us 421, us 422, us 423, us 424, us 425, us 426, us 427, us 428, us 429, us 430, us 431, us 432, us 433, us 434, us 435, us 436, us 437, us 438, us 439, us 440, us 441, us 442, us 443, us 444, us 445], []⟩
structure Sit (W : World) (base R M S X : Nat) (vs vu vf vc : Value) (s : RS) (x : It) : Prop where
  md : Md W base M S vs vu vf vc s
  hb : base ≤ W.heap.size
  bx : W.heap[X]? = some (.cells #[.int .u8 x.ty, .int .u8 x.tg, .int .i64 x.size, .int .u32 x.data] 29 (0, 0))
  xb : base ≤ X
  br : W.heap[R]? = some zero40
  low : R < base ∧ R < M ∧ R < S
/-- an item is done: the switch ends, and nothing is wrong -/
def OkN (Q : Exit → Act → World → Prop) (W : World) (base : Nat) (A : Option Addr) (n c : Nat) (R M S X : Nat) (s : RS) (i : Int) (x : It) : Prop :=
  ∀ a' W' vs' vu' vf' vc' s', effS s x = (0, s') → LiveN a' A n c R M S X vs' vu' s' i → Sit W' base R M S X vs' vu' vf' vc' s' x → FrM base M S W W' → Q .normal a' W'
/-- an item is wrong: the error is returned -/
def OkE (Q : Exit → Act → World → Prop) (W : World) (R : Nat) (s : RS) (x : It) : Prop :=
  ∀ a' W' E, (effS s x).1 = E → E ≠ 0 → a'.defers = [] → a'.tmps[2]? = some (.pointer (some ⟨R, 0, none⟩)) → a'.tmps[3]? = some (.int .i64 E) → W'.heap[R]? = some zero40 → Below R W W' → Q .ret a' W'
section
variable {W W' : World} {base R M S X : Nat} {vs vu vf vc v' : Value} {s s' : RS} {x : It}
theorem Sit.kept (h : Sit W base R M S X vs vu vf vc s x) (hk : Kept W W') : Sit W' base R M S X vs vu vf vc s x := ⟨h.md.kept hk, Nat.le_trans h.hb hk.size, heap_kept hk h.bx, h.xb, heap_kept hk h.br, h.low⟩
theorem Sit.setS (h : Sit W base R M S X vs vu vf vc s x) (i : Nat) (u : Value) (hc : (sC s).setIfInBounds i u = sC s') (h1 : s'.stack = s.stack) (h2 : s'.usages = s.usages) (h3 : s'.fields = s.fields) (h4 : s'.colls = s.colls) (h5 : s'.numbered = s.numbered) : Sit (W.setCell ⟨S, i, none⟩ u) base R M S X vs vu vf vc s' x := by
  have hg : W.grownBy (W.setCell ⟨S, i, none⟩ u) (some S) := grown_at grown_self i u
  obtain ⟨l1, l2, l3⟩ := h.low
  have hx := h.xb
  have hs := h.md.low.2.1
  exact ⟨h.md.setS i u hc h1 h2 h3 h4 h5, by rw [World.size_setCell]; exact h.hb, heap_grown hg h.bx (fun e => by injection e with e; omega), h.xb, heap_grown hg h.br (fun e => by injection e with e; omega), h.low⟩
theorem Sit.setM (h : Sit W base R M S X vs vu vf vc s x) (i : Nat) (u : Value) (hc : (mC s vf vc).setIfInBounds i u = mC s' vf vc) (h0 : s'.g = s.g) (h1 : s'.stack = s.stack) (h2 : s'.usages = s.usages) (h3 : s'.fields = s.fields) (h4 : s'.colls = s.colls) : Sit (W.setCell ⟨M, i, none⟩ u) base R M S X vs vu vf vc s' x := by
  have hg : W.grownBy (W.setCell ⟨M, i, none⟩ u) (some M) := grown_at grown_self i u
  obtain ⟨l1, l2, l3⟩ := h.low
  have hx := h.xb
  have hs := h.md.low.1
  exact ⟨h.md.setM i u hc h0 h1 h2 h3 h4, by rw [World.size_setCell]; exact h.hb, heap_grown hg h.bx (fun e => by injection e with e; omega), h.xb, heap_grown hg h.br (fun e => by injection e with e; omega), h.low⟩
theorem Sit.same (h : Sit W base R M S X vs vu vf vc s x) (h0 : s'.g = s.g) (h1 : s'.stack = s.stack) (h2 : s'.usages = s.usages) (h3 : s'.fields = s.fields) (h4 : s'.colls = s.colls) (h5 : s'.numbered = s.numbered) : Sit W base R M S X vs vu vf vc s' x :=
  ⟨h.md.same h0 h1 h2 h3 h4 h5, h.hb, h.bx, h.xb, h.br, h.low⟩
theorem own_not29 {α : Type} {t : Ty α} {e : TypeId} {n : Nat} {v : Value} {xs : List α} (ho : Own t e base W v n xs) {k : Nat} {cs : Array Value} {t2 : TypeId} (hk : W.heap[k]? = some (.cells cs t2 (0, 0))) (he : e ≠ t2) : v.ownBlock ≠ some k := by
  intro e2
  obtain ⟨_, _, ⟨_, h2⟩, _⟩ := ho
  rcases h2 with ⟨rfl, _⟩ | ⟨g, cap, cur, rfl, _, hg2, _⟩
  · cases e2
  · have e3 : g = k := by simpa [Value.ownBlock] using e2
    subst e3
    rw [hg2] at hk
    injection hk with hk
    injection hk with _ hk _
    exact he hk
theorem Sit.stTo (h : Sit W base R M S X vs vu vf vc s x) {l : List Gl} (hg : W.grownBy W' vs.ownBlock) (ho : Own glM 78 base W' v' l.length l) (hat : v'.ownBlock = none ∨ v'.ownBlock = vs.ownBlock ∨ v'.ownBlock = some W.heap.size) : Sit W' base R M S X v' vu vf vc { s with stack := l } x :=
  ⟨h.md.stTo hg ho hat, Nat.le_trans h.hb hg.size, heap_grown hg h.bx (fun e => own_not29 h.md.st h.bx (by decide) e.symm), h.xb, heap_grown hg h.br (fun e => own_not29 h.md.st h.br (by decide) e.symm), h.low⟩
theorem Sit.usTo (h : Sit W base R M S X vs vu vf vc s x) {l : List Int} (hg : W.grownBy W' vu.ownBlock) (ho : Own u32T 27 base W' v' l.length l) (hat : v'.ownBlock = none ∨ v'.ownBlock = vu.ownBlock ∨ v'.ownBlock = some W.heap.size) : Sit W' base R M S X vs v' vf vc { s with usages := l } x :=
  ⟨h.md.usTo hg ho hat, Nat.le_trans h.hb hg.size, heap_grown hg h.bx (fun e => own_not29 h.md.us h.bx (by decide) e.symm), h.xb, heap_grown hg h.br (fun e => own_not29 h.md.us h.br (by decide) e.symm), h.low⟩
theorem Sit.csTo (h : Sit W base R M S X vs vu vf vc s x) {l : List Co} (hg : W.grownBy W' vc.ownBlock) (ho : Own coT 68 base W' v' l.length l) (hat : v'.ownBlock = none ∨ v'.ownBlock = vc.ownBlock ∨ v'.ownBlock = some W.heap.size) : Sit (W'.setCell ⟨M, 1, none⟩ v') base R M S X vs vu vf v' { s with colls := l } x := by
  have hg2 : W'.grownBy (W'.setCell ⟨M, 1, none⟩ v') (some M) := grown_at grown_self 1 v'
  obtain ⟨l1, l2, l3⟩ := h.low
  have hx := h.xb
  have hs := h.md.low.1
  exact ⟨h.md.csTo hg ho hat, by rw [World.size_setCell]; exact Nat.le_trans h.hb hg.size, heap_grown hg2 (heap_grown hg h.bx (fun e => own_not29 h.md.cs h.bx (by decide) e.symm)) (fun e => by injection e with e; omega), h.xb, heap_grown hg2 (heap_grown hg h.br (fun e => own_not29 h.md.cs h.br (by decide) e.symm)) (fun e => by injection e with e; omega), h.low⟩
theorem Sit.fsTo (h : Sit W base R M S X vs vu vf vc s x) {l : List Fd} (hg : W.grownBy W' vf.ownBlock) (ho : Own (fdM.on (fun b => BusyM M S vs vu vf vc b ∧ b < W.heap.size)) 59 base W' v' l.length l) (hat : v'.ownBlock = none ∨ v'.ownBlock = vf.ownBlock ∨ v'.ownBlock = some W.heap.size) : Sit (W'.setCell ⟨M, 0, none⟩ v') base R M S X vs vu v' vc { s with fields := l } x := by
  have hg2 : W'.grownBy (W'.setCell ⟨M, 0, none⟩ v') (some M) := grown_at grown_self 0 v'
  obtain ⟨l1, l2, l3⟩ := h.low
  have hx := h.xb
  have hs := h.md.low.1
  exact ⟨h.md.fsTo hg ho hat, by rw [World.size_setCell]; exact Nat.le_trans h.hb hg.size, heap_grown hg2 (heap_grown hg h.bx (fun e => own_not29 h.md.fs h.bx (by decide) e.symm)) (fun e => by injection e with e; omega), h.xb, heap_grown hg2 (heap_grown hg h.br (fun e => own_not29 h.md.fs h.br (by decide) e.symm)) (fun e => by injection e with e; omega), h.low⟩
theorem zeroed (h : W.heap[R]? = some zero40) : (((W.setCell ⟨R, 0, none⟩ (.slice none 0 0)).setCell ⟨R, 1, none⟩ (.slice none 0 0)).setCell ⟨R, 2, none⟩ (.bool false)).heap[R]? = some zero40 ∧ Below R W (((W.setCell ⟨R, 0, none⟩ (.slice none 0 0)).setCell ⟨R, 1, none⟩ (.slice none 0 0)).setCell ⟨R, 2, none⟩ (.bool false)) :=
  ⟨heap_store (heap_store (heap_store h _) _) _, (((Below.refl _ _).setCell (p := ⟨R, 0, none⟩) (Nat.le_refl _) _).setCell (p := ⟨R, 1, none⟩) (Nat.le_refl _) _).setCell (p := ⟨R, 2, none⟩) (Nat.le_refl _) _⟩
end
end Go.Proofs.Ytegdigfcgeoboaa
