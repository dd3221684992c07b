/- The definition of Parse in memory: its map, its state, the slices that it owns. No condition. -/
import Derived.Test.YtegdigfcgeoboaaChecked
import Derived.Deep.RegionHeld3
import Derived.Deep.DrawnRows
import Derived.Deep.DeepCutAuto
import Derived.Deep.LoopGhost
import Derived.Outline
import Derived.Handy
import Derived.OwnWalk
import Derived.Test.YtegdigfcgeoboaaN12
import Derived.Test.YtegdigfcgeoboaaQdK
set_option linter.unusedVariables false
set_option linter.unusedSimpArgs false
set_option linter.unusedSectionVars false
namespace Go.Proofs.Ytegdigfcgeoboaa
open Go.RowKit Go.Maps

def Gl.cellsM (g : Gl) : List Value := [.int .i64 g.page, .int .i64 g.lo, .int .i64 g.hi, .int .i64 g.size, .int .i64 g.count, .int .i64 g.report]
def glM : Ty Gl := Ty.flat 6 Gl.cellsM (fun _ => True) (fun _ => rfl)
theorem flat_glM : Flat glM := fun {w w' F F' x cs} h => h
def Fd.cellsC (f : Fd) (A : Option Addr) (c : Nat) : List Value := [.int .u8 f.kind, .int .u8 f.report, .int .i64 f.parent, .slice A f.usages.length c, .int .i64 f.lo, .int .i64 f.hi, .int .i64 f.size, .int .i64 f.count, .int .i64 f.pos, .bool f.const, .bool f.array, .bool f.signed, .bool f.rel]
/-- a field whose usages may have room -/
def fdM : Ty Fd :=
  ⟨13, fun w F f cs => ∃ A c, cs = f.cellsC A c ∧ f.usages.length ≤ c ∧ c ≤ maxLen ∧ Sl u32T w F A f.usages.length f.usages,
   fun {_ _ _ _} ⟨_, _, e, _⟩ => by rw [e]; rfl,
   fun {_ _ _ _ _ _} ⟨A, c, e, h1, h2, h⟩ hB hk => ⟨A, c, e, h1, h2, h.keep hB hk⟩⟩
/-- the blocks that the definition writes -/
def BusyM (M S : Nat) (vs vu vf vc : Value) : Nat → Prop := fun b => b ≠ M ∧ b ≠ S ∧ vs.ownBlock ≠ some b ∧ vu.ownBlock ≠ some b ∧ vf.ownBlock ≠ some b ∧ vc.ownBlock ≠ some b
def mC (s : RS) (vf vc : Value) : Array Value := #[vf, vc, .bool s.numbered]
def sC (s : RS) : Array Value := #[.int .i64 s.g.page, .int .i64 s.g.lo, .int .i64 s.g.hi, .int .i64 s.g.size, .int .i64 s.g.count, .int .i64 s.g.report]
structure Md (w : World) (base M S : Nat) (vs vu vf vc : Value) (s : RS) : Prop where
  bm : w.heap[M]? = some (.cells (mC s vf vc) 40 (0, 0))
  bs : w.heap[S]? = some (.cells (sC s) 78 (0, 0))
  st : Own glM 78 base w vs s.stack.length s.stack
  us : Own u32T 27 base w vu s.usages.length s.usages
  fs : Own (fdM.on (BusyM M S vs vu vf vc)) 59 base w vf s.fields.length s.fields
  cs : Own coT 68 base w vc s.colls.length s.colls
  low : M < base ∧ S < base ∧ M ≠ S
/-- all below a base is as it was, but the map and the state -/
structure FrM (base M S : Nat) (w w' : World) : Prop where
  os : w'.os = w.os
  tape : w'.tape = w.tape
  output : w'.output = w.output
  size : w.heap.size ≤ w'.heap.size
  block : ∀ k, k < base → k ≠ M → k ≠ S → w'.heap[k]? = w.heap[k]?
section
variable {base M S : Nat} {w w' w'' : World}
theorem FrM.refl : FrM base M S w w := ⟨rfl, rfl, rfl, Nat.le_refl _, fun _ _ _ _ => rfl⟩
theorem FrM.trans (h : FrM base M S w w') (k : FrM base M S w' w'') : FrM base M S w w'' := ⟨k.os.trans h.os, k.tape.trans h.tape, k.output.trans h.output, Nat.le_trans h.size k.size, fun i h1 h2 h3 => (k.block i h1 h2 h3).trans (h.block i h1 h2 h3)⟩
theorem FrM.kept (h : Kept w w') (hb : base ≤ w.heap.size) : FrM base M S w w' := ⟨h.os, h.tape, h.output, h.size, fun k h1 _ _ => h.block k (by omega)⟩
theorem FrM.below (h : Below base w w') : FrM base M S w w' := ⟨h.os, h.tape, h.output, h.size, fun k h1 _ _ => h.block k h1⟩
theorem FrM.setM (i : Nat) (u : Value) : FrM base M S w (w.setCell ⟨M, i, none⟩ u) := ⟨rfl, rfl, rfl, by rw [World.size_setCell]; exact Nat.le_refl _, fun k _ h2 _ => Below.heap_setCell _ _ _ k h2⟩
theorem FrM.setS (i : Nat) (u : Value) : FrM base M S w (w.setCell ⟨S, i, none⟩ u) := ⟨rfl, rfl, rfl, by rw [World.size_setCell]; exact Nat.le_refl _, fun k _ _ h2 => Below.heap_setCell _ _ _ k h2⟩
end
section
variable {w w' : World} {base M S : Nat} {vs vu vf vc v' : Value} {s s' : RS}
theorem Md.kept (h : Md w base M S vs vu vf vc s) (hk : Kept w w') : Md w' base M S vs vu vf vc s :=
  ⟨heap_kept hk h.bm, heap_kept hk h.bs, h.st.kept hk, h.us.kept hk, h.fs.kept hk, h.cs.kept hk, h.low⟩
/-- the state's cells are set -/
theorem Md.setS (h : Md w base M S vs vu vf vc s) (i : Nat) (u : Value) (hc : (sC s).setIfInBounds i u = sC s') (h1 : s'.stack = s.stack) (h2 : s'.usages = s.usages) (h3 : s'.fields = s.fields) (h4 : s'.colls = s.colls) (h5 : s'.numbered = s.numbered) : Md (w.setCell ⟨S, i, none⟩ u) base M S vs vu vf vc s' := by
  obtain ⟨l1, l2, l3⟩ := h.low
  have hg : w.grownBy (w.setCell ⟨S, i, none⟩ u) (some S) := grown_at grown_self i u
  refine ⟨?_, by rw [← hc]; exact heap_store h.bs u, by rw [h1]; exact h.st.grownF flat_glM hg (h.st.above l2), by rw [h2]; exact h.us.grownF flat_u32 hg (h.us.above l2), ?_, by rw [h4]; exact h.cs.grownF flat_co hg (h.cs.above l2), h.low⟩
  · rw [show mC s' vf vc = mC s vf vc by unfold mC; rw [h5]]
    exact heap_grown hg h.bm (fun e => l3 (by injection e))
  · rw [h3]
    exact h.fs.grownX hg (fun b e hx => by injection e with e; exact hx.2.1 e) (h.fs.above l2)
/-- the map's cells are set -/
theorem Md.setM (h : Md w base M S vs vu vf vc s) (i : Nat) (u : Value) (hc : (mC s vf vc).setIfInBounds i u = mC s' vf vc) (h0 : s'.g = s.g) (h1 : s'.stack = s.stack) (h2 : s'.usages = s.usages) (h3 : s'.fields = s.fields) (h4 : s'.colls = s.colls) : Md (w.setCell ⟨M, i, none⟩ u) base M S vs vu vf vc s' := by
  obtain ⟨l1, l2, l3⟩ := h.low
  have hg : w.grownBy (w.setCell ⟨M, i, none⟩ u) (some M) := grown_at grown_self i u
  refine ⟨by rw [← hc]; exact heap_store h.bm u, ?_, by rw [h1]; exact h.st.grownF flat_glM hg (h.st.above l1), by rw [h2]; exact h.us.grownF flat_u32 hg (h.us.above l1), ?_, by rw [h4]; exact h.cs.grownF flat_co hg (h.cs.above l1), h.low⟩
  · rw [show sC s' = sC s by unfold sC; rw [h0]]
    exact heap_grown hg h.bs (fun e => l3 (by injection e with e; exact e.symm))
  · rw [h3]
    exact h.fs.grownX hg (fun b e hx => by injection e with e; exact hx.1 e) (h.fs.above l1)
/-- what no cell holds may change -/
theorem Md.same (h : Md w base M S vs vu vf vc s) (h0 : s'.g = s.g) (h1 : s'.stack = s.stack) (h2 : s'.usages = s.usages) (h3 : s'.fields = s.fields) (h4 : s'.colls = s.colls) (h5 : s'.numbered = s.numbered) : Md w base M S vs vu vf vc s' := by
  refine ⟨?_, ?_, by rw [h1]; exact h.st, by rw [h2]; exact h.us, by rw [h3]; exact h.fs, by rw [h4]; exact h.cs, h.low⟩
  · rw [show mC s' vf vc = mC s vf vc by unfold mC; rw [h5]]; exact h.bm
  · rw [show sC s' = sC s by unfold sC; rw [h0]]; exact h.bs
theorem own_new {v v' : Value} {b n : Nat} (hat : v'.ownBlock = none ∨ v'.ownBlock = v.ownBlock ∨ v'.ownBlock = some n) (hb : b < n) (hv : v.ownBlock ≠ some b) : v'.ownBlock ≠ some b := by
  rcases hat with e | e | e
  · rw [e]; intro e2; cases e2
  · rw [e]; exact hv
  · rw [e]; intro e2; injection e2 with e2; omega
/-- the stack has another value -/
theorem Md.stTo (h : Md w base M S vs vu vf vc s) {l : List Gl} (hg : w.grownBy w' vs.ownBlock) (ho : Own glM 78 base w' v' l.length l) (hat : v'.ownBlock = none ∨ v'.ownBlock = vs.ownBlock ∨ v'.ownBlock = some w.heap.size) :
    Md w' base M S v' vu vf vc { s with stack := l } := by
  obtain ⟨l1, l2, l3⟩ := h.low
  have hX : ∀ b, b < w.heap.size → BusyM M S vs vu vf vc b → BusyM M S v' vu vf vc b := fun b hb ⟨b1, b2, b3, b4, b5, b6⟩ => ⟨b1, b2, own_new hat hb b3, b4, b5, b6⟩
  exact ⟨heap_grown hg h.bm (fun e => h.st.not_at l1 e.symm), heap_grown hg h.bs (fun e => h.st.not_at l2 e.symm), ho, h.us.grownF flat_u32 hg (rows_apart h.us h.st (by decide)), h.fs.step hg (fun b e hx => hx.2.2.1 e.symm) (rows_apart h.fs h.st (by decide)) hX, h.cs.grownF flat_co hg (rows_apart h.cs h.st (by decide)), h.low⟩
/-- the usages have another value -/
theorem Md.usTo (h : Md w base M S vs vu vf vc s) {l : List Int} (hg : w.grownBy w' vu.ownBlock) (ho : Own u32T 27 base w' v' l.length l) (hat : v'.ownBlock = none ∨ v'.ownBlock = vu.ownBlock ∨ v'.ownBlock = some w.heap.size) :
    Md w' base M S vs v' vf vc { s with usages := l } := by
  obtain ⟨l1, l2, l3⟩ := h.low
  have hX : ∀ b, b < w.heap.size → BusyM M S vs vu vf vc b → BusyM M S vs v' vf vc b := fun b hb ⟨b1, b2, b3, b4, b5, b6⟩ => ⟨b1, b2, b3, own_new hat hb b4, b5, b6⟩
  exact ⟨heap_grown hg h.bm (fun e => h.us.not_at l1 e.symm), heap_grown hg h.bs (fun e => h.us.not_at l2 e.symm), h.st.grownF flat_glM hg (rows_apart h.st h.us (by decide)), ho, h.fs.step hg (fun b e hx => hx.2.2.2.1 e.symm) (rows_apart h.fs h.us (by decide)) hX, h.cs.grownF flat_co hg (rows_apart h.cs h.us (by decide)), h.low⟩
/-- the collections have another value, which is stored -/
theorem Md.csTo (h : Md w base M S vs vu vf vc s) {l : List Co} (hg : w.grownBy w' vc.ownBlock) (ho : Own coT 68 base w' v' l.length l) (hat : v'.ownBlock = none ∨ v'.ownBlock = vc.ownBlock ∨ v'.ownBlock = some w.heap.size) :
    Md (w'.setCell ⟨M, 1, none⟩ v') base M S vs vu vf v' { s with colls := l } := by
  obtain ⟨l1, l2, l3⟩ := h.low
  have hX : ∀ b, b < w.heap.size → BusyM M S vs vu vf vc b → BusyM M S vs vu vf v' b := fun b hb ⟨b1, b2, b3, b4, b5, b6⟩ => ⟨b1, b2, b3, b4, b5, own_new hat hb b6⟩
  have hg2 : w'.grownBy (w'.setCell ⟨M, 1, none⟩ v') (some M) := grown_at grown_self 1 v'
  have hbm : w'.heap[M]? = some (.cells (mC s vf vc) 40 (0, 0)) := heap_grown hg h.bm (fun e => h.cs.not_at l1 e.symm)
  have hfs := h.fs.step hg (X' := BusyM M S vs vu vf v') (fun b e hx => hx.2.2.2.2.2 e.symm) (rows_apart h.fs h.cs (by decide)) hX
  exact ⟨heap_store hbm v', heap_grown hg2 (heap_grown hg h.bs (fun e => h.cs.not_at l2 e.symm)) (fun e => l3 (by injection e with e; exact e.symm)), (h.st.grownF flat_glM hg (rows_apart h.st h.cs (by decide))).grownF flat_glM hg2 (h.st.above l1), (h.us.grownF flat_u32 hg (rows_apart h.us h.cs (by decide))).grownF flat_u32 hg2 (h.us.above l1), hfs.grownX hg2 (fun b e hx => by injection e with e; exact hx.1 e) (h.fs.above l1), ho.grownF flat_co hg2 (ho.above l1), h.low⟩
/-- the fields have another value, which is stored -/
theorem Md.fsTo (h : Md w base M S vs vu vf vc s) {l : List Fd} (hg : w.grownBy w' vf.ownBlock) (ho : Own (fdM.on (fun b => BusyM M S vs vu vf vc b ∧ b < w.heap.size)) 59 base w' v' l.length l) (hat : v'.ownBlock = none ∨ v'.ownBlock = vf.ownBlock ∨ v'.ownBlock = some w.heap.size) :
    Md (w'.setCell ⟨M, 0, none⟩ v') base M S vs vu v' vc { s with fields := l } := by
  obtain ⟨l1, l2, l3⟩ := h.low
  have hX : ∀ b, BusyM M S vs vu vf vc b ∧ b < w.heap.size → BusyM M S vs vu v' vc b := fun b ⟨⟨b1, b2, b3, b4, b5, b6⟩, hb⟩ => ⟨b1, b2, b3, b4, own_new hat hb b5, b6⟩
  have hg2 : w'.grownBy (w'.setCell ⟨M, 0, none⟩ v') (some M) := grown_at grown_self 0 v'
  have hbm : w'.heap[M]? = some (.cells (mC s vf vc) 40 (0, 0)) := heap_grown hg h.bm (fun e => h.fs.not_at l1 e.symm)
  have hfs := ho.widen (X' := BusyM M S vs vu v' vc) (fun b _ h => hX b h)
  exact ⟨heap_store hbm v', heap_grown hg2 (heap_grown hg h.bs (fun e => h.fs.not_at l2 e.symm)) (fun e => l3 (by injection e with e; exact e.symm)), (h.st.grownF flat_glM hg (rows_apart h.st h.fs (by decide))).grownF flat_glM hg2 (h.st.above l1), (h.us.grownF flat_u32 hg (rows_apart h.us h.fs (by decide))).grownF flat_u32 hg2 (h.us.above l1), hfs.grownX hg2 (fun b e hx => by injection e with e; exact hx.1 e) (ho.above l1), (h.cs.grownF flat_co hg (rows_apart h.cs h.fs (by decide))).grownF flat_co hg2 (h.cs.above l1), h.low⟩
end
end Go.Proofs.Ytegdigfcgeoboaa
