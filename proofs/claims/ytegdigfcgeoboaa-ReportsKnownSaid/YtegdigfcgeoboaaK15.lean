/- The law of the chapter on reports, part 15: Ma Ka Ya Yb. -/
import Derived.Test.YtegdigfcgeoboaaK14
set_option maxHeartbeats 16000000
set_option linter.unusedVariables false
set_option linter.unusedSimpArgs false
set_option linter.unusedSectionVars false
namespace Go.Proofs.Ytegdigfcgeoboaa
open Go.RowKit Go.Maps
def Gl.cellsM (g : Gl) : List Value := [.int .i64 g.page, .int .i64 g.lo, .int .i64 g.hi, .int .i64 g.size, .int .i64 g.count, .int .i64 g.report]
def glM : Ty Gl := Ty.flat 6 Gl.cellsM (fun _ => True) (fun _ => rfl)
theorem flat_glM : Flat glM := fun {w w' F F' x cs} h => h
def Fd.cellsC (f : Fd) (A : Option Addr) (c : Nat) : List Value := [.int .u8 f.kind, .int .u8 f.report, .int .i64 f.parent, .slice A f.usages.length c, .int .i64 f.lo, .int .i64 f.hi, .int .i64 f.size, .int .i64 f.count, .int .i64 f.pos, .bool f.const, .bool f.array, .bool f.signed, .bool f.rel]
def fdM : Ty Fd :=
 ⟨13, fun w F f cs => ∃ A c, cs = f.cellsC A c ∧ f.usages.length ≤ c ∧ c ≤ maxLen ∧ Sl u32T w F A f.usages.length f.usages,
  fun {_ _ _ _} ⟨_, _, e, _⟩ => by rw [e]; rfl,
  fun {_ _ _ _ _ _} ⟨A, c, e, h1, h2, h⟩ hB hk => ⟨A, c, e, h1, h2, h.keep hB hk⟩⟩
def BusyM (M S : Nat) (vs vu vf vc : Value) : Nat → Prop := fun b => b ≠ M ∧ b ≠ S ∧ vs.ownBlock ≠ some b ∧ vu.ownBlock ≠ some b ∧ vf.ownBlock ≠ some b ∧ vc.ownBlock ≠ some b
def mC (s : RS) (vf vc : Value) : Array Value := #[vf, vc, .bool s.numbered]
def sC (s : RS) : Array Value := #[.int .i64 s.g.page, .int .i64 s.g.lo, .int .i64 s.g.hi, .int .i64 s.g.size, .int .i64 s.g.count, .int .i64 s.g.report]
structure Md (w : World) (base M S : Nat) (vs vu vf vc : Value) (s : RS) : Prop where
 bm : w.heap[M]? = some (.cells (mC s vf vc) 40 (0, 0))
 bs : w.heap[S]? = some (.cells (sC s) 78 (0, 0))
 st : Own glM 78 base w vs s.stack.length s.stack
 us : Own u32T 27 base w vu s.usages.length s.usages
 fs : Own (fdM.on (BusyM M S vs vu vf vc)) 59 base w vf s.fields.length s.fields
 cs : Own coT 68 base w vc s.colls.length s.colls
 low : M < base ∧ S < base ∧ M ≠ S
structure FrM (base M S : Nat) (w w' : World) : Prop where
 os : w'.os = w.os
 tape : w'.tape = w.tape
 output : w'.output = w.output
 size : w.heap.size ≤ w'.heap.size
 block : ∀ k, k < base → k ≠ M → k ≠ S → w'.heap[k]? = w.heap[k]?
section
variable {base M S : Nat} {w w' w'' : World}
theorem FrM.refl : FrM base M S w w := ⟨rfl, rfl, rfl, Nat.le_refl _, fun _ _ _ _ => rfl⟩
theorem FrM.trans (h : FrM base M S w w') (k : FrM base M S w' w'') : FrM base M S w w'' := ⟨k.os.trans h.os, k.tape.trans h.tape, k.output.trans h.output, Nat.le_trans h.size k.size, fun i h1 h2 h3 => (k.block i h1 h2 h3).trans (h.block i h1 h2 h3)⟩
theorem FrM.kept (h : Kept w w') (hb : base ≤ w.heap.size) : FrM base M S w w' := ⟨h.os, h.tape, h.output, h.size, fun k h1 _ _ => h.block k (by omega)⟩
theorem FrM.below (h : Below base w w') : FrM base M S w w' := ⟨h.os, h.tape, h.output, h.size, fun k h1 _ _ => h.block k h1⟩
theorem FrM.setM (i : Nat) (u : Value) : FrM base M S w (w.setCell ⟨M, i, none⟩ u) := ⟨rfl, rfl, rfl, by rw [World.size_setCell]; exact Nat.le_refl _, fun k _ h2 _ => Below.heap_setCell _ _ _ k h2⟩
theorem FrM.setS (i : Nat) (u : Value) : FrM base M S w (w.setCell ⟨S, i, none⟩ u) := ⟨rfl, rfl, rfl, by rw [World.size_setCell]; exact Nat.le_refl _, fun k _ _ h2 => Below.heap_setCell _ _ _ k h2⟩
end
section
variable {w w' : World} {base M S : Nat} {vs vu vf vc v' : Value} {s s' : RS}
theorem Md.kept (h : Md w base M S vs vu vf vc s) (hk : Kept w w') : Md w' base M S vs vu vf vc s :=
 ⟨heap_kept hk h.bm, heap_kept hk h.bs, h.st.kept hk, h.us.kept hk, h.fs.kept hk, h.cs.kept hk, h.low⟩
theorem Md.setS (h : Md w base M S vs vu vf vc s) (i : Nat) (u : Value) (hc : (sC s).setIfInBounds i u = sC s') (h1 : s'.stack = s.stack) (h2 : s'.usages = s.usages) (h3 : s'.fields = s.fields) (h4 : s'.colls = s.colls) (h5 : s'.numbered = s.numbered) : Md (w.setCell ⟨S, i, none⟩ u) base M S vs vu vf vc s' := by
 obtain ⟨l1, l2, l3⟩ := h.low
 have hg : w.grownBy (w.setCell ⟨S, i, none⟩ u) (some S) := grown_at grown_self i u
 refine ⟨?_, by rw [← hc]; exact heap_store h.bs u, by rw [h1]; exact h.st.grownF flat_glM hg (h.st.above l2), by rw [h2]; exact h.us.grownF flat_u32 hg (h.us.above l2), ?_, by rw [h4]; exact h.cs.grownF flat_co hg (h.cs.above l2), h.low⟩
 ·rw [show mC s' vf vc = mC s vf vc by unfold mC; rw [h5]]
  exact heap_grown hg h.bm (fun e => l3 (by injection e))
 ·rw [h3]
  exact h.fs.grownX hg (fun b e hx => by injection e with e; exact hx.2.1 e) (h.fs.above l2)
theorem Md.setM (h : Md w base M S vs vu vf vc s) (i : Nat) (u : Value) (hc : (mC s vf vc).setIfInBounds i u = mC s' vf vc) (h0 : s'.g = s.g) (h1 : s'.stack = s.stack) (h2 : s'.usages = s.usages) (h3 : s'.fields = s.fields) (h4 : s'.colls = s.colls) : Md (w.setCell ⟨M, i, none⟩ u) base M S vs vu vf vc s' := by
 obtain ⟨l1, l2, l3⟩ := h.low
 have hg : w.grownBy (w.setCell ⟨M, i, none⟩ u) (some M) := grown_at grown_self i u
 refine ⟨by rw [← hc]; exact heap_store h.bm u, ?_, by rw [h1]; exact h.st.grownF flat_glM hg (h.st.above l1), by rw [h2]; exact h.us.grownF flat_u32 hg (h.us.above l1), ?_, by rw [h4]; exact h.cs.grownF flat_co hg (h.cs.above l1), h.low⟩
 ·rw [show sC s' = sC s by unfold sC; rw [h0]]
  exact heap_grown hg h.bs (fun e => l3 (by injection e with e; exact e.symm))
 ·rw [h3]
  exact h.fs.grownX hg (fun b e hx => by injection e with e; exact hx.1 e) (h.fs.above l1)
theorem Md.same (h : Md w base M S vs vu vf vc s) (h0 : s'.g = s.g) (h1 : s'.stack = s.stack) (h2 : s'.usages = s.usages) (h3 : s'.fields = s.fields) (h4 : s'.colls = s.colls) (h5 : s'.numbered = s.numbered) : Md w base M S vs vu vf vc s' := by
 refine ⟨?_, ?_, by rw [h1]; exact h.st, by rw [h2]; exact h.us, by rw [h3]; exact h.fs, by rw [h4]; exact h.cs, h.low⟩
 ·rw [show mC s' vf vc = mC s vf vc by unfold mC; rw [h5]]; exact h.bm
 ·rw [show sC s' = sC s by unfold sC; rw [h0]]; exact h.bs
theorem own_new {v v' : Value} {b n : Nat} (hat : v'.ownBlock = none ∨ v'.ownBlock = v.ownBlock ∨ v'.ownBlock = some n) (hb : b < n) (hv : v.ownBlock ≠ some b) : v'.ownBlock ≠ some b := by
 rcases hat with e | e | e
 ·rw [e]; intro e2; cases e2
 ·rw [e]; exact hv
 ·rw [e]; intro e2; injection e2 with e2; omega
theorem Md.stTo (h : Md w base M S vs vu vf vc s) {l : List Gl} (hg : w.grownBy w' vs.ownBlock) (ho : Own glM 78 base w' v' l.length l) (hat : v'.ownBlock = none ∨ v'.ownBlock = vs.ownBlock ∨ v'.ownBlock = some w.heap.size) :
  Md w' base M S v' vu vf vc { s with stack := l } := by
 obtain ⟨l1, l2, l3⟩ := h.low
 have hX : ∀ b, b < w.heap.size → BusyM M S vs vu vf vc b → BusyM M S v' vu vf vc b := fun b hb ⟨b1, b2, b3, b4, b5, b6⟩ => ⟨b1, b2, own_new hat hb b3, b4, b5, b6⟩
 exact ⟨heap_grown hg h.bm (fun e => h.st.not_at l1 e.symm), heap_grown hg h.bs (fun e => h.st.not_at l2 e.symm), ho, h.us.grownF flat_u32 hg (rows_apart h.us h.st (by decide)), h.fs.step hg (fun b e hx => hx.2.2.1 e.symm) (rows_apart h.fs h.st (by decide)) hX, h.cs.grownF flat_co hg (rows_apart h.cs h.st (by decide)), h.low⟩
theorem Md.usTo (h : Md w base M S vs vu vf vc s) {l : List Int} (hg : w.grownBy w' vu.ownBlock) (ho : Own u32T 27 base w' v' l.length l) (hat : v'.ownBlock = none ∨ v'.ownBlock = vu.ownBlock ∨ v'.ownBlock = some w.heap.size) :
  Md w' base M S vs v' vf vc { s with usages := l } := by
 obtain ⟨l1, l2, l3⟩ := h.low
 have hX : ∀ b, b < w.heap.size → BusyM M S vs vu vf vc b → BusyM M S vs v' vf vc b := fun b hb ⟨b1, b2, b3, b4, b5, b6⟩ => ⟨b1, b2, b3, own_new hat hb b4, b5, b6⟩
 exact ⟨heap_grown hg h.bm (fun e => h.us.not_at l1 e.symm), heap_grown hg h.bs (fun e => h.us.not_at l2 e.symm), h.st.grownF flat_glM hg (rows_apart h.st h.us (by decide)), ho, h.fs.step hg (fun b e hx => hx.2.2.2.1 e.symm) (rows_apart h.fs h.us (by decide)) hX, h.cs.grownF flat_co hg (rows_apart h.cs h.us (by decide)), h.low⟩
theorem Md.csTo (h : Md w base M S vs vu vf vc s) {l : List Co} (hg : w.grownBy w' vc.ownBlock) (ho : Own coT 68 base w' v' l.length l) (hat : v'.ownBlock = none ∨ v'.ownBlock = vc.ownBlock ∨ v'.ownBlock = some w.heap.size) :
  Md (w'.setCell ⟨M, 1, none⟩ v') base M S vs vu vf v' { s with colls := l } := by
 obtain ⟨l1, l2, l3⟩ := h.low
 have hX : ∀ b, b < w.heap.size → BusyM M S vs vu vf vc b → BusyM M S vs vu vf v' b := fun b hb ⟨b1, b2, b3, b4, b5, b6⟩ => ⟨b1, b2, b3, b4, b5, own_new hat hb b6⟩
 have hg2 : w'.grownBy (w'.setCell ⟨M, 1, none⟩ v') (some M) := grown_at grown_self 1 v'
 have hbm : w'.heap[M]? = some (.cells (mC s vf vc) 40 (0, 0)) := heap_grown hg h.bm (fun e => h.cs.not_at l1 e.symm)
 have hfs := h.fs.step hg (X' := BusyM M S vs vu vf v') (fun b e hx => hx.2.2.2.2.2 e.symm) (rows_apart h.fs h.cs (by decide)) hX
 exact ⟨heap_store hbm v', heap_grown hg2 (heap_grown hg h.bs (fun e => h.cs.not_at l2 e.symm)) (fun e => l3 (by injection e with e; exact e.symm)), (h.st.grownF flat_glM hg (rows_apart h.st h.cs (by decide))).grownF flat_glM hg2 (h.st.above l1), (h.us.grownF flat_u32 hg (rows_apart h.us h.cs (by decide))).grownF flat_u32 hg2 (h.us.above l1), hfs.grownX hg2 (fun b e hx => by injection e with e; exact hx.1 e) (h.fs.above l1), ho.grownF flat_co hg2 (ho.above l1), h.low⟩
theorem Md.fsTo (h : Md w base M S vs vu vf vc s) {l : List Fd} (hg : w.grownBy w' vf.ownBlock) (ho : Own (fdM.on (fun b => BusyM M S vs vu vf vc b ∧ b < w.heap.size)) 59 base w' v' l.length l) (hat : v'.ownBlock = none ∨ v'.ownBlock = vf.ownBlock ∨ v'.ownBlock = some w.heap.size) :
  Md (w'.setCell ⟨M, 0, none⟩ v') base M S vs vu v' vc { s with fields := l } := by
 obtain ⟨l1, l2, l3⟩ := h.low
 have hX : ∀ b, BusyM M S vs vu vf vc b ∧ b < w.heap.size → BusyM M S vs vu v' vc b := fun b ⟨⟨b1, b2, b3, b4, b5, b6⟩, hb⟩ => ⟨b1, b2, b3, b4, own_new hat hb b5, b6⟩
 have hg2 : w'.grownBy (w'.setCell ⟨M, 0, none⟩ v') (some M) := grown_at grown_self 0 v'
 have hbm : w'.heap[M]? = some (.cells (mC s vf vc) 40 (0, 0)) := heap_grown hg h.bm (fun e => h.fs.not_at l1 e.symm)
 have hfs := ho.widen (X' := BusyM M S vs vu v' vc) (fun b _ h => hX b h)
 exact ⟨heap_store hbm v', heap_grown hg2 (heap_grown hg h.bs (fun e => h.fs.not_at l2 e.symm)) (fun e => l3 (by injection e with e; exact e.symm)), (h.st.grownF flat_glM hg (rows_apart h.st h.fs (by decide))).grownF flat_glM hg2 (h.st.above l1), (h.us.grownF flat_u32 hg (rows_apart h.us h.fs (by decide))).grownF flat_u32 hg2 (h.us.above l1), hfs.grownX hg2 (fun b e hx => by injection e with e; exact hx.1 e) (ho.above l1), (h.cs.grownF flat_co hg (rows_apart h.cs h.fs (by decide))).grownF flat_co hg2 (h.cs.above l1), h.low⟩
end
end Go.Proofs.Ytegdigfcgeoboaa
namespace Go.Proofs.Ytegdigfcgeoboaa
open Go.RowKit
attribute [local go_sem ↓] Go.wp_at_zero Go.wp_at_succ
set_option maxRecDepth 100000 in
theorem same_eqC (f : Fd) (A1 A2 : Option Addr) (c1 c2 : Nat) (w : World) (hn : f.usages.length ≤ maxLen) (h1 : Sl u32T w (low w.heap.size) A1 f.usages.length f.usages) (h2 : Sl u32T w (low w.heap.size) A2 f.usages.length f.usages) :
  Calls Try.prog 24 #[.agg (f.cellsC A1 c1).toArray, .agg (f.cellsC A2 c2).toArray] w fun e w' => e = .returned (.bool true) ∧ Kept w w' := by
 unfold maxLen at hn
 unfold Fd.cellsC
 obtain ⟨n, hn0⟩ : ∃ n, f.usages.length = n := ⟨_, rfl⟩
 rw [hn0] at hn h1 h2 ⊢
 have Hn := hide hn0
 clear hn0
 go_enter Try.func24, Try.ntmps24
 go_upto_region 3 with (fail)
 refine wp_at (fun W => W.heap[w.heap.size]? = some (.cells #[.int .u8 f.kind, .int .u8 f.report, .int .i64 f.parent, .slice A1 n c1, .int .i64 f.lo, .int .i64 f.hi, .int .i64 f.size, .int .i64 f.count, .int .i64 f.pos, .bool f.const, .bool f.array, .bool f.signed, .bool f.rel] 59 (0, 0)) ∧
   W.heap[w.heap.size + 1]? = some (.cells #[.int .u8 f.kind, .int .u8 f.report, .int .i64 f.parent, .slice A2 n c2, .int .i64 f.lo, .int .i64 f.hi, .int .i64 f.size, .int .i64 f.count, .int .i64 f.pos, .bool f.const, .bool f.array, .bool f.signed, .bool f.rel] 59 (0, 0)) ∧ Kept w W) ⟨heap_past (heap_at _ rfl), heap_at _ (by simp), by go_grown⟩ (fun W hW => ?_)
 obtain ⟨hB1, hB2, hkW⟩ := hW
 have HB1 := hide hB1
 have HB2 := hide hB2
 have HkW := hide hkW
 clear hB1 hB2 hkW
 go_wp2_with fail
 go_loopg [5] n (fun g s5 wr => ∃ i : Nat, i + g = n ∧ s5 = .int .i64 i ∧ Kept W wr)
 case atStart => exact ⟨0, by omega, rfl, Below.refl _ _⟩
 case round =>
  obtain ⟨i, hi, rfl, hk⟩ := hrel
  have Hi := hide hi
  have b1 := heap_kept hk HB1.out
  have b2 := heap_kept hk HB2.out
  have l1 := heap_lt b1
  have l2 := heap_lt b2
  have p0 : wr.cell? ⟨w.heap.size, 0, none⟩ = _ := cell_heap b1 (o := 0) rfl
  have p1 : wr.cell? ⟨w.heap.size, 1, none⟩ = _ := cell_heap b1 (o := 1) rfl
  have p2 : wr.cell? ⟨w.heap.size, 2, none⟩ = _ := cell_heap b1 (o := 2) rfl
  have p3 : wr.cell? ⟨w.heap.size, 3, none⟩ = some (.slice A1 n c1) := cell_heap b1 (o := 3) rfl
  have p4 : wr.cell? ⟨w.heap.size, 4, none⟩ = _ := cell_heap b1 (o := 4) rfl
  have p5 : wr.cell? ⟨w.heap.size, 5, none⟩ = _ := cell_heap b1 (o := 5) rfl
  have p6 : wr.cell? ⟨w.heap.size, 6, none⟩ = _ := cell_heap b1 (o := 6) rfl
  have p7 : wr.cell? ⟨w.heap.size, 7, none⟩ = _ := cell_heap b1 (o := 7) rfl
  have p8 : wr.cell? ⟨w.heap.size, 8, none⟩ = _ := cell_heap b1 (o := 8) rfl
  have p9 : wr.cell? ⟨w.heap.size, 9, none⟩ = _ := cell_heap b1 (o := 9) rfl
  have p10 : wr.cell? ⟨w.heap.size, 10, none⟩ = _ := cell_heap b1 (o := 10) rfl
  have p11 : wr.cell? ⟨w.heap.size, 11, none⟩ = _ := cell_heap b1 (o := 11) rfl
  have p12 : wr.cell? ⟨w.heap.size, 12, none⟩ = _ := cell_heap b1 (o := 12) rfl
  have q0 : wr.cell? ⟨w.heap.size + 1, 0, none⟩ = _ := cell_heap b2 (o := 0) rfl
  have q1 : wr.cell? ⟨w.heap.size + 1, 1, none⟩ = _ := cell_heap b2 (o := 1) rfl
  have q2 : wr.cell? ⟨w.heap.size + 1, 2, none⟩ = _ := cell_heap b2 (o := 2) rfl
  have q3 : wr.cell? ⟨w.heap.size + 1, 3, none⟩ = some (.slice A2 n c2) := cell_heap b2 (o := 3) rfl
  have q4 : wr.cell? ⟨w.heap.size + 1, 4, none⟩ = _ := cell_heap b2 (o := 4) rfl
  have q5 : wr.cell? ⟨w.heap.size + 1, 5, none⟩ = _ := cell_heap b2 (o := 5) rfl
  have q6 : wr.cell? ⟨w.heap.size + 1, 6, none⟩ = _ := cell_heap b2 (o := 6) rfl
  have q7 : wr.cell? ⟨w.heap.size + 1, 7, none⟩ = _ := cell_heap b2 (o := 7) rfl
  have q8 : wr.cell? ⟨w.heap.size + 1, 8, none⟩ = _ := cell_heap b2 (o := 8) rfl
  have q9 : wr.cell? ⟨w.heap.size + 1, 9, none⟩ = _ := cell_heap b2 (o := 9) rfl
  have q10 : wr.cell? ⟨w.heap.size + 1, 10, none⟩ = _ := cell_heap b2 (o := 10) rfl
  have q11 : wr.cell? ⟨w.heap.size + 1, 11, none⟩ = _ := cell_heap b2 (o := 11) rfl
  have q12 : wr.cell? ⟨w.heap.size + 1, 12, none⟩ = _ := cell_heap b2 (o := 12) rfl
  clear hi b1 b2
  by_cases hlt : i < n
  ·obtain ⟨x, b, off, cs, hx, rfl, hbb, ⟨rfl, _⟩, hcs⟩ := (h1.kept (HkW.out.trans' hk)).at hlt
   obtain ⟨x', b', off', cs', hx', rfl, hbb', ⟨rfl, _⟩, hcs'⟩ := (h2.kept (HkW.out.trans' hk)).at hlt
   obtain rfl : x' = x := Option.some.inj (hx'.symm.trans hx)
   have x0 : wr.cell? ⟨b, off + i, none⟩ = some (.int .u32 x') := by have := hcs 0 _ rfl; simpa [u32T, Ty.flat] using this
   have y0 : wr.cell? ⟨b', off' + i, none⟩ = some (.int .u32 x') := by have := hcs' 0 _ rfl; simpa [u32T, Ty.flat] using this
   have hbl : b < wr.heap.size := hbb
   have hbl' : b' < wr.heap.size := hbb'
   have hi0 : (0 : Int) ≤ (i : Int) := by omega
   have hlt' : (i : Int) < (n : Int) := by omega
   clear hx hx' hcs hcs'
   go_wp2_with fail
   go_quiet (fail)
   go_wp2_with fail
   go_roundg (gk - 1)
   case measure => have := Hi.out; omega
   case rel => exact ⟨i + 1, by have := Hi.out; omega, by go_num, below_drewN hk _⟩
  ·have hge : (n : Int) ≤ (i : Int) := by omega
   go_wp2_with fail
   go_ret
   exact ⟨rfl, HkW.out.trans' hk⟩
theorem sl_fdM {w : World} {F : Nat → Prop} {A : Option Addr} {n : Nat} {l : List Fd} (h : Sl fdT w F A n l) : Sl fdM w F A n l := by
 refine ⟨h.1, fun i x hx => ?_⟩
 obtain ⟨b, off, cs, e, hb, ⟨A', hc, hu, hs⟩, hr⟩ := h.2 i x hx
 exact ⟨b, off, cs, e, hb, ⟨A', _, hc, Nat.le_refl _, hu, hs⟩, hr⟩
def Ins (ys : List Int) (i j : Nat) : Prop := ∀ a b x y, a < b → b ≤ i → b ≠ j → ys[a]? = some x → ys[b]? = some y → x ≤ y
def swapL (ys : List Int) (j : Nat) (x y : Int) : List Int := (ys.set j x).set (j - 1) y
theorem swap_perm {ys : List Int} {j : Nat} {x y : Int} (hj : 0 < j) (hy : ys[j]? = some y) (hx : ys[j - 1]? = some x) : (swapL ys j x y).Perm ys := by
 obtain ⟨h1, e1⟩ := List.getElem?_eq_some_iff.1 hy
 obtain ⟨h2, e2⟩ := List.getElem?_eq_some_iff.1 hx
 unfold swapL
 have := List.set_set_perm h1 h2
 rw [e2, e1] at this
 exact this
theorem swap_ins {ys : List Int} {i j : Nat} {x y : Int} (hj : 0 < j) (hji : j ≤ i) (hy : ys[j]? = some y) (hx : ys[j - 1]? = some x) (hlt : y < x) (h : Ins ys i j) : Ins (swapL ys j x y) i (j - 1) := by
 obtain ⟨h1, e1⟩ := List.getElem?_eq_some_iff.1 hy
 obtain ⟨h2, e2⟩ := List.getElem?_eq_some_iff.1 hx
 have hg : ∀ k, (swapL ys j x y)[k]? = if k = j - 1 then some y else if k = j then some x else ys[k]? := by
  intro k
  unfold swapL
  rw [List.getElem?_set, List.getElem?_set]
  by_cases ha : k = j - 1
  ·rw [if_pos ha.symm, if_pos ha, if_pos (by simp; omega)]
  ·rw [if_neg (fun e => ha e.symm), if_neg ha]
   by_cases hb : k = j
   ·rw [if_pos hb.symm, if_pos hb, if_pos h1]
   ·rw [if_neg (fun e => hb e.symm), if_neg hb]
 intro a b u v hab hbi hbj hu hv
 rw [hg] at hu hv
 rw [if_neg hbj] at hv
 by_cases hb : b = j
 ·rw [if_pos hb] at hv
  injection hv with hv
  subst hv hb
  by_cases ha : a = b - 1
  ·rw [if_pos ha] at hu; injection hu with hu; omega
  ·rw [if_neg ha, if_neg (by omega)] at hu
   exact h a (b - 1) u x (by omega) (by omega) (by omega) hu hx
 ·rw [if_neg hb] at hv
  by_cases ha : a = j - 1
  ·rw [if_pos ha] at hu
   injection hu with hu
   subst hu
   exact h j b y v (by omega) hbi hb hy hv
  ·rw [if_neg ha] at hu
   by_cases ha2 : a = j
   ·rw [if_pos ha2] at hu
    injection hu with hu
    subst hu
    exact h (j - 1) b x v (by omega) hbi hb hx hv
   ·rw [if_neg ha2] at hu
    exact h a b u v hab hbi hb hu hv
theorem ins_stop {ys : List Int} {i j : Nat} (h : Ins ys i j) (hs : j = 0 ∨ ∀ x y, ys[j - 1]? = some x → ys[j]? = some y → x ≤ y) (hji : j ≤ i) (hi : i < ys.length) : Ins ys (i + 1) (i + 1) := by
 intro a b x y hab hbi hbn hx hy
 by_cases hb : b = j
 ·subst hb
  rcases hs with hs | hs
  ·omega
  ·by_cases ha : a = b - 1
   ·subst ha; exact hs x y hx hy
   ·have hb1 : b - 1 < ys.length := by omega
    have h1 := hs _ y (List.getElem?_eq_getElem hb1) hy
    have h2 := h a (b - 1) x _ (by omega) (by omega) (by omega) hx (List.getElem?_eq_getElem hb1)
    omega
 ·exact h a b x y hab (by omega) hb hx hy
theorem ins_start (ys : List Int) : Ins ys 1 1 := by
 intro a b x y hab hb hbn _ _
 omega
theorem ins_sorted {ys : List Int} (h : Ins ys ys.length ys.length) : ys.Pairwise (· ≤ ·) := by
 rw [List.pairwise_iff_getElem]
 intro i j hi hj hij
 exact h i j _ _ hij (by omega) (by omega) (List.getElem?_eq_getElem hi) (List.getElem?_eq_getElem hj)
def RowU (w : World) (g : Nat) (xs : List Int) : Prop := ∃ cs : Array Value, w.heap[g]? = some (.cells cs 5 (0, 0)) ∧ ∀ (i : Nat) (x : Int), xs[i]? = some x → cs[i]? = some (Value.int .u8 x)
theorem RowU.at {w : World} {g : Nat} {xs : List Int} (h : RowU w g xs) {i : Nat} {x : Int} (hx : xs[i]? = some x) : w.cell? ⟨g, i, none⟩ = some (Value.int .u8 x) ∧ w.frozen? ⟨g, i, none⟩ = false := by
 obtain ⟨cs, h1, h2⟩ := h
 exact ⟨cell_heap h1 (h2 i x hx), frozen_heap h1⟩
theorem RowU.lt {w : World} {g : Nat} {xs : List Int} (h : RowU w g xs) : g < w.heap.size := by
 obtain ⟨cs, h1, h2⟩ := h
 exact heap_lt h1
theorem RowU.put {w : World} {g : Nat} {xs : List Int} (h : RowU w g xs) {i : Nat} (hi : i < xs.length) (x : Int) : RowU (w.setCell ⟨g, i, none⟩ (.int .u8 x)) g (xs.set i x) := by
 obtain ⟨cs, h1, h2⟩ := h
 refine ⟨_, heap_store h1 _, fun k y hy => ?_⟩
 rw [List.getElem?_set] at hy
 by_cases hk : i = k
 ·subst hk
  rw [if_pos rfl, if_pos hi] at hy
  injection hy with hy
  subst hy
  obtain ⟨h3, _⟩ := Array.getElem?_eq_some_iff.1 (h2 i _ (List.getElem?_eq_getElem hi))
  simp [h3]
 ·rw [if_neg hk] at hy
  rw [Array.getElem?_setIfInBounds_ne hk]
  exact h2 k y hy
theorem RowU.drewN {w : World} {g : Nat} {xs : List Int} (h : RowU w g xs) (n : Nat) : RowU (w.drewN n) g xs := by
 obtain ⟨cs, h1, h2⟩ := h
 exact ⟨cs, h1, h2⟩
theorem grown_drewN {w w' : World} {row : Option Nat} (h : w.grownBy w' row) (n : Nat) : w.grownBy (w'.drewN n) row := ⟨h.os, h.tape, h.output, h.size, h.block⟩
theorem less70 (x y : Int) (w : World) : Calls Try.prog 70 #[.int .u8 x, .int .u8 y] w fun e w' => e = .returned (.bool (decide (x < y))) ∧ w' = w := by
 have hnan : ∀ z : Int, Calls Try.prog 83 #[.int .u8 z] w fun e w' => e = .returned (.bool false) ∧ w = w' := by
  intro z
  go_enter Try.func83, Try.ntmps83
  go_wp2
  go_ret
  exact ⟨by simp, rfl⟩
 go_enter Try.func70, Try.ntmps70
 go_wp2_with (go_at_call 83; refine (hnan _).mono ?_; rintro e w1 ⟨rfl, rfl⟩)
 go_ret
 exact ⟨by simp, rfl⟩
set_option maxRecDepth 100000 in
theorem ins64 (g n c : Nat) (xs : List Int) (w : World) (hn : n ≤ 12) (hnc : n ≤ c) (hx : xs.length = n) (hr : RowU w g xs) :
  Calls Try.prog 64 #[.slice (some ⟨g, 0, none⟩) n c, .int .i64 0, .int .i64 n] w fun e w' => e = .returned (.tuple #[]) ∧ ∃ ys : List Int, ys.Perm xs ∧ ys.Pairwise (· ≤ ·) ∧ RowU w' g ys ∧ w.grownBy w' (some g) := by
 have Hx := hide hx
 clear hx
 go_enter Try.func64, Try.ntmps64
 go_wp2
 go_loopg [6] n (fun gg s6 wr => ∃ (i : Nat) (ys : List Int), i + gg = n + 1 ∧ 1 ≤ i ∧ s6 = .int .i64 i ∧ ys.Perm xs ∧ (n = 0 ∨ (i ≤ n ∧ Ins ys i i)) ∧ RowU wr g ys ∧ w.grownBy wr (some g))
 case atStart => exact ⟨1, xs, by omega, by omega, rfl, List.Perm.refl _, (by by_cases h : n = 0; exact .inl h; exact .inr ⟨by omega, ins_start xs⟩), hr, grown_self⟩
 case round =>
  obtain ⟨i, ys, hi, hi1, rfl, hp, hins, hrr, hg⟩ := hrel
  have hyl : ys.length = n := hp.length_eq.trans Hx.out
  have Hi := hide hi
  clear hi
  by_cases hlt : i < n
  ·have hlt' : (i : Int) < (n : Int) := by omega
   have hn0 : ¬ n = 0 := by omega
   have hins' : Ins ys i i := by rcases hins with h | h; exact absurd h hn0; exact h.2
   have Hins := hide hins'
   have Hp := hide hp
   clear hins hins' hp
   go_wp2_with fail
   obtain ⟨wo, rfl⟩ : ∃ wo : World, wo = wr := ⟨_, rfl⟩
   obtain ⟨go, rfl⟩ : ∃ g : Nat, g = gk := ⟨_, rfl⟩
   go_loopg [7] i (fun gg s7 wr => ∃ (j : Nat) (ys : List Int), j = gg ∧ s7 = .int .i64 j ∧ j ≤ i ∧ ys.Perm xs ∧ Ins ys i j ∧ RowU wr g ys ∧ w.grownBy wr (some g))
   case atStart => exact ⟨i, ys, rfl, rfl, Nat.le_refl _, Hp.out, Hins.out, hrr, hg⟩
   case round =>
    clear Hp Hins hrr hg hyl
    obtain ⟨j, ys, hj, rfl, hji, hp, hins, hrr, hg⟩ := hrel
    have hyl : ys.length = n := hp.length_eq.trans Hx.out
    have Hj := hide hj
    have Hp := hide hp
    have Hins := hide hins
    clear hj hp hins
    by_cases hj0 : j = 0
    ·subst hj0
     go_upto_region 4 with (fail)
     go_quiet (fail)
     go_wp2_with fail
     go_roundg (go - 1)
     case measure => have := Hi.out; omega
     case rel => exact ⟨i + 1, ys, by have := Hi.out; omega, by omega, by go_num, Hp.out, .inr ⟨by omega, ins_stop Hins.out (.inl rfl) (by omega) (by omega)⟩, hrr.drewN _, grown_drewN hg _⟩
    ·obtain ⟨k, hk⟩ : ∃ k : Nat, j = k + 1 := ⟨j - 1, by omega⟩
     obtain ⟨y, hy⟩ : ∃ y, ys[j]? = some y := ⟨_, List.getElem?_eq_getElem (by omega)⟩
     obtain ⟨x, hx⟩ : ∃ x, ys[k]? = some x := ⟨_, List.getElem?_eq_getElem (by omega)⟩
     obtain ⟨c1, f1⟩ := hrr.at hy
     obtain ⟨c0, f0⟩ := hrr.at hx
     have hgl := hrr.lt
     have hwr : IntKind.i64.wrap ((j : Int) - 1) = (k : Int) := by rw [IntKind.wrap_i64]; omega
     have hj0' : (0 : Int) < (j : Int) := by omega
     have hj0n : 0 < j := by omega
     have hjk : ¬ j = k := by omega
     have hkj : ¬ k = j := by omega
     have hjn : (j : Int) < (n : Int) := by omega
     have hkn : (k : Int) < (n : Int) := by omega
     have hjj : (0 : Int) ≤ (j : Int) := by omega
     have hkk : (0 : Int) ≤ (k : Int) := by omega
     have Hk := hide hk
     have Hx' := hide hx
     have Hy := hide hy
     clear hk hx hy
     go_upto_region 4 with (fail)
     by_cases hyx : y < x
     ·go_quiet ((go_at_call 70; exact Calls.quiet_of_same (less70 _ _ _)))
      go_upto_region 6 with (fail)
      go_region
      all_goals
       go_wp2_with fail
       go_roundg (gk - 1)
      case measure => have := Hj.out; omega
      case rel =>
       have hk := Hk.out
       have hsw := swap_perm (by omega) Hy.out (show ys[j - 1]? = some x by rw [show j - 1 = k by omega]; exact Hx'.out)
       have hsi := swap_ins (by omega) hji Hy.out (show ys[j - 1]? = some x by rw [show j - 1 = k by omega]; exact Hx'.out) hyx Hins.out
       have h1 := ((hrr.drewN (nq + 1)).put (i := j) (by omega) x).put (i := k) (by simp; omega) y
       unfold swapL at hsw hsi
       rw [show j - 1 = k by omega] at hsw hsi
       exact ⟨k, _, by have := Hj.out; omega, by go_num, by omega, hsw.trans Hp.out, hsi, h1, grown_at (grown_at (grown_drewN hg _) _ _) _ _⟩
     ·have hxy : x ≤ y := by omega
      have hd : decide (y < x) = false := by simpa using hyx
      go_quiet ((go_at_call 70; exact Calls.quiet_of_same (less70 _ _ _)))
      go_wp2_with fail
      go_roundg (go - 1)
      case measure => have := Hi.out; omega
      case rel => exact ⟨i + 1, ys, by have := Hi.out; omega, by omega, by go_num, Hp.out, .inr ⟨by omega, ins_stop Hins.out (.inr (fun a b ha hb => by have h1 := Hk.out; have h2 := Hx'.out; have h3 := Hy.out; subst h1; rw [Nat.add_sub_cancel] at ha; rw [ha] at h2; rw [hb] at h3; injection h2 with h2; injection h3 with h3; omega)) hji (by omega)⟩, hrr.drewN _, grown_drewN hg _⟩
  ·have hlt' : (n : Int) ≤ (i : Int) := by omega
   go_wp2_with fail
   go_end0
   refine ⟨rfl, ys, hp, ?_, hrr, hg⟩
   by_cases hn0 : n = 0
   ·rw [List.eq_nil_of_length_eq_zero (hyl.trans hn0)]; exact List.Pairwise.nil
   ·rcases hins with h | h
    ·exact absurd h hn0
    ·have h1 : i = n := by have := Hi.out; omega
     rw [h1, ← hyl] at h
     exact ins_sorted h.2
set_option maxRecDepth 100000 in
theorem len_small (n : Nat) (hn : n ≤ 12) (w : World) : Calls Try.prog 59 #[.int .u64 n] w fun e w' => ∃ r, e = .returned (.int .i64 r) ∧ w = w' := by
 have h67 : ∀ w : World, Calls Try.prog 74 #[.int .u64 n] w fun e w' => ∃ r, e = .returned (.int .i64 r) ∧ w = w' := by
  intro w
  rcases (by omega : n = 0 ∨ n = 1 ∨ n = 2 ∨ n = 3 ∨ n = 4 ∨ n = 5 ∨ n = 6 ∨ n = 7 ∨ n = 8 ∨ n = 9 ∨ n = 10 ∨ n = 11 ∨ n = 12) with rfl | rfl | rfl | rfl | rfl | rfl | rfl | rfl | rfl | rfl | rfl | rfl | rfl
  all_goals
   go_enter Try.func74, Try.ntmps74
   go_wp2
   go_ret
   exact ⟨_, rfl, rfl⟩
 go_enter Try.func59, Try.ntmps59
 go_wp2_with (go_at_call 74; refine (h67 _).mono ?_; rintro e w1 ⟨r, rfl, rfl⟩)
 go_ret
 exact ⟨r, rfl, rfl⟩
set_option maxRecDepth 100000 in
theorem pdq58 (g n c : Nat) (r : Int) (xs : List Int) (w : World) (hn : n ≤ 12) (hnc : n ≤ c) (hx : xs.length = n) (hr : RowU w g xs) :
  Calls Try.prog 58 #[.slice (some ⟨g, 0, none⟩) n c, .int .i64 0, .int .i64 n, .int .i64 r] w fun e w' => e = .returned (.tuple #[]) ∧ ∃ ys : List Int, ys.Perm xs ∧ ys.Pairwise (· ≤ ·) ∧ RowU w' g ys ∧ w.grownBy w' (some g) := by
 have h := ins64 g n c xs w hn hnc hx hr
 have hn' : (n : Int) ≤ 12 := by omega
 clear hr hx
 go_enter Try.func58, Try.ntmps58
 go_wp2_with fail
 go_loopg [1, 2] 0 (fun g s1 s2 wr => s1 = .int .i64 0 ∧ s2 = .int .i64 n ∧ w = wr)
 case atStart => exact ⟨rfl, rfl, rfl⟩
 case round =>
  obtain ⟨rfl, rfl, rfl⟩ := hrel
  go_wp2_with (go_at_call 64; refine h.mono ?_; rintro e w1 ⟨rfl, ys, h1, h2, h3, h4⟩)
  refine bodyPost_ret (results_none rfl _ _ _) rfl ?_
  exact ⟨rfl, ys, h1, h2, h3, h4⟩
set_option maxRecDepth 100000 in
theorem sort35 (g n c : Nat) (xs : List Int) (w : World) (hn : n ≤ 12) (hnc : n ≤ c) (hx : xs.length = n) (hr : RowU w g xs) :
  Calls Try.prog 35 #[.slice (some ⟨g, 0, none⟩) n c] w fun e w' => e = .returned (.tuple #[]) ∧ ∃ ys : List Int, ys.Perm xs ∧ ys.Pairwise (· ≤ ·) ∧ RowU w' g ys ∧ w.grownBy w' (some g) := by
 have h := fun r => pdq58 g n c r xs w hn hnc hx hr
 clear hr hx
 go_enter Try.func35, Try.ntmps35
 go_wp2_with (first
  | (go_at_call 59; refine (len_small n hn _).mono ?_; rintro e w1 ⟨r, rfl, rfl⟩)
  | (go_at_call 58; refine (h _).mono ?_; rintro e w2 ⟨rfl, ys, h1, h2, h3, h4⟩))
 go_end0
 exact ⟨rfl, ys, h1, h2, h3, h4⟩
set_option maxRecDepth 100000 in
theorem sort35_none (w : World) : Calls Try.prog 35 #[.slice none 0 0] w fun e w' => e = .returned (.tuple #[]) ∧ w = w' := by
 have hi : Calls Try.prog 64 #[.slice none 0 0, .int .i64 0, .int .i64 0] w fun e w' => e = .returned (.tuple #[]) ∧ w = w' := by
  go_enter Try.func64, Try.ntmps64
  go_wp2_with fail
  go_loopg [6] 0 (fun g s6 wr => s6 = .int .i64 1 ∧ w = wr)
  case atStart => exact ⟨rfl, rfl⟩
  case round =>
   obtain ⟨rfl, rfl⟩ := hrel
   go_wp2_with fail
   go_end0
   exact ⟨rfl, rfl⟩
 have hp : ∀ r : Int, Calls Try.prog 58 #[.slice none 0 0, .int .i64 0, .int .i64 0, .int .i64 r] w fun e w' => e = .returned (.tuple #[]) ∧ w = w' := by
  intro r
  go_enter Try.func58, Try.ntmps58
  go_wp2_with fail
  go_loopg [1, 2] 0 (fun g s1 s2 wr => s1 = .int .i64 0 ∧ s2 = .int .i64 0 ∧ w = wr)
  case atStart => exact ⟨rfl, rfl, rfl⟩
  case round =>
   obtain ⟨rfl, rfl, rfl⟩ := hrel
   go_wp2_with (go_at_call 64; refine hi.mono ?_; rintro e w1 ⟨rfl, rfl⟩)
   refine bodyPost_ret (results_none rfl _ _ _) rfl ?_
   exact ⟨rfl, rfl⟩
 go_enter Try.func35, Try.ntmps35
 go_wp2_with (first
  | (go_at_call 59; refine (len_small 0 (by decide) _).mono ?_; rintro e w1 ⟨r, rfl, rfl⟩)
  | (go_at_call 58; refine (hp _).mono ?_; rintro e w2 ⟨rfl, rfl⟩))
 go_end0
 exact ⟨rfl, rfl⟩
set_option maxRecDepth 100000 in
theorem index57 (A : Option Addr) (n c : Nat) (l : List Int) (u : Int) (w : World) (hn : n ≤ maxLen) (hl : Sl u8T w (low w.heap.size) A n l) :
  Calls Try.prog 57 #[.slice A n c, .int .u8 u] w fun e w' => (∃ i, e = .returned (.int .i64 i) ∧ IdxIs l u i) ∧ w = w' := by
 unfold maxLen at hn
 go_enter Try.func57, Try.ntmps57
 go_wp2_with fail
 go_loopg [8] n (fun g s8 wr => ∃ i : Nat, i + g = n ∧ s8 = .int .i64 i ∧ wr = w ∧ ∀ j, j < i → l[j]? ≠ some u)
 case atStart => exact ⟨0, by omega, rfl, rfl, fun j hj => by omega⟩
 case round =>
  obtain ⟨i, hi, rfl, rfl, hno⟩ := hrel
  have Hno := hide hno
  have Hi := hide hi
  clear hno hi
  by_cases hlt : i < n
  ·obtain ⟨x, b, off, cs, hx, rfl, hbb, ⟨rfl, _⟩, hcs⟩ := hl.at hlt
   have x0 : wr.cell? ⟨b, off + i, none⟩ = some (.int .u8 x) := by have := hcs 0 _ rfl; simpa [u8T, Ty.flat] using this
   have hbl : b < wr.heap.size := hbb
   have hi0 : (0 : Int) ≤ (i : Int) := by omega
   have hlt' : (i : Int) < (n : Int) := by omega
   have Hx := hide hx
   clear hx hcs
   by_cases he : u = x
   ·subst he
    go_wp2_with fail
    go_ret
    exact ⟨⟨i, rfl, .inl ⟨i, rfl, Hx.out, Hno.out⟩⟩, rfl⟩
   ·have he1 : (u == x) = false := by simpa using he
    go_wp2_with fail
    go_roundg (gk - 1)
    case measure => have := Hi.out; omega
    case rel =>
     refine ⟨i + 1, by have := Hi.out; omega, by go_num, rfl, fun j hj => ?_⟩
     by_cases e : j = i
     ·subst e
      rw [Hx.out]
      intro h
      exact he (by injection h with h; exact h.symm)
     ·exact Hno.out j (by omega)
  ·have hge : (n : Int) ≤ (i : Int) := by omega
   go_wp2_with fail
   go_ret
   refine ⟨⟨-1, rfl, .inr ⟨rfl, fun hm => ?_⟩⟩, rfl⟩
   obtain ⟨j, hj, e⟩ := List.getElem_of_mem hm
   have hln := hl.1
   have hii := Hi.out
   exact Hno.out j (by omega) (by rw [List.getElem?_eq_getElem hj, e])
set_option maxRecDepth 100000 in
theorem contains34 (A : Option Addr) (n c : Nat) (l : List Int) (u : Int) (w : World) (hn : n ≤ maxLen) (hl : Sl u8T w (low w.heap.size) A n l) :
  Calls Try.prog 34 #[.slice A n c, .int .u8 u] w fun e w' => e = .returned (.bool (decide (u ∈ l))) ∧ w = w' := by
 have h := index57 A n c l u w hn hl
 have hd : ∀ i, IdxIs l u i → decide (0 ≤ i) = decide (u ∈ l) := by
  rintro i (⟨k, rfl, hk, _⟩ | ⟨rfl, h2⟩)
  ·rw [decide_eq_true (by omega : (0 : Int) ≤ (k : Int)), decide_eq_true (List.mem_of_getElem? hk)]
  ·rw [decide_eq_false h2]; rfl
 go_enter Try.func34, Try.ntmps34
 go_wp2_with (go_at_call 57; refine h.mono ?_; rintro e w1 ⟨⟨i, rfl, hi⟩, rfl⟩; have hd2 := hd i hi)
 go_ret
 exact ⟨by rw [← hd2]; rfl, rfl⟩
end Go.Proofs.Ytegdigfcgeoboaa
