/- The law of the chapter on reports, part 4: Sc Rc Rd Re Rf. -/
import Derived.Test.YtegdigfcgeoboaaK3
import Derived.Shelf.Abstract
import Derived.Shelf.RegionOpen
import Derived.OwnWalkIn
import Derived.TacticsInMore
import Derived.LoopNIn
import Derived.LoopIn
import Derived.Sort.LoopGhostIn
import Derived.Maps.OwnIn
import Derived.RangeFuncNested
import Derived.RangeFuncBound
import Derived.RangeFuncCalls
import Derived.RangeFuncLeaves
import Derived.RangeFuncBox
import Derived.BigQuiet
set_option maxHeartbeats 16000000
set_option linter.unusedVariables false
set_option linter.unusedSimpArgs false
set_option linter.unusedSectionVars false
namespace Go.Proofs.Ytegdigfcgeoboaa
open Go.RowKit Go.Shelf
structure KeepsA (B0 Bb : Nat) (A B : World) : Prop where
 low : Below B0 A B
 box : B.heap[Bb]? = A.heap[Bb]?
theorem KeepsA.trans {B0 Bb : Nat} {A B C : World} (h : KeepsA B0 Bb A B) (k : KeepsA B0 Bb B C) : KeepsA B0 Bb A C := ⟨h.low.trans k.low, k.box.trans h.box⟩
theorem keepsA_put {B0 Bb l : Nat} {W : World} {o : Obj} (h0 : B0 ≤ l) (hb : Bb ≠ l) : KeepsA B0 Bb W (W.putObj l o) :=
 ⟨⟨rfl, rfl, rfl, by simp, fun k hk => World.putObj_heap_other (by omega)⟩, World.putObj_heap_other hb⟩
def itV (x : It) : Value := .agg #[.int .u8 x.ty, .int .u8 x.tg, .int .i64 x.size, .int .u32 x.data]
def itC (x : It) : Obj := .cells #[.int .u8 x.ty, .int .u8 x.tg, .int .i64 x.size, .int .u32 x.data] 29
def Stepper (n : Nat) (lb : Array Value) (L : List It) (B0 Bb : Nat) (w : World) : Prop :=
 ∀ (l : Nat) (J Jx : List It → World → Prop) (W : World), KeepsA B0 Bb w W → w.heap.size ≤ W.heap.size → AbidesFrom W.heap.size J → (∀ pre A v, J pre A → J pre (A.setCell ⟨Bb, 0, none⟩ v)) →
  (∀ pre x W1, J pre W1 → pre ++ [x] <+: L → YieldAt Fence.wide (n - 1) Try.prog l #[itV x] W1 fun e W' => (e = .returned (.bool true) ∧ J (pre ++ [x]) W' ∧ KeepsA B0 Bb W1 W') ∨ (e = .returned (.bool false) ∧ Jx (pre ++ [x]) W')) →
  J [] W → CallsIn Fence.wide n Try.prog 37 (#[.func (.yield l) #[] #[]] ++ lb) W fun e W' => (∃ v, e = .returned v) ∧ (J L W' ∨ ∃ pre, pre <+: L ∧ Jx pre W')
theorem range_items {n : Nat} {L : List It} {lb : Array Value} {g : Operand} {p : Tmp} {assign body : Code} {Q : Exit → Act → World → Prop} {a : Act} {w : World} {B0 Bb : Nat}
  (hg : a.eval g = .func (.func 37) #[] lb) (hwin : Stepper (n - 1) lb L B0 Bb w) (hB0 : B0 ≤ w.heap.size) (hb : Bb < w.heap.size)
  (I Ix : List It → World → Prop) (hI : OwnFrom w.heap.size I) (hIx : OwnFrom w.heap.size Ix) (hIb : ∀ pre A v, I pre A → I pre (A.setCell ⟨Bb, 0, none⟩ v)) (h0 : I [] w) (a₁ : It → Nat → Act)
  (hassign : ∀ (l : Nat) (x : It) (W : World) (K : Act → World → Prop), K (a₁ x W.heap.size) (W.alloc (itC x)) →
   assign.wpIn (Fence.wide.inRound l) (n - 1 - 1) Try.prog (Exit.then K (fun _ _ _ => False)) { tmps := a.tmps.setIfInBounds p (itV x), defers := [] } W)
  (hbody : ∀ (l : Nat) (pre : List It) (x : It) (W₀ W : World), w.heap.size ≤ W₀.heap.size → I pre W₀ → I pre W →
   W.heap[W₀.heap.size]? = some (itC x) → pre ++ [x] <+: L →
   body.wpIn (Fence.wide.inRound l) (n - 1 - 1) Try.prog (fun e _ W' => KeepsFrom w.heap.size W W' ∧ ((e = .normal ∧ KeepsA B0 Bb W W' ∧ I (pre ++ [x]) W') ∨ (e = .ret ∧ Ix (pre ++ [x]) W'))) (a₁ x W₀.heap.size) W)
  (hdone : ∀ (D : Nat) (W : World), w.heap.size ≤ D → I L W → W.heap[D]? = some (.deferred (some [])) → Q .normal { a with defers := { target := .collected D, args := #[] } :: a.defers } W)
  (hstop : ∀ (D : Nat) (pre : List It) (W : World), w.heap.size ≤ D → pre <+: L → Ix pre W → W.heap[D]? = some (.deferred (some [])) → Code.wpIn Fence.wide n Try.prog .ret Q { a with defers := { target := .collected D, args := #[] } :: a.defers } W) :
  (Code.rangeFunc g #[p] assign body).wpIn Fence.wide n Try.prog Q a w := by
 refine wpIn_rangeFunc fun fn hfn => ?_
 have hd : ∀ (o o' : Obj), Below w.heap.size w ((w.alloc o).alloc o') := fun o o' => ((Below.refl _ w).alloc (Nat.le_refl _) o).alloc (by simp) o'
 obtain ⟨R, hR⟩ : ∃ R : LoopState → Option Code → Loop, R = fun st pe => { state := st, pending := pe, fn, tmps := a.tmps, params := #[p], assign, body, defers := w.heap.size } := ⟨_, rfl⟩
 let V : LoopState → Option Code → World → Prop := fun st pe W => W.heap[w.heap.size + 1]? = some (.loop (R st pe)) ∧ W.heap[w.heap.size]? = some (.deferred (some []))
 have hVput : ∀ st st' pe pe' W, V st pe W → V st' pe' (W.putObj (w.heap.size + 1) (.loop (R st' pe'))) := fun st st' pe pe' W h => ⟨World.putObj_heap_same (heap_lt h.1), (World.putObj_heap_other (by omega)).trans h.2⟩
 have hVkeep : ∀ st pe W W', V st pe W → KeepsFrom w.heap.size W W' → V st pe W' := fun st pe W W' h k => ⟨k.same _ _ (by omega) h.1 rfl, k.same _ _ (Nat.le_refl _) h.2 rfl⟩
 have hVgrow : ∀ st pe A B row, V st pe A → A.grownBy B row → (∀ r, row = some r → ∃ o : Obj, A.heap[r]? = some o ∧ o.isWalk = true) → V st pe B := fun st pe A B row h hg' hr =>
  ⟨(grownBy_keeps hg' hr h.1 rfl).trans h.1, (grownBy_keeps hg' hr h.2 rfl).trans h.2⟩
 have hVset : ∀ st pe A v, V st pe A → V st pe (A.setCell ⟨Bb, 0, none⟩ v) := fun st pe A v h => ⟨heap_other h.1 (by show w.heap.size + 1 ≠ Bb; omega), heap_other h.2 (by show w.heap.size ≠ Bb; omega)⟩
 have hIput : ∀ pre st pe st' pe' W, I pre W → V st pe W → I pre (W.putObj (w.heap.size + 1) (.loop (R st' pe'))) := fun pre st pe st' pe' W hi hv => hI.putObj _ hi (by omega) hv.1 rfl
 have hIxput : ∀ pre st pe st' pe' W, Ix pre W → V st pe W → Ix pre (W.putObj (w.heap.size + 1) (.loop (R st' pe'))) := fun pre st pe st' pe' W hi hv => hIx.putObj _ hi (by omega) hv.1 rfl
 have hKput : ∀ W st pe, KeepsA B0 Bb W (W.putObj (w.heap.size + 1) (.loop (R st pe))) := fun W st pe => keepsA_put (by omega) (by omega)
 have hrun := run_enterLoop_outer (P := Try.prog) (w := w) fn a.tmps #[p] assign body
 rw [show ({ state := .ready, pending := none, fn, tmps := a.tmps, params := #[p], assign, body, defers := w.heap.size } : Loop) = R .ready none by rw [hR]] at hrun
 have hbW := hd (.deferred (some [])) (.loop (R .ready none))
 have hIW := hI.alloc (.loop (R .ready none)) (hI.alloc (.deferred (some [])) h0)
 have hzW : ((w.alloc (.deferred (some []))).alloc (.loop (R .ready none))).heap.size = w.heap.size + 1 + 1 := by simp
 have hV1 : V .ready none ((w.alloc (.deferred (some []))).alloc (.loop (R .ready none))) := by
  constructor
  ·have h := World.alloc_heap_new (w.alloc (.deferred (some []))) (.loop (R .ready none))
   rwa [World.size_alloc] at h
  ·exact (Below.heap_alloc _ _ _ (by simp)).trans (World.alloc_heap_new w _)
 have hKW : KeepsA B0 Bb w ((w.alloc (.deferred (some []))).alloc (.loop (R .ready none))) := ⟨hbW.mono hB0, hbW.block Bb hb⟩
 generalize (w.alloc (.deferred (some []))).alloc (.loop (R .ready none)) = W1 at *
 refine ⟨_, _, W1, { target := .fn (.func 37) lb, args := #[.func (.yield (w.heap.size + 1)) #[] #[]] }, W1, 37, #[.func (.yield (w.heap.size + 1)) #[] #[]] ++ lb, W1, hrun, ?_, ?_, ?_, (fun h => by cases h), ?_⟩
 ·simp only [resolve, hg]
  simp [go_sem]
 ·intro f' _
  trivial
 ·simp [invoke, go_sem, enters_of Try.func37 (by kernel_rfl) rfl]
 ·refine (hwin (w.heap.size + 1) (fun pre W => I pre W ∧ V .ready none W) (fun pre W => Ix pre W ∧ V .done (some .ret) W) W1 hKW (by omega) ?_ (fun pre A v h => ⟨hIb pre A v h.1, hVset _ _ A v h.2⟩) ?_ ⟨hIW, hV1⟩).mono ?_
  ·intro s A B row hs hg' hr
   refine ⟨hI s A B row hs.1 hg' (fun r e => ?_), hVgrow _ _ A B row hs.2 hg' (fun r e => (hr r e).2)⟩
   obtain ⟨h1, o, h2, h3⟩ := hr r e
   exact ⟨by omega, o, h2, Obj.not_cells_of_walk h3⟩
  ·intro pre x W ⟨hi, hv⟩ hpre
   have hlt := heap_lt hv.1
   have hy := run_yield (P := Try.prog) (args := #[itV x]) hv.1 (by rw [hR]; rfl)
   rw [hR] at hy
   refine ⟨fn, _, assign, body, hy, roundIn_of_wpIn hfn ?_⟩
   have hz : (#[p] : Array Tmp).zip #[itV x] = #[(p, itV x)] := by simp
   rw [hz]
   simp only [List.foldl_toArray', List.foldl_cons, List.foldl_nil]
   refine hassign _ x W _ ?_
   clear hy
   have hvA : V .ready none (W.alloc (itC x)) := ⟨heap_past hv.1, heap_past hv.2⟩
   have hKA : KeepsA B0 Bb W (W.alloc (itC x)) := ⟨(Below.refl _ W).alloc (by omega) _, Below.heap_alloc _ _ _ (by omega)⟩
   have hst : (R .ready none).state = .ready := by rw [hR]
   have hbeg := run_beginRound (P := Try.prog) hvA.1 hst
   rw [show ({ R .ready none with state := .busy } : Loop) = R .busy none by rw [hR]] at hbeg
   refine ⟨_, hbeg, ?_⟩
   have hvB := hVput _ .busy _ none _ hvA
   refine wpIn_mono (hbody _ pre x W _ (by omega) hi (hIput pre .ready none .busy none _ (hI.alloc _ hi) hvA) ?_ hpre) ?_
   ·exact (World.putObj_heap_other (by omega)).trans (heap_at _ rfl)
   ·rintro e a3 W3 ⟨hk3, ⟨rfl, hw3, hi3⟩ | ⟨rfl, hx3⟩⟩
    ·have hv3 := hVkeep _ _ _ _ hvB hk3
     have hend := run_endRound (P := Try.prog) none hv3.1
     rw [show ({ R .busy none with state := if (none : Option Code).isNone then .ready else .done, pending := none } : Loop) = R .ready none by rw [hR]; rfl] at hend
     exact ⟨_, _, hend, .inl ⟨rfl, ⟨hIput _ .busy none .ready none _ hi3 hv3, hVput _ .ready _ none _ hv3⟩, ((hKA.trans (hKput _ .busy none)).trans hw3).trans (hKput _ .ready none)⟩⟩
    ·have hv3 := hVkeep _ _ _ _ hvB hk3
     have hend := run_endRound (P := Try.prog) (some .ret) hv3.1
     rw [show ({ R .busy none with state := if (some Code.ret : Option Code).isNone then .ready else .done, pending := some .ret } : Loop) = R .done (some .ret) by rw [hR]; rfl] at hend
     exact ⟨_, _, hend, .inr ⟨rfl, hIxput _ .busy none .done (some .ret) _ hx3 hv3, hVput _ .done _ (some .ret) _ hv3⟩⟩
  ·rintro e W2 ⟨⟨v, rfl⟩, ⟨hi, hv⟩ | ⟨pre, hp, hx, hv⟩⟩
   ·have hend := run_endLoop (P := Try.prog) hv.1 (by rw [hR]; simp)
    refine ⟨none, _, by rw [hend]; rw [hR], ?_⟩
    exact hdone _ _ (Nat.le_refl _) (hI.putObj _ hi (by omega) hv.1 rfl) ((World.putObj_heap_other (by omega)).trans hv.2)
   ·have hend := run_endLoop (P := Try.prog) hv.1 (by rw [hR]; simp)
    refine ⟨some .ret, _, by rw [hend]; rw [hR], ?_⟩
    exact hstop _ pre _ (Nat.le_refl _) hp (hIx.putObj _ hx (by omega) hv.1 rfl) ((World.putObj_heap_other (by omega)).trans hv.2)
end Go.Proofs.Ytegdigfcgeoboaa
namespace Go.Proofs.Ytegdigfcgeoboaa
open Go.RowKit Go.Maps
attribute [local go_sem ↓] Go.wp_at_zero Go.wp_at_succ
structure Fr (base R m : Nat) (w w' : World) : Prop where
 os : w'.os = w.os
 tape : w'.tape = w.tape
 output : w'.output = w.output
 size : w.heap.size ≤ w'.heap.size
 block : ∀ k, k < base → k ≠ R → k ≠ m → w'.heap[k]? = w.heap[k]?
 box : ∀ (k : Nat) (cs : Array Value), k ≠ R → k ≠ m → w.heap[k]? = some (.cells cs 29 (0, 0)) → w'.heap[k]? = some (.cells cs 29 (0, 0))
section
variable {base R m : Nat} {w w' w'' : World}
theorem Fr.refl : Fr base R m w w := ⟨rfl, rfl, rfl, Nat.le_refl _, fun _ _ _ _ => rfl, fun _ _ _ _ h => h⟩
theorem Fr.trans (h : Fr base R m w w') (k : Fr base R m w' w'') : Fr base R m w w'' := ⟨k.os.trans h.os, k.tape.trans h.tape, k.output.trans h.output, Nat.le_trans h.size k.size, fun i h1 h2 h3 => (k.block i h1 h2 h3).trans (h.block i h1 h2 h3), fun i cs h1 h2 h3 => k.box i cs h1 h2 (h.box i cs h1 h2 h3)⟩
theorem Fr.kept (h : Kept w w') (hb : base ≤ w.heap.size) : Fr base R m w w' := ⟨h.os, h.tape, h.output, h.size, fun k h1 _ _ => h.block k (by omega), fun k cs _ _ h3 => heap_kept h h3⟩
theorem Fr.set (i : Nat) (u : Value) : Fr base R m w (w.setCell ⟨R, i, none⟩ u) := ⟨rfl, rfl, rfl, by rw [World.size_setCell]; exact Nat.le_refl _, fun k _ h2 _ => Below.heap_setCell _ _ _ k h2, fun k cs h1 _ h3 => heap_other h3 h1⟩
theorem Fr.low (h : Fr base R m w w') {B : Nat} (h1 : B ≤ base) (h2 : B ≤ R) (h3 : B ≤ m) : Below B w w' := ⟨h.os, h.tape, h.output, h.size, fun k hk => h.block k (by omega) (by omega) (by omega)⟩
end
theorem wrap_i8 (n : Int) : IntKind.i8.wrap n = (n + 128) % 256 - 128 := by
 simp [IntKind.wrap, IntKind.bits, IntKind.signed]
 split <;> omega
theorem wrap_i16 (n : Int) : IntKind.i16.wrap n = (n + 32768) % 65536 - 32768 := by
 simp [IntKind.wrap, IntKind.bits, IntKind.signed]
 split <;> omega
def Did (base R m : Nat) (w : World) (r : Int × RS) (e : Ending) (w' : World) : Prop :=
 e = .returned (.int .i64 r.1) ∧ Fr base R m w w' ∧ (r.1 = 0 → ∃ vs vu vf vc, Rd w' base R m vs vu vf vc r.2)
theorem did_set {w w' w1 : World} {base R m : Nat} {vs vu vf vc : Value} {s s' : RS} (h : Rd w base R m vs vu vf vc s) (hb : base ≤ w.heap.size) (i : Nat) (u : Value) (hc : (rdC s m vs vu vf vc).setIfInBounds i u = rdC s' m vs vu vf vc) (h1 : s'.stack = s.stack) (h2 : s'.usages = s.usages) (h3 : s'.fields = s.fields) (h4 : s'.colls = s.colls) (hf : Fr base R m w1 w) (hk : Kept (w.setCell ⟨R, i, none⟩ u) w') : Did base R m w1 (0, s') (.returned (.int .i64 0)) w' :=
 ⟨rfl, hf.trans ((Fr.set i u).trans (Fr.kept hk (by rw [World.size_setCell]; exact hb))), fun _ => ⟨vs, vu, vf, vc, (h.set i u hc h1 h2 h3 h4).kept hk⟩⟩
set_option maxRecDepth 100000 in
theorem signed_any (x : It) (hw : x.wide = true) (hok : x.ok) (w : World) : Calls Try.prog 61 #[itV x] w fun e w' => e = .returned (.int .i64 (signS x)) ∧ Kept w w' := by
 obtain ⟨d0, d1, d2, d3, d4, d5⟩ := data_lt hw hok
 unfold itV
 have hr := sign_range hw hok
 have hW : wrap64 (signS x) = signS x := by unfold wrap64; omega
 have hW2 : IntKind.i64.wrap (signS x) = signS x := by rw [IntKind.wrap_i64]; omega
 rcases d5 with e | e | e | e
 ·have hS : signS x = 0 := by simp [signS, e]
  rw [hS, e]
  go_enter Try.func61, Try.ntmps61
  go_wp2_with fail
  go_ret
  exact ⟨rfl, by go_grown⟩
 ·have hS : IntKind.i8.wrap x.data = signS x := by
   have h := d3 e
   unfold signS; rw [if_pos e, wrap_i8]
   split <;> omega
  rw [e]
  go_enter Try.func61, Try.ntmps61
  go_wp2_with fail
  go_ret
  exact ⟨rfl, by go_grown⟩
 ·have hS : IntKind.i16.wrap x.data = signS x := by
   have h := d4 e
   unfold signS; rw [if_neg (by omega), if_pos e, wrap_i16]
   split <;> omega
  rw [e]
  go_enter Try.func61, Try.ntmps61
  go_wp2_with fail
  go_ret
  exact ⟨rfl, by go_grown⟩
 ·have hS : IntKind.i32.wrap x.data = signS x := by
   unfold signS; rw [if_neg (by omega), if_neg (by omega), if_pos e, IntKind.wrap_i32]
   split <;> omega
  rw [e]
  go_enter Try.func61, Try.ntmps61
  go_wp2_with fail
  go_ret
  exact ⟨rfl, by go_grown⟩
set_option maxRecDepth 100000 in
theorem setPage_any {w : World} {base R m : Nat} {vs vu vf vc : Value} {s : RS} (h : Rd w base R m vs vu vf vc s) (hb : base ≤ w.heap.size) (x : It) (h1 : x.ty = 1) (h2 : x.tg = 0) :
  Calls Try.prog 44 #[.pointer (some ⟨R, 0, none⟩), itV x] w (Did base R m w (effS s x)) := by
 have hE : effS s x = if 65535 < x.data then (4, s) else (0, { s with g := { s.g with page := x.data } }) := by simp [effS, h1, h2]
 rw [hE]
 clear hE
 have c0 := cell_heap h.box (o := 0) rfl
 have f0 := frozen_heap h.box (o := 0)
 have hRl := heap_lt h.box
 unfold itV
 by_cases c : 65535 < x.data
 ·rw [if_pos c]
  go_enter Try.func44, Try.ntmps44
  go_wp2_with fail
  go_ret
  exact ⟨rfl, Fr.kept (by go_grown) hb, fun e => by cases e⟩
 ·rw [if_neg c]
  have c' : x.data ≤ 65535 := by omega
  go_enter Try.func44, Try.ntmps44
  go_wp2_with fail
  go_ret
  exact did_set h hb 0 (.int .u32 x.data) (s' := { s with g := { s.g with page := x.data } }) rfl rfl rfl rfl rfl Fr.refl (by go_grown)
set_option maxRecDepth 100000 in
theorem setSize_any {w : World} {base R m : Nat} {vs vu vf vc : Value} {s : RS} (h : Rd w base R m vs vu vf vc s) (hb : base ≤ w.heap.size) (x : It) (h1 : x.ty = 1) (h2 : x.tg = 7) :
  Calls Try.prog 48 #[.pointer (some ⟨R, 0, none⟩), itV x] w (Did base R m w (effS s x)) := by
 have hE : effS s x = (0, { s with g := { s.g with size := x.data } }) := by simp [effS, h1, h2]
 rw [hE]
 clear hE
 have c0 := cell_heap h.box (o := 3) rfl
 have f0 := frozen_heap h.box (o := 3)
 have hRl := heap_lt h.box
 unfold itV
 go_enter Try.func48, Try.ntmps48
 go_wp2_with fail
 go_ret
 exact did_set h hb 3 (.int .u32 x.data) (s' := { s with g := { s.g with size := x.data } }) rfl rfl rfl rfl rfl Fr.refl (by go_grown)
set_option maxRecDepth 100000 in
theorem setCount_any {w : World} {base R m : Nat} {vs vu vf vc : Value} {s : RS} (h : Rd w base R m vs vu vf vc s) (hb : base ≤ w.heap.size) (x : It) (h1 : x.ty = 1) (h2 : x.tg = 9) :
  Calls Try.prog 50 #[.pointer (some ⟨R, 0, none⟩), itV x] w (Did base R m w (effS s x)) := by
 have hE : effS s x = (0, { s with g := { s.g with count := x.data } }) := by simp [effS, h1, h2]
 rw [hE]
 clear hE
 have c0 := cell_heap h.box (o := 4) rfl
 have f0 := frozen_heap h.box (o := 4)
 have hRl := heap_lt h.box
 unfold itV
 go_enter Try.func50, Try.ntmps50
 go_wp2_with fail
 go_ret
 exact did_set h hb 4 (.int .u32 x.data) (s' := { s with g := { s.g with count := x.data } }) rfl rfl rfl rfl rfl Fr.refl (by go_grown)
set_option maxRecDepth 100000 in
theorem nothing_any {w : World} {base R m : Nat} {vs vu vf vc : Value} {s : RS} (h : Rd w base R m vs vu vf vc s) (hb : base ≤ w.heap.size) (x : It) (h1 : x.ty = 1) (h2 : x.tg = 3 ∨ x.tg = 4 ∨ x.tg = 5 ∨ x.tg = 6) :
  Calls Try.prog 47 #[.pointer (some ⟨R, 0, none⟩), itV x] w (Did base R m w (effS s x)) := by
 have hE : effS s x = (0, s) := by
  unfold effS
  rw [if_neg (by omega), if_pos h1, if_neg (by omega), if_neg (by omega), if_neg (by omega), if_pos h2]
 rw [hE]
 clear hE
 unfold itV
 go_enter Try.func47, Try.ntmps47
 go_wp2_with fail
 go_ret
 exact ⟨rfl, Fr.kept (by go_grown) hb, fun _ => ⟨vs, vu, vf, vc, h.kept (by go_grown)⟩⟩
set_option maxRecDepth 100000 in
theorem setReport_any {w : World} {base R m : Nat} {vs vu vf vc : Value} {s : RS} (h : Rd w base R m vs vu vf vc s) (hb : base ≤ w.heap.size) (x : It) (h1 : x.ty = 1) (h2 : x.tg = 8) :
  Calls Try.prog 49 #[.pointer (some ⟨R, 0, none⟩), itV x] w (Did base R m w (effS s x)) := by
 have hE : effS s x = if x.data < 1 ∨ 255 < x.data then (4, s) else (0, { s with g := { s.g with report := x.data }, numbered := true }) := by simp [effS, h1, h2]
 rw [hE]
 clear hE
 have c0 := cell_heap h.box (o := 5) rfl
 have f0 := frozen_heap h.box (o := 5)
 have c1 := cell_heap h.box (o := 14) rfl
 have f1 := frozen_heap h.box (o := 14)
 have hRl := heap_lt h.box
 unfold itV
 by_cases ca : x.data < 1
 ·rw [if_pos (.inl ca)]
  go_enter Try.func49, Try.ntmps49
  go_wp2_with fail
  go_ret
  exact ⟨rfl, Fr.kept (by go_grown) hb, fun e => by cases e⟩
 ·have ca' : 1 ≤ x.data := by omega
  by_cases cb : 255 < x.data
  ·rw [if_pos (.inr cb)]
   go_enter Try.func49, Try.ntmps49
   go_wp2_with fail
   go_ret
   exact ⟨rfl, Fr.kept (by go_grown) hb, fun e => by cases e⟩
  ·rw [if_neg (by omega)]
   have cb' : x.data ≤ 255 := by omega
   go_enter Try.func49, Try.ntmps49
   go_wp2_with fail
   go_ret
   exact did_set (h.set 5 (.int .u32 x.data) (s' := { s with g := { s.g with report := x.data } }) rfl rfl rfl rfl rfl) (by rw [World.size_setCell]; exact hb) 14 (.bool true) (s' := { s with g := { s.g with report := x.data }, numbered := true }) rfl rfl rfl rfl rfl (Fr.set 5 _) (by go_grown)
set_option maxRecDepth 100000 in
theorem setLo_any {w : World} {base R m : Nat} {vs vu vf vc : Value} {s : RS} (h : Rd w base R m vs vu vf vc s) (hb : base ≤ w.heap.size) (x : It) (hw : x.wide = true) (hok : x.ok) (h1 : x.ty = 1) (h2 : x.tg = 1) :
  Calls Try.prog 45 #[.pointer (some ⟨R, 0, none⟩), itV x] w (Did base R m w (effS s x)) := by
 have hE : effS s x = (0, { s with g := { s.g with lo := signS x } }) := by simp [effS, h1, h2]
 rw [hE]
 clear hE
 have hsg := fun w' => signed_any x hw hok w'
 unfold itV at hsg ⊢
 rw [h1, h2] at hsg
 go_enter Try.func45, Try.ntmps45
 go_wp2_with (go_at_call 61; refine (hsg _).mono ?_; rintro e w1 ⟨rfl, hk⟩; have hk2 : Kept w w1 := (Below.trans (by go_grown) (hk.mono (by simp only [World.size_alloc]; omega))); have h' := h.kept hk2; have c0 := cell_heap h'.box (o := 1) rfl; have f0 := frozen_heap h'.box (o := 1); have hRl := heap_lt h'.box)
 go_ret
 exact did_set h' (Nat.le_trans hb hk2.size) 1 (.int .i64 (signS x)) (s' := { s with g := { s.g with lo := signS x } }) rfl rfl rfl rfl rfl (Fr.kept hk2 hb) (by go_grown)
set_option maxRecDepth 100000 in
theorem setHi_any {w : World} {base R m : Nat} {vs vu vf vc : Value} {s : RS} (h : Rd w base R m vs vu vf vc s) (hb : base ≤ w.heap.size) (x : It) (hw : x.wide = true) (hok : x.ok) (h1 : x.ty = 1) (h2 : x.tg = 2) :
  Calls Try.prog 46 #[.pointer (some ⟨R, 0, none⟩), itV x] w (Did base R m w (effS s x)) := by
 have hE : effS s x = (0, { s with g := { s.g with hi := signS x } }) := by simp [effS, h1, h2]
 rw [hE]
 clear hE
 have hsg := fun w' => signed_any x hw hok w'
 unfold itV at hsg ⊢
 rw [h1, h2] at hsg
 go_enter Try.func46, Try.ntmps46
 go_wp2_with (go_at_call 61; refine (hsg _).mono ?_; rintro e w1 ⟨rfl, hk⟩; have hk2 : Kept w w1 := (Below.trans (by go_grown) (hk.mono (by simp only [World.size_alloc]; omega))); have h' := h.kept hk2; have c0 := cell_heap h'.box (o := 2) rfl; have f0 := frozen_heap h'.box (o := 2); have hRl := heap_lt h'.box)
 go_ret
 exact did_set h' (Nat.le_trans hb hk2.size) 2 (.int .i64 (signS x)) (s' := { s with g := { s.g with hi := signS x } }) rfl rfl rfl rfl rfl (Fr.kept hk2 hb) (by go_grown)
theorem or_page {p d : Int} (hp : 0 ≤ p ∧ p ≤ 65535) (hd : 0 ≤ d ∧ d < 65536) : bits .or .u32 (p * 65536) d = p * 65536 + d := by
 obtain ⟨a, rfl⟩ := Int.eq_ofNat_of_zero_le hp.1
 obtain ⟨b, rfl⟩ := Int.eq_ofNat_of_zero_le hd.1
 have h := (bits_nat .u32 32 (by decide) (fun n h0 h1 => by rw [IntKind.wrap_u32]; omega) (a * 65536) b (by omega) (by omega)).2
 have e : ((a : Int) * 65536) = ((a * 65536 : Nat) : Int) := by omega
 rw [e, h]
 have := Nat.shiftLeft_add_eq_or_of_lt (i := 16) (b := b) (by omega) a
 rw [Nat.shiftLeft_eq] at this
 rw [← this]
 omega
set_option maxRecDepth 100000 in
theorem usage_any {w : World} {base R m : Nat} {vs vu vf vc : Value} {s : RS} (h : Rd w base R m vs vu vf vc s) (hs : s.Fine) (x : It) (hw : x.wide = true) (hok : x.ok) :
  Calls Try.prog 63 #[.pointer (some ⟨R, 0, none⟩), itV x] w fun e w' => e = .returned (.int .u32 (usageS s x)) ∧ Kept w w' := by
 obtain ⟨d0, d1, d2, d3, d4, d5⟩ := data_lt hw hok
 have hp := hs.page
 have c0 : w.cell? ⟨R, 0, none⟩ = some (.int .u32 s.g.page) := cell_heap h.box (o := 0) rfl
 have f0 := frozen_heap h.box (o := 0)
 have hRl := heap_lt h.box
 unfold itV
 by_cases c : x.size = 4
 ·have hU : usageS s x = x.data := by simp [usageS, c]
  rw [hU]
  go_enter Try.func63, Try.ntmps63
  go_wp2_with fail
  go_ret
  exact ⟨rfl, by go_grown⟩
 ·have hd : 0 ≤ x.data ∧ x.data < 65536 := by omega
  have hU : usageS s x = s.g.page * 65536 + x.data := by simp [usageS, c]
  have hO := or_page hp hd
  have hW : IntKind.u32.wrap (s.g.page * 65536) = s.g.page * 65536 := by rw [IntKind.wrap_u32]; omega
  rw [hU]
  go_enter Try.func63, Try.ntmps63
  go_wp2_with fail
  go_region
  go_wp2_with fail
  go_ret
  exact ⟨rfl, by go_grown⟩
set_option maxRecDepth 100000 in
theorem keep_any {w : World} {base R m : Nat} {vs vu vf vc : Value} {s : RS} (h : Rd w base R m vs vu vf vc s) (hb : base ≤ w.heap.size) (hs : s.Fine) (x : It) (hw : x.wide = true) (hok : x.ok) (h1 : x.ty = 2) (h2 : x.tg = 1) :
  Calls Try.prog 54 #[.pointer (some ⟨R, 0, none⟩), itV x] w (Did base R m w (effS s x)) := by
 have hE : effS s x = (0, { s with kept := usageS s x, keeps := true }) := by simp [effS, h1, h2]
 rw [hE]
 clear hE
 have hus := fun {w'} (h' : Rd w' base R m vs vu vf vc s) => usage_any h' hs x hw hok
 unfold itV at hus ⊢
 rw [h1, h2] at hus
 go_enter Try.func54, Try.ntmps54
 go_wp2_with (go_at_call 63; refine (hus (h.kept (by go_grown))).mono ?_; rintro e w1 ⟨rfl, hk⟩; have hk2 : Kept w w1 := (Below.trans (by go_grown) (hk.mono (by simp only [World.size_alloc]; omega))); have h' := h.kept hk2; have c8 := cell_heap h'.box (o := 8) rfl; have f8 := frozen_heap h'.box (o := 8); have c9 := cell_heap h'.box (o := 9) rfl; have f9 := frozen_heap h'.box (o := 9); have hRl := heap_lt h'.box)
 go_ret
 exact did_set (h'.set 8 (.int .u32 (usageS s x)) (s' := { s with kept := usageS s x }) rfl rfl rfl rfl rfl) (by rw [World.size_setCell]; exact Nat.le_trans hb hk2.size) 9 (.bool true) (s' := { s with kept := usageS s x, keeps := true }) rfl rfl rfl rfl rfl ((Fr.kept hk2 hb).trans (Fr.set 8 _)) (by go_grown)
set_option maxRecDepth 100000 in
theorem end_any {w : World} {base R m : Nat} {vs vu vf vc : Value} {s : RS} (h : Rd w base R m vs vu vf vc s) (hb : base ≤ w.heap.size) (hs : s.Fine) (x : It) (h1 : x.ty = 0) (h2 : x.tg = 12) :
  Calls Try.prog 43 #[.pointer (some ⟨R, 0, none⟩), itV x] w (Did base R m w (effS s x)) := by
 have hE : effS s x = if s.opn < 0 then (4, s) else (0, { s with opn := ((s.colls[s.opn.toNat]?).map Co.parent).getD (-1) }) := by simp [effS, h1, h2]
 rw [hE]
 clear hE
 obtain ⟨o1, o2⟩ := hs.opn
 have hcl := hs.colls.1
 have c10 : w.cell? ⟨R, 10, none⟩ = some (.int .i64 s.opn) := cell_heap h.box (o := 10) rfl
 have f10 := frozen_heap h.box (o := 10)
 have c13 : w.cell? ⟨R, 13, none⟩ = some vc := cell_heap h.box (o := 13) rfl
 have hRl := heap_lt h.box
 unfold itV
 by_cases c : s.opn < 0
 ·rw [if_pos c]
  go_enter Try.func43, Try.ntmps43
  go_wp2_with fail
  go_ret
  exact ⟨rfl, Fr.kept (by go_grown) hb, fun e => by cases e⟩
 ·rw [if_neg c]
  obtain ⟨A, cc, rfl, hA1, hA2⟩ := h.cs.isSlice
  have hsl := h.cs.sl
  obtain ⟨j, hj⟩ := Int.eq_ofNat_of_zero_le (by omega : 0 ≤ s.opn)
  have hjl : j < s.colls.length := by omega
  have hG : (s.colls[s.opn.toNat]?).map Co.parent = some (s.colls[j].parent) := by
   rw [hj, Int.toNat_natCast, List.getElem?_eq_getElem hjl]; rfl
  rw [hG]
  obtain ⟨y, b, off, cs, hy, rfl, hbb, ⟨rfl, _⟩, hcs⟩ := hsl.at hjl
  have hye : y = s.colls[j] := by rw [List.getElem?_eq_getElem hjl] at hy; injection hy with hy; exact hy.symm
  have cj : w.cell? ⟨b, off + j * 3 + 2, none⟩ = some (.int .i64 s.colls[j].parent) := by rw [← hye]; exact hcs 2 _ rfl
  clear hy hcs hsl hG
  rw [hj] at c10
  have hjl' : (j : Int) < (s.colls.length : Int) := by omega
  have hj0 : (0 : Int) ≤ (j : Int) := by omega
  have hbl : b < w.heap.size := hbb
  go_enter Try.func43, Try.ntmps43
  go_wp2_with fail
  go_region
  go_wp2_with fail
  go_ret
  trace_state
  exact did_set h hb 10 (.int .i64 s.colls[j].parent) (s' := { s with opn := s.colls[j].parent }) rfl rfl rfl rfl rfl Fr.refl (by go_grown)
end Go.Proofs.Ytegdigfcgeoboaa
namespace Go.Proofs.Ytegdigfcgeoboaa
open Go.RowKit Go.Maps
section
variable {α : Type} {t : Ty α} {e : TypeId} {w w' : World} {base n : Nat} {v : Value} {xs : List α} {X X' : Nat → Prop}
theorem Own.step (h : Own (t.on X) e base w v n xs) {row : Option Nat} (hg : w.grownBy w' row) (hr : ∀ b, some b = row → ¬ X b) (hv : v.ownBlock = none ∨ v.ownBlock ≠ row) (hX : ∀ b, b < w.heap.size → X b → X' b) : Own (t.on X') e base w' v n xs :=
 ((h.widen (X' := fun b => X b ∧ b < w.heap.size) (fun b h1 h2 => ⟨h2, h1⟩)).grownX hg (fun b e h => hr b e h.1) hv).widen (fun b _ h => hX b h.2 h.1)
theorem Own.take {g cap k : Nat} (h : Own t e base w (.slice (some ⟨g, 0, none⟩) n cap) n xs) (hk : k ≤ n) : Own t e base w (.slice (some ⟨g, 0, none⟩) k cap) k (xs.take k) := by
 obtain ⟨hl, cells, ⟨h1, h2⟩, h3⟩ := h
 have hle : k * t.size ≤ n * t.size := Nat.mul_le_mul_right _ hk
 refine ⟨by rw [List.length_take]; omega, cells.take (k * t.size), ⟨by rw [List.length_take]; omega, ?_⟩, fun i x hx => ?_⟩
 ·rcases h2 with ⟨e, _⟩ | ⟨g', cap', cur, hv, hb, hg, hn, hm, hc, ht⟩
  ·injection e with e; cases e
  ·injection hv with e1 e2 e3
   injection e1 with e1
   injection e1 with e1
   subst e1 e3
   exact .inr ⟨g, cap, cur, rfl, hb, hg, by omega, hm, hc, by rw [← ht, List.take_take, Nat.min_eq_left hle]⟩
 ·rw [List.getElem?_take] at hx
  split at hx
  ·rename_i hik
   have h4 := h3 i x hx
   have h5 : (i + 1) * t.size ≤ k * t.size := Nat.mul_le_mul_right _ hik
   rw [Nat.succ_mul] at h5
   rw [List.drop_take, List.take_take, Nat.min_eq_left (by omega)]
   exact h4
  ·cases hx
theorem Own.above (h : Own t e base w v n xs) {k : Nat} (hk : k < base) : v.ownBlock = none ∨ v.ownBlock ≠ some k := by
 by_cases hv : v.ownBlock = some k
 ·exact absurd (h.lt hv).1 (by omega)
 ·exact .inr hv
theorem Own.not_at (h : Own t e base w v n xs) {k : Nat} (hk : k < base) : v.ownBlock ≠ some k := fun hv => absurd (h.lt hv).1 (by omega)
end
section
variable {w w' : World} {base R m : Nat} {vs vu vf vc v' : Value} {s : RS}
theorem Rd.stackTo (h : Rd w base R m vs vu vf vc s) {l : List Gl} (hg : w.grownBy w' vs.ownBlock) (ho : Own glT 83 base w' v' l.length l) (hat : v'.ownBlock = none ∨ v'.ownBlock = vs.ownBlock ∨ v'.ownBlock = some w.heap.size) :
  Rd (w'.setCell ⟨R, 6, none⟩ v') base R m v' vu vf vc { s with stack := l } := by
 obtain ⟨f, hm, hf⟩ := h.map
 obtain ⟨l1, l2, l3⟩ := h.low
 have hg2 : w'.grownBy (w'.setCell ⟨R, 6, none⟩ v') (some R) := grown_at grown_self 6 v'
 have hbox : w'.heap[R]? = some (.cells (rdC s m vs vu vf vc) 86 (0, 0)) := (hg.block R (heap_lt h.box) (fun e => h.st.not_at l1 e.symm)).trans h.box
 have hX : ∀ b, b < w.heap.size → Busy R m vs vu vf vc b → Busy R m v' vu vf vc b := by
  rintro b hb ⟨b1, b2, b3, b4, b5, b6⟩
  have hn : v'.ownBlock ≠ some b := by
   rcases hat with e | e | e
   ·rw [e]; intro e2; cases e2
   ·rw [e]; exact b3
   ·rw [e]; intro e2; injection e2 with e2; omega
  exact ⟨b1, b2, hn, b4, b5, b6⟩
 have hfs := h.fs.step hg (X' := Busy R m v' vu vf vc) (fun b e hx => hx.2.2.1 e.symm) (rows_apart h.fs h.st (by decide)) hX
 refine ⟨heap_store hbox v', ho.grownF flat_gl hg2 (ho.above l1), (h.us.grownF flat_u32 hg (rows_apart h.us h.st (by decide))).grownF flat_u32 hg2 (h.us.above l1), hfs.grownX hg2 (fun b e hx => by injection e with e; exact hx.1 e) (h.fs.above l1), (h.cs.grownF flat_co hg (rows_apart h.cs h.st (by decide))).grownF flat_co hg2 (h.cs.above l1), ⟨f, (hm.kept hg (fun e => h.st.not_at l2 e.symm)).kept hg2 (fun e => l3 (by injection e with e; first | exact e | exact e.symm)), hf⟩, h.low⟩
theorem Rd.usagesTo (h : Rd w base R m vs vu vf vc s) {l : List Int} (hg : w.grownBy w' vu.ownBlock) (ho : Own u32T 27 base w' v' l.length l) (hat : v'.ownBlock = none ∨ v'.ownBlock = vu.ownBlock ∨ v'.ownBlock = some w.heap.size) :
  Rd (w'.setCell ⟨R, 7, none⟩ v') base R m vs v' vf vc { s with usages := l } := by
 obtain ⟨f, hm, hf⟩ := h.map
 obtain ⟨l1, l2, l3⟩ := h.low
 have hg2 : w'.grownBy (w'.setCell ⟨R, 7, none⟩ v') (some R) := grown_at grown_self 7 v'
 have hbox : w'.heap[R]? = some (.cells (rdC s m vs vu vf vc) 86 (0, 0)) := (hg.block R (heap_lt h.box) (fun e => h.us.not_at l1 e.symm)).trans h.box
 have hX : ∀ b, b < w.heap.size → Busy R m vs vu vf vc b → Busy R m vs v' vf vc b := by
  rintro b hb ⟨b1, b2, b3, b4, b5, b6⟩
  have hn : v'.ownBlock ≠ some b := by
   rcases hat with e | e | e
   ·rw [e]; intro e2; cases e2
   ·rw [e]; exact b4
   ·rw [e]; intro e2; injection e2 with e2; omega
  exact ⟨b1, b2, b3, hn, b5, b6⟩
 have hfs := h.fs.step hg (X' := Busy R m vs v' vf vc) (fun b e hx => hx.2.2.2.1 e.symm) (rows_apart h.fs h.us (by decide)) hX
 refine ⟨heap_store hbox v', (h.st.grownF flat_gl hg (rows_apart h.st h.us (by decide))).grownF flat_gl hg2 (h.st.above l1), ho.grownF flat_u32 hg2 (ho.above l1), hfs.grownX hg2 (fun b e hx => by injection e with e; exact hx.1 e) (h.fs.above l1), (h.cs.grownF flat_co hg (rows_apart h.cs h.us (by decide))).grownF flat_co hg2 (h.cs.above l1), ⟨f, (hm.kept hg (fun e => h.us.not_at l2 e.symm)).kept hg2 (fun e => l3 (by injection e with e; first | exact e | exact e.symm)), hf⟩, h.low⟩
theorem Rd.collsTo (h : Rd w base R m vs vu vf vc s) {l : List Co} (hg : w.grownBy w' vc.ownBlock) (ho : Own coT 68 base w' v' l.length l) (hat : v'.ownBlock = none ∨ v'.ownBlock = vc.ownBlock ∨ v'.ownBlock = some w.heap.size) :
  Rd (w'.setCell ⟨R, 13, none⟩ v') base R m vs vu vf v' { s with colls := l } := by
 obtain ⟨f, hm, hf⟩ := h.map
 obtain ⟨l1, l2, l3⟩ := h.low
 have hg2 : w'.grownBy (w'.setCell ⟨R, 13, none⟩ v') (some R) := grown_at grown_self 13 v'
 have hbox : w'.heap[R]? = some (.cells (rdC s m vs vu vf vc) 86 (0, 0)) := (hg.block R (heap_lt h.box) (fun e => h.cs.not_at l1 e.symm)).trans h.box
 have hX : ∀ b, b < w.heap.size → Busy R m vs vu vf vc b → Busy R m vs vu vf v' b := by
  rintro b hb ⟨b1, b2, b3, b4, b5, b6⟩
  have hn : v'.ownBlock ≠ some b := by
   rcases hat with e | e | e
   ·rw [e]; intro e2; cases e2
   ·rw [e]; exact b6
   ·rw [e]; intro e2; injection e2 with e2; omega
  exact ⟨b1, b2, b3, b4, b5, hn⟩
 have hfs := h.fs.step hg (X' := Busy R m vs vu vf v') (fun b e hx => hx.2.2.2.2.2 e.symm) (rows_apart h.fs h.cs (by decide)) hX
 refine ⟨heap_store hbox v', (h.st.grownF flat_gl hg (rows_apart h.st h.cs (by decide))).grownF flat_gl hg2 (h.st.above l1), (h.us.grownF flat_u32 hg (rows_apart h.us h.cs (by decide))).grownF flat_u32 hg2 (h.us.above l1), hfs.grownX hg2 (fun b e hx => by injection e with e; exact hx.1 e) (h.fs.above l1), ho.grownF flat_co hg2 (ho.above l1), ⟨f, (hm.kept hg (fun e => h.cs.not_at l2 e.symm)).kept hg2 (fun e => l3 (by injection e with e; first | exact e | exact e.symm)), hf⟩, h.low⟩
theorem Rd.stackAdd (h : Rd w base R m vs vu vf vc s) {el : Gl} {g cap : Nat} (hg : w.grownBy w' vs.ownBlock) (ho : Own glT 83 base w' (.slice (some ⟨g, 0, none⟩) (s.stack.length + 1) cap) (s.stack.length + 1) (s.stack ++ [el])) (hat : vs.ownBlock = some g ∨ g = w.heap.size) :
  Rd (w'.setCell ⟨R, 6, none⟩ (.slice (some ⟨g, 0, none⟩) (s.stack.length + 1) cap)) base R m (.slice (some ⟨g, 0, none⟩) (s.stack.length + 1) cap) vu vf vc { s with stack := s.stack ++ [el] } :=
 h.stackTo hg (by rw [List.length_append]; exact ho) (hat.elim (fun e => .inr (.inl e.symm)) (fun e => .inr (.inr (by rw [e]; rfl))))
theorem Rd.usagesAdd (h : Rd w base R m vs vu vf vc s) {el : Int} {g cap : Nat} (hg : w.grownBy w' vu.ownBlock) (ho : Own u32T 27 base w' (.slice (some ⟨g, 0, none⟩) (s.usages.length + 1) cap) (s.usages.length + 1) (s.usages ++ [el])) (hat : vu.ownBlock = some g ∨ g = w.heap.size) :
  Rd (w'.setCell ⟨R, 7, none⟩ (.slice (some ⟨g, 0, none⟩) (s.usages.length + 1) cap)) base R m vs (.slice (some ⟨g, 0, none⟩) (s.usages.length + 1) cap) vf vc { s with usages := s.usages ++ [el] } :=
 h.usagesTo hg (by rw [List.length_append]; exact ho) (hat.elim (fun e => .inr (.inl e.symm)) (fun e => .inr (.inr (by rw [e]; rfl))))
theorem Rd.collsAdd (h : Rd w base R m vs vu vf vc s) {el : Co} {g cap : Nat} (hg : w.grownBy w' vc.ownBlock) (ho : Own coT 68 base w' (.slice (some ⟨g, 0, none⟩) (s.colls.length + 1) cap) (s.colls.length + 1) (s.colls ++ [el])) (hat : vc.ownBlock = some g ∨ g = w.heap.size) :
  Rd (w'.setCell ⟨R, 13, none⟩ (.slice (some ⟨g, 0, none⟩) (s.colls.length + 1) cap)) base R m vs vu vf (.slice (some ⟨g, 0, none⟩) (s.colls.length + 1) cap) { s with colls := s.colls ++ [el] } :=
 h.collsTo hg (by rw [List.length_append]; exact ho) (hat.elim (fun e => .inr (.inl e.symm)) (fun e => .inr (.inr (by rw [e]; rfl))))
end
end Go.Proofs.Ytegdigfcgeoboaa
