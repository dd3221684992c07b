/- A range over an iterator that steps its own box between the rounds, and whose body may return. No condition. -/
import Derived.Shelf.Abstract
import Derived.Shelf.RegionOpen
import Derived.WalkKit
import Derived.OwnWalkIn
import Derived.TacticsInMore
import Derived.LoopNIn
import Derived.LoopIn
import Derived.Sort.LoopGhostIn
import Derived.Maps.AppendAt
import Derived.Maps.OwnIn
import Derived.RangeFuncNested
import Derived.RangeFuncBound
import Derived.RangeFuncCalls
import Derived.RangeFuncLeaves
import Derived.RangeFuncBox
import Derived.Test.YtegdigfcgeoboaaN3
set_option linter.unusedVariables false
set_option linter.unusedSimpArgs false
set_option linter.unusedSectionVars false
namespace Go.Proofs.Ytegdigfcgeoboaa
open Go.RowKit Go.Shelf

/-- what a round keeps: all below B0, and the iterator's box -/
structure KeepsA (B0 Bb : Nat) (A B : World) : Prop where
  low : Below B0 A B
  box : B.heap[Bb]? = A.heap[Bb]?
theorem KeepsA.refl (B0 Bb : Nat) (W : World) : KeepsA B0 Bb W W := ⟨Below.refl _ _, rfl⟩
theorem KeepsA.trans {B0 Bb : Nat} {A B C : World} (h : KeepsA B0 Bb A B) (k : KeepsA B0 Bb B C) : KeepsA B0 Bb A C := ⟨h.low.trans k.low, k.box.trans h.box⟩
theorem keepsA_put {B0 Bb l : Nat} {W : World} {o : Obj} (h0 : B0 ≤ l) (hb : Bb ≠ l) : KeepsA B0 Bb W (W.putObj l o) :=
  ⟨⟨rfl, rfl, rfl, by simp, fun k hk => World.putObj_heap_other (by omega)⟩, World.putObj_heap_other hb⟩
def itV (x : It) : Value := .agg #[.int .u8 x.ty, .int .u8 x.tg, .int .i64 x.size, .int .u32 x.data]
def itC (x : It) : Obj := .cells #[.int .u8 x.ty, .int .u8 x.tg, .int .i64 x.size, .int .u32 x.data] 29
/-- how the iterator over items hands them out -/
def Stepper (n : Nat) (lb : Array Value) (L : List It) (B0 Bb : Nat) (w : World) : Prop :=
  ∀ (l : Nat) (J Jx : List It → World → Prop) (W : World), KeepsA B0 Bb w W → w.heap.size ≤ W.heap.size → AbidesFrom W.heap.size J → (∀ pre A v, J pre A → J pre (A.setCell ⟨Bb, 0, none⟩ v)) →
    (∀ pre x W1, J pre W1 → pre ++ [x] <+: L → YieldAt Fence.wide (n - 1) Try.prog l #[itV x] W1 fun e W' => (e = .returned (.bool true) ∧ J (pre ++ [x]) W' ∧ KeepsA B0 Bb W1 W') ∨ (e = .returned (.bool false) ∧ Jx (pre ++ [x]) W')) →
    J [] W → CallsIn Fence.wide n Try.prog 37 (#[.func (.yield l) #[] #[]] ++ lb) W fun e W' => (∃ v, e = .returned v) ∧ (J L W' ∨ ∃ pre, pre <+: L ∧ Jx pre W')

set_option maxHeartbeats 1000000 in
theorem range_items {n : Nat} {L : List It} {lb : Array Value} {g : Operand} {p : Tmp} {assign body : Code} {Q : Exit → Act → World → Prop} {a : Act} {w : World} {B0 Bb : Nat}
    (hg : a.eval g = .func (.func 37) #[] lb) (hwin : Stepper (n - 1) lb L B0 Bb w) (hB0 : B0 ≤ w.heap.size) (hb : Bb < w.heap.size)
    (I Ix : List It → World → Prop) (hI : OwnFrom w.heap.size I) (hIx : OwnFrom w.heap.size Ix) (hIb : ∀ pre A v, I pre A → I pre (A.setCell ⟨Bb, 0, none⟩ v)) (h0 : I [] w) (a₁ : It → Nat → Act)
    (hassign : ∀ (l : Nat) (x : It) (W : World) (K : Act → World → Prop), K (a₁ x W.heap.size) (W.alloc (itC x)) →
      assign.wpIn (Fence.wide.inRound l) (n - 1 - 1) Try.prog (Exit.then K (fun _ _ _ => False)) { tmps := a.tmps.setIfInBounds p (itV x), defers := [] } W)
    (hbody : ∀ (l : Nat) (pre : List It) (x : It) (W₀ W : World), w.heap.size ≤ W₀.heap.size → I pre W₀ → I pre W →
      W.heap[W₀.heap.size]? = some (itC x) → pre ++ [x] <+: L →
      body.wpIn (Fence.wide.inRound l) (n - 1 - 1) Try.prog (fun e _ W' => KeepsFrom w.heap.size W W' ∧ ((e = .normal ∧ KeepsA B0 Bb W W' ∧ I (pre ++ [x]) W') ∨ (e = .ret ∧ Ix (pre ++ [x]) W'))) (a₁ x W₀.heap.size) W)
    (hdone : ∀ (D : Nat) (W : World), w.heap.size ≤ D → I L W → W.heap[D]? = some (.deferred (some [])) → Q .normal { a with defers := { target := .collected D, args := #[] } :: a.defers } W)
    (hstop : ∀ (D : Nat) (pre : List It) (W : World), w.heap.size ≤ D → pre <+: L → Ix pre W → W.heap[D]? = some (.deferred (some [])) → Code.wpIn Fence.wide n Try.prog .ret Q { a with defers := { target := .collected D, args := #[] } :: a.defers } W) :
    (Code.rangeFunc g #[p] assign body).wpIn Fence.wide n Try.prog Q a w := by
  refine wpIn_rangeFunc fun fn hfn => ?_
  have hd : ∀ (o o' : Obj), Below w.heap.size w ((w.alloc o).alloc o') := fun o o' => ((Below.refl _ w).alloc (Nat.le_refl _) o).alloc (by simp) o'
  obtain ⟨R, hR⟩ : ∃ R : LoopState → Option Code → Loop, R = fun st pe => { state := st, pending := pe, fn, tmps := a.tmps, params := #[p], assign, body, defers := w.heap.size } := ⟨_, rfl⟩
  let V : LoopState → Option Code → World → Prop := fun st pe W => W.heap[w.heap.size + 1]? = some (.loop (R st pe)) ∧ W.heap[w.heap.size]? = some (.deferred (some []))
  have hVput : ∀ st st' pe pe' W, V st pe W → V st' pe' (W.putObj (w.heap.size + 1) (.loop (R st' pe'))) := fun st st' pe pe' W h => ⟨World.putObj_heap_same (heap_lt h.1), (World.putObj_heap_other (by omega)).trans h.2⟩
  have hVkeep : ∀ st pe W W', V st pe W → KeepsFrom w.heap.size W W' → V st pe W' := fun st pe W W' h k => ⟨k.same _ _ (by omega) h.1 rfl, k.same _ _ (Nat.le_refl _) h.2 rfl⟩
  have hVgrow : ∀ st pe A B row, V st pe A → A.grownBy B row → (∀ r, row = some r → ∃ o : Obj, A.heap[r]? = some o ∧ o.isWalk = true) → V st pe B := fun st pe A B row h hg' hr =>
    ⟨(grownBy_keeps hg' hr h.1 rfl).trans h.1, (grownBy_keeps hg' hr h.2 rfl).trans h.2⟩
  have hVset : ∀ st pe A v, V st pe A → V st pe (A.setCell ⟨Bb, 0, none⟩ v) := fun st pe A v h => ⟨heap_other h.1 (by show w.heap.size + 1 ≠ Bb; omega), heap_other h.2 (by show w.heap.size ≠ Bb; omega)⟩
  have hIput : ∀ pre st pe st' pe' W, I pre W → V st pe W → I pre (W.putObj (w.heap.size + 1) (.loop (R st' pe'))) := fun pre st pe st' pe' W hi hv => hI.putObj _ hi (by omega) hv.1 rfl
  have hIxput : ∀ pre st pe st' pe' W, Ix pre W → V st pe W → Ix pre (W.putObj (w.heap.size + 1) (.loop (R st' pe'))) := fun pre st pe st' pe' W hi hv => hIx.putObj _ hi (by omega) hv.1 rfl
  have hKput : ∀ W st pe, KeepsA B0 Bb W (W.putObj (w.heap.size + 1) (.loop (R st pe))) := fun W st pe => keepsA_put (by omega) (by omega)
  have hrun := run_enterLoop_outer (P := Try.prog) (w := w) fn a.tmps #[p] assign body
  rw [show ({ state := .ready, pending := none, fn, tmps := a.tmps, params := #[p], assign, body, defers := w.heap.size } : Loop) = R .ready none by rw [hR]] at hrun
  have hbW := hd (.deferred (some [])) (.loop (R .ready none))
  have hIW := hI.alloc (.loop (R .ready none)) (hI.alloc (.deferred (some [])) h0)
  have hzW : ((w.alloc (.deferred (some []))).alloc (.loop (R .ready none))).heap.size = w.heap.size + 1 + 1 := by simp
  have hV1 : V .ready none ((w.alloc (.deferred (some []))).alloc (.loop (R .ready none))) := by
    constructor
    · have h := World.alloc_heap_new (w.alloc (.deferred (some []))) (.loop (R .ready none))
      rwa [World.size_alloc] at h
    · exact (Below.heap_alloc _ _ _ (by simp)).trans (World.alloc_heap_new w _)
  have hKW : KeepsA B0 Bb w ((w.alloc (.deferred (some []))).alloc (.loop (R .ready none))) := ⟨hbW.mono hB0, hbW.block Bb hb⟩
  generalize (w.alloc (.deferred (some []))).alloc (.loop (R .ready none)) = W1 at *
  refine ⟨_, _, W1, { target := .fn (.func 37) lb, args := #[.func (.yield (w.heap.size + 1)) #[] #[]] }, W1, 37, #[.func (.yield (w.heap.size + 1)) #[] #[]] ++ lb, W1, hrun, ?_, ?_, ?_, (fun h => by cases h), ?_⟩
  · simp only [resolve, hg]
    simp [go_sem]
  · intro f' _
    trivial
  · simp [invoke, go_sem, enters_of Try.func37 (by kernel_rfl) rfl]
  · refine (hwin (w.heap.size + 1) (fun pre W => I pre W ∧ V .ready none W) (fun pre W => Ix pre W ∧ V .done (some .ret) W) W1 hKW (by omega) ?_ (fun pre A v h => ⟨hIb pre A v h.1, hVset _ _ A v h.2⟩) ?_ ⟨hIW, hV1⟩).mono ?_
    · intro s A B row hs hg' hr
      refine ⟨hI s A B row hs.1 hg' (fun r e => ?_), hVgrow _ _ A B row hs.2 hg' (fun r e => (hr r e).2)⟩
      obtain ⟨h1, o, h2, h3⟩ := hr r e
      exact ⟨by omega, o, h2, Obj.not_cells_of_walk h3⟩
    · intro pre x W ⟨hi, hv⟩ hpre
      have hlt := heap_lt hv.1
      have hy := run_yield (P := Try.prog) (args := #[itV x]) hv.1 (by rw [hR]; rfl)
      rw [hR] at hy
      refine ⟨fn, _, assign, body, hy, roundIn_of_wpIn hfn ?_⟩
      have hz : (#[p] : Array Tmp).zip #[itV x] = #[(p, itV x)] := by simp
      rw [hz]
      simp only [List.foldl_toArray', List.foldl_cons, List.foldl_nil]
      refine hassign _ x W _ ?_
      clear hy
      have hvA : V .ready none (W.alloc (itC x)) := ⟨heap_past hv.1, heap_past hv.2⟩
      have hKA : KeepsA B0 Bb W (W.alloc (itC x)) := ⟨(Below.refl _ W).alloc (by omega) _, Below.heap_alloc _ _ _ (by omega)⟩
      have hst : (R .ready none).state = .ready := by rw [hR]
      have hbeg := run_beginRound (P := Try.prog) hvA.1 hst
      rw [show ({ R .ready none with state := .busy } : Loop) = R .busy none by rw [hR]] at hbeg
      refine ⟨_, hbeg, ?_⟩
      have hvB := hVput _ .busy _ none _ hvA
      refine wpIn_mono (hbody _ pre x W _ (by omega) hi (hIput pre .ready none .busy none _ (hI.alloc _ hi) hvA) ?_ hpre) ?_
      · exact (World.putObj_heap_other (by omega)).trans (heap_at _ rfl)
      · rintro e a3 W3 ⟨hk3, ⟨rfl, hw3, hi3⟩ | ⟨rfl, hx3⟩⟩
        · have hv3 := hVkeep _ _ _ _ hvB hk3
          have hend := run_endRound (P := Try.prog) none hv3.1
          rw [show ({ R .busy none with state := if (none : Option Code).isNone then .ready else .done, pending := none } : Loop) = R .ready none by rw [hR]; rfl] at hend
          exact ⟨_, _, hend, .inl ⟨rfl, ⟨hIput _ .busy none .ready none _ hi3 hv3, hVput _ .ready _ none _ hv3⟩, ((hKA.trans (hKput _ .busy none)).trans hw3).trans (hKput _ .ready none)⟩⟩
        · have hv3 := hVkeep _ _ _ _ hvB hk3
          have hend := run_endRound (P := Try.prog) (some .ret) hv3.1
          rw [show ({ R .busy none with state := if (some Code.ret : Option Code).isNone then .ready else .done, pending := some .ret } : Loop) = R .done (some .ret) by rw [hR]; rfl] at hend
          exact ⟨_, _, hend, .inr ⟨rfl, hIxput _ .busy none .done (some .ret) _ hx3 hv3, hVput _ .done _ (some .ret) _ hv3⟩⟩
    · rintro e W2 ⟨⟨v, rfl⟩, ⟨hi, hv⟩ | ⟨pre, hp, hx, hv⟩⟩
      · have hend := run_endLoop (P := Try.prog) hv.1 (by rw [hR]; simp)
        refine ⟨none, _, by rw [hend]; rw [hR], ?_⟩
        exact hdone _ _ (Nat.le_refl _) (hI.putObj _ hi (by omega) hv.1 rfl) ((World.putObj_heap_other (by omega)).trans hv.2)
      · have hend := run_endLoop (P := Try.prog) hv.1 (by rw [hR]; simp)
        refine ⟨some .ret, _, by rw [hend]; rw [hR], ?_⟩
        exact hstop _ pre _ (Nat.le_refl _) hp (hIx.putObj _ hx (by omega) hv.1 rfl) ((World.putObj_heap_other (by omega)).trans hv.2)
end Go.Proofs.Ytegdigfcgeoboaa
