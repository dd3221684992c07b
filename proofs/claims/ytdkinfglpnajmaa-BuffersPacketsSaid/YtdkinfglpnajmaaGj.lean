/- A range over a window's iterator whose rounds all go on: one law for the five loops. -/
import Derived.Test.YtdkinfglpnajmaaGi
set_option linter.unusedVariables false
set_option linter.unusedSimpArgs false
set_option linter.unusedSectionVars false
namespace Go.Proofs.Ytdkinfglpnajmaa
open Go.RowKit Go.Shelf

theorem keepsW_put {B0 Bf Bt l : Nat} {W : World} {o : Obj} (h0 : B0 ≤ l) (hf : Bf ≠ l) (ht : Bt ≠ l) : KeepsW B0 Bf Bt W (W.putObj l o) :=
  ⟨⟨rfl, rfl, rfl, by simp, fun k hk => World.putObj_heap_other (by omega)⟩, World.putObj_heap_other hf, World.putObj_heap_other ht⟩

set_option maxHeartbeats 1000000 in
theorem range_win {n : Nat} {L : List Pc} {lb : Array Value} {g : Operand} {p : Tmp} {assign body : Code} {Q : Exit → Act → World → Prop} {a : Act} {w : World} {B0 Bf Bt : Nat}
    (hg : a.eval g = .func (.func 32) #[] lb) (hwin : Window (n - 1) lb L B0 Bf Bt w) (hB0 : B0 ≤ w.heap.size) (hf : Bf < w.heap.size) (ht : Bt < w.heap.size)
    (I : List Pc → World → Prop) (hI : OwnFrom w.heap.size I) (h0 : I [] w) (a₁ : Pc → Nat → Act)
    (hassign : ∀ (l : Nat) (x : Pc) (W : World) (K : Act → World → Prop), K (a₁ x W.heap.size) (W.alloc (.cells #[.int .i64 x.pos, .int .i64 x.len] 44)) →
      assign.wpIn (Fence.wide.inRound l) (n - 1 - 1) Try.prog (Exit.then K (fun _ _ _ => False)) { tmps := a.tmps.setIfInBounds p (.agg #[.int .i64 x.pos, .int .i64 x.len]), defers := [] } W)
    (hbody : ∀ (l : Nat) (pre : List Pc) (x : Pc) (W₀ W : World), w.heap.size ≤ W₀.heap.size → I pre W₀ → I pre W → (∀ (k : Nat) (o : Obj), W₀.heap[k]? = some o → o.isCells = true → W.heap[k]? = some o) →
      W.heap[W₀.heap.size]? = some (.cells #[.int .i64 x.pos, .int .i64 x.len] 44 (0, 0)) → pre ++ [x] <+: L →
      body.wpIn (Fence.wide.inRound l) (n - 1 - 1) Try.prog (fun e _ W' => e = .normal ∧ KeepsFrom w.heap.size W W' ∧ KeepsW B0 Bf Bt W W' ∧ I (pre ++ [x]) W') (a₁ x W₀.heap.size) W)
    (hdone : ∀ (D : Nat) (W : World), w.heap.size ≤ D → I L W → W.heap[D]? = some (.deferred (some [])) → Q .normal { a with defers := { target := .collected D, args := #[] } :: a.defers } W) :
    (Code.rangeFunc g #[p] assign body).wpIn Fence.wide n Try.prog Q a w := by
  refine wpIn_rangeFunc fun fn hfn => ?_
  have hd : ∀ (o o' : Obj), Below w.heap.size w ((w.alloc o).alloc o') := fun o o' => ((Below.refl _ w).alloc (Nat.le_refl _) o).alloc (by simp) o'
  -- the record of the loop, in a state
  obtain ⟨R, hR⟩ : ∃ R : LoopState → Loop, R = fun st => { state := st, pending := none, fn, tmps := a.tmps, params := #[p], assign, body, defers := w.heap.size } := ⟨_, rfl⟩
  -- what is kept of the record's two blocks
  let V : LoopState → World → Prop := fun st W => W.heap[w.heap.size + 1]? = some (.loop (R st)) ∧ W.heap[w.heap.size]? = some (.deferred (some []))
  have hVput : ∀ st st' W, V st W → V st' (W.putObj (w.heap.size + 1) (.loop (R st'))) := fun st st' W h => ⟨World.putObj_heap_same (heap_lt h.1), (World.putObj_heap_other (by omega)).trans h.2⟩
  have hVkeep : ∀ st W W', V st W → KeepsFrom w.heap.size W W' → V st W' := fun st W W' h k => ⟨k.same _ _ (by omega) h.1 rfl, k.same _ _ (Nat.le_refl _) h.2 rfl⟩
  have hVgrow : ∀ st A B row, V st A → A.grownBy B row → (∀ r, row = some r → ∃ o : Obj, A.heap[r]? = some o ∧ o.isWalk = true) → V st B := fun st A B row h hg' hr =>
    ⟨(grownBy_keeps hg' hr h.1 rfl).trans h.1, (grownBy_keeps hg' hr h.2 rfl).trans h.2⟩
  have hIput : ∀ pre st st' W, I pre W → V st W → I pre (W.putObj (w.heap.size + 1) (.loop (R st'))) := fun pre st st' W hi hv => hI.putObj _ hi (by omega) hv.1 rfl
  have hKput : ∀ W st, KeepsW B0 Bf Bt W (W.putObj (w.heap.size + 1) (.loop (R st))) := fun W st => keepsW_put (by omega) (by omega) (by omega)
  have hV1 : V .ready ((w.alloc (.deferred (some []))).alloc (.loop (R .ready))) := by
    constructor
    · have h := World.alloc_heap_new (w.alloc (.deferred (some []))) (.loop (R .ready))
      rwa [World.size_alloc] at h
    · exact (Below.heap_alloc _ _ _ (by simp)).trans (World.alloc_heap_new w _)
  have hrun := run_enterLoop_outer (P := Try.prog) (w := w) fn a.tmps #[p] assign body
  rw [show ({ state := .ready, pending := none, fn, tmps := a.tmps, params := #[p], assign, body, defers := w.heap.size } : Loop) = R .ready by rw [hR]] at hrun
  have hbW := hd (.deferred (some [])) (.loop (R .ready))
  have hIW := hI.alloc (.loop (R .ready)) (hI.alloc (.deferred (some [])) h0)
  have hzW : ((w.alloc (.deferred (some []))).alloc (.loop (R .ready))).heap.size = w.heap.size + 1 + 1 := by simp
  generalize (w.alloc (.deferred (some []))).alloc (.loop (R .ready)) = W1 at *
  refine ⟨_, _, W1, { target := .fn (.func 32) lb, args := #[.func (.yield (w.heap.size + 1)) #[] #[]] }, W1, 32, #[.func (.yield (w.heap.size + 1)) #[] #[]] ++ lb, W1, hrun, ?_, ?_, ?_, (fun h => by cases h), ?_⟩
  · simp only [resolve, hg]
    simp [go_sem]
  · intro f' _
    trivial
  · simp [invoke, go_sem, enters_of Try.func32 (by kernel_rfl) rfl]
  · refine (hwin (w.heap.size + 1) (fun pre W => I pre W ∧ V .ready W) W1 hbW ?_ ?_ ⟨hIW, hV1⟩).mono ?_
    · intro s A B row hs hg' hr
      refine ⟨hI s A B row hs.1 hg' (fun r e => ?_), hVgrow _ A B row hs.2 hg' (fun r e => (hr r e).2)⟩
      obtain ⟨h1, o, h2, h3⟩ := hr r e
      exact ⟨by omega, o, h2, Obj.not_cells_of_walk h3⟩
    · intro pre x W ⟨hi, hv⟩ hpre
      have hlt := heap_lt hv.1
      have hy := run_yield (P := Try.prog) (args := encPc x) hv.1 (by rw [hR]; rfl)
      rw [hR] at hy
      have hz : (#[p] : Array Tmp).zip (encPc x) = #[(p, .agg #[.int .i64 x.pos, .int .i64 x.len])] := by simp [encPc]
      refine ⟨fn, _, assign, body, hy, roundIn_of_wpIn hfn ?_⟩
      rw [hz]
      simp only [List.foldl_toArray', List.foldl_cons, List.foldl_nil]
      refine hassign _ x W _ ?_
      clear hy
      have hvA : V .ready (W.alloc (.cells #[.int .i64 x.pos, .int .i64 x.len] 44)) := ⟨heap_past hv.1, heap_past hv.2⟩
      have hKA : KeepsW B0 Bf Bt W (W.alloc (.cells #[.int .i64 x.pos, .int .i64 x.len] 44)) := ⟨(Below.refl _ W).alloc (by omega) _, Below.heap_alloc _ _ _ (by omega), Below.heap_alloc _ _ _ (by omega)⟩
      have hst : (R .ready).state = .ready := by rw [hR]
      have hbeg := run_beginRound (P := Try.prog) hvA.1 hst
      rw [show ({ R .ready with state := .busy } : Loop) = R .busy by rw [hR]] at hbeg
      refine ⟨_, hbeg, ?_⟩
      have hvB := hVput _ .busy _ hvA
      refine wpIn_mono (hbody _ pre x W _ (by omega) hi (hIput pre .ready .busy _ (hI.alloc _ hi) hvA) ?_ ?_ hpre) ?_
      · intro k o hk ho
        refine (World.putObj_heap_other (fun e => ?_)).trans (heap_past hk)
        subst e
        rw [hv.1] at hk
        cases hk; cases ho
      · exact (World.putObj_heap_other (by omega)).trans (heap_at _ rfl)
      · rintro e a3 W3 ⟨rfl, hk3, hw3, hi3⟩
        have hv3 := hVkeep _ _ _ hvB hk3
        have hend := run_endRound (P := Try.prog) none hv3.1
        rw [show ({ R .busy with state := if (none : Option Code).isNone then .ready else .done, pending := none } : Loop) = R .ready by rw [hR]; rfl] at hend
        exact ⟨_, _, hend, rfl, ⟨hIput _ .busy .ready _ hi3 hv3, hVput _ .ready _ hv3⟩, ((hKA.trans (hKput _ .busy)).trans hw3).trans (hKput _ .ready)⟩
    · rintro e W2 ⟨⟨v, rfl⟩, hi, hv⟩
      have hend := run_endLoop (P := Try.prog) hv.1 (by rw [hR]; simp)
      refine ⟨none, _, by rw [hend]; rw [hR], ?_⟩
      exact hdone _ _ (Nat.le_refl _) (hI.putObj _ hi (by omega) hv.1 rfl) ((World.putObj_heap_other (by omega)).trans hv.2)
end Go.Proofs.Ytdkinfglpnajmaa
