

/- Check: why a request is not a standard request that is well formed. The numbers lie in their kinds. -/
import Derived.Test.YtfoeihbajichpaaDoorChecked
import Derived.Deep.RegionHeld3
import Derived.Deep.DrawnRows
import Derived.Deep.DeepCutAuto
import Derived.Deep.LoopGhost
import Derived.Outline
import Derived.Handy
import Derived.OwnWalk
import Derived.Laws.EntriesVeiled
import Derived.Test.YtfoeihbajichpaaDoorSg
set_option linter.unusedVariables false
set_option linter.unusedSimpArgs false
set_option linter.unusedSectionVars false
namespace Go.Proofs.YtfoeihbajichpaaDoor
open Go.RowKit Go.Lib Go.Maps Go.WideShapes
attribute [local go_sem ↓] Go.wp_at_zero Go.wp_at_succ

theorem since_set {N : Nat} {W w' : World} {p : Addr} (h : (∀ b o, b < N → w'.cell? ⟨b, o, none⟩ = W.cell? ⟨b, o, none⟩) ∧ Below N W w') (hp : N ≤ p.block) (u : Value) :
    (∀ b o, b < N → (w'.setCell p u).cell? ⟨b, o, none⟩ = W.cell? ⟨b, o, none⟩) ∧ Below N W (w'.setCell p u) :=
  since_below h ((Below.refl _ _).setCell hp u)
theorem since_relit {N : Nat} {W w2 : World} {o o' : Obj} (h : (∀ b p, b < N → (w2.alloc o).cell? ⟨b, p, none⟩ = W.cell? ⟨b, p, none⟩) ∧ Below N W (w2.alloc o)) (hN : N ≤ w2.heap.size) :
    (∀ b p, b < N → (w2.alloc o').cell? ⟨b, p, none⟩ = W.cell? ⟨b, p, none⟩) ∧ Below N W (w2.alloc o') := by
  have hb : ∀ b, b < N → (w2.alloc o').heap[b]? = (w2.alloc o).heap[b]? := fun b hb => (Below.heap_alloc _ _ _ (by omega)).trans (Below.heap_alloc _ _ _ (by omega)).symm
  refine ⟨fun b p hbN => (World.cell?_of_block (a := ⟨b, p, none⟩) (hb b hbN)).trans (h.1 b p hbN), ⟨h.2.os, h.2.tape, h.2.output, ?_, fun k hk => (hb k hk).trans (h.2.block k hk)⟩⟩
  have := h.2.size
  simp only [World.size_alloc] at this ⊢
  exact this
theorem zero60 : ∀ w : World, (zeroValue 60).run Tryd.prog w = .ok (.agg #[.bool false, .int .i64 0, .nilFunc]) w := fun w => by kernel_rfl
theorem u8wf {c : Int} (h0 : 0 ≤ c) (h1 : c < 256) : (Lit.int .u8 c).wf = true := by
  have : 0 ≤ c ∧ c ≤ 255 := by omega
  simpa [Lit.wf, IntKind.min, IntKind.max, IntKind.signed, IntKind.bits] using this
theorem table_none (c : Int) (w : World) (h0 : 0 ≤ c) (h1 : c < 256) (hr : rowF c = none) : Calls Tryd.prog 33 #[] w fun e w' => ∃ b, e = .returned (.map (some b)) ∧
    (∀ W, Kept w' W → (Instr.lookup 62 (.map (some b)) (.int .u8 c) true).run Tryd.prog W = .ok (.tuple #[.agg #[.bool false, .int .i64 0, .nilFunc], .bool false]) W) ∧
    (∀ W, Kept w' W → (Instr.lookup 62 (.map (some b)) (.int .u8 c) false).run Tryd.prog W = .ok (.agg #[.bool false, .int .i64 0, .nilFunc]) W) ∧ Kept w w' := by
  refine (table_any w).mono ?_
  rintro e w' ⟨v, rfl, ⟨b, n, f, rfl, hm, hrow⟩, hk⟩
  have hf := hrow c
  rw [hr] at hf
  have l1 := fun W (hW : Kept w' W) => (hm.keep hW).look (int_keyed Tryd.underlying5) Tryd.underlying62 (zero60 W) (keyOf_int_mk Tryd.underlying5 (u8wf h0 h1)) true
  have l2 := fun W (hW : Kept w' W) => (hm.keep hW).look (int_keyed Tryd.underlying5) Tryd.underlying62 (zero60 W) (keyOf_int_mk Tryd.underlying5 (u8wf h0 h1)) false
  rw [hf] at l1 l2
  exact ⟨b, rfl, l1, l2, hk⟩
theorem table_some (c : Int) (w : World) (h0 : 0 ≤ c) (h1 : c < 256) {i : Bool} {l : Int} {k : FK} (hr : rowF c = some (i, l, k)) : Calls Tryd.prog 33 #[] w fun e w' => ∃ b f caps, e = .returned (.map (some b)) ∧
    (∀ W, Kept w' W → (Instr.lookup 62 (.map (some b)) (.int .u8 c) true).run Tryd.prog W = .ok (.tuple #[.agg #[.bool i, .int .i64 l, .func (.func f) #[] caps], .bool true]) W) ∧
    (∀ W, Kept w' W → (Instr.lookup 62 (.map (some b)) (.int .u8 c) false).run Tryd.prog W = .ok (.agg #[.bool i, .int .i64 l, .func (.func f) #[] caps]) W) ∧ FnIs k w' (.func (.func f) #[] caps) ∧ Kept w w' := by
  refine (table_any w).mono ?_
  rintro e w' ⟨v, rfl, ⟨b, n, f, rfl, hm, hrow⟩, hk⟩
  have hf := hrow c
  rw [hr] at hf
  obtain ⟨u, hu, fv, rfl, hF⟩ := hf
  obtain ⟨fid, caps, rfl⟩ := hF.func
  have l1 := fun W (hW : Kept w' W) => (hm.keep hW).look (int_keyed Tryd.underlying5) Tryd.underlying62 (zero60 W) (keyOf_int_mk Tryd.underlying5 (u8wf h0 h1)) true
  have l2 := fun W (hW : Kept w' W) => (hm.keep hW).look (int_keyed Tryd.underlying5) Tryd.underlying62 (zero60 W) (keyOf_int_mk Tryd.underlying5 (u8wf h0 h1)) false
  rw [hu] at l1 l2
  exact ⟨b, fid, caps, rfl, l1, l2, hF, hk⟩
theorem FnIs.set60 {k : FK} {w : World} {v u : Value} {P o : Nat} {cs : Array Value} (h : FnIs k w v) (hP : w.heap[P]? = some (.cells cs 60 (0, 0))) : FnIs k (w.setCell ⟨P, o, none⟩ u) v := by
  have hc : ∀ (b : Nat) (cs' : Array Value) (t : TypeId) (fr : Nat × Nat), t ≠ 60 → w.heap[b]? = some (Obj.cells cs' t fr) → (w.setCell ⟨P, o, none⟩ u).heap[b]? = some (Obj.cells cs' t fr) := fun b cs' t fr ht hb =>
    heap_other hb (fun e => by
      have e' : b = P := e
      subst e'
      rw [hP] at hb
      injection hb with hb
      injection hb with _ hb _
      exact ht hb.symm)
  cases k with
  | device m => obtain ⟨x, h1, h2⟩ := h; exact ⟨x, h1, hc _ _ _ _ (by decide) h2⟩
  | setting m => obtain ⟨x, h1, h2⟩ := h; exact ⟨x, h1, hc _ _ _ _ (by decide) h2⟩
  | status => obtain ⟨p1, p2, p4, h1, h2, h3, h4⟩ := h; exact ⟨p1, p2, p4, h1, hc _ _ _ _ (by decide) h2, hc _ _ _ _ (by decide) h3, hc _ _ _ _ (by decide) h4⟩
  | feature => exact h
  | endp => exact h
  | most1 => exact h
  | only0 => exact h
/-- a row that has been laid into its variable -/
theorem row_laid {w2 : World} {P : Nat} {i : Bool} {l : Int} {k : FK} {fv : Value} {cs : Array Value} (hP : w2.heap[P]? = some (.cells cs 60 (0, 0))) (hcs : cs.size = 3) (hF : FnIs k w2 fv) :
    (((w2.setCell ⟨P, 0, none⟩ (.bool i)).setCell ⟨P, 1, none⟩ (.int .i64 l)).setCell ⟨P, 2, none⟩ fv).heap[P]? = some (.cells #[.bool i, .int .i64 l, fv] 60 (0, 0)) ∧ FnIs k (((w2.setCell ⟨P, 0, none⟩ (.bool i)).setCell ⟨P, 1, none⟩ (.int .i64 l)).setCell ⟨P, 2, none⟩ fv) fv := by
  have h1 := heap_store (i := 0) hP (.bool i)
  have h2 := heap_store (i := 1) h1 (.int .i64 l)
  have h3 := heap_store (i := 2) h2 fv
  refine ⟨?_, ((hF.set60 hP).set60 h1).set60 h2⟩
  rw [h3]
  obtain ⟨cl⟩ := cs
  match cl, hcs with
  | [x0, x1, x2], _ => rfl
/-- what Check answers -/
def checkC (t c v x l : Int) : Int :=
  if t / 32 % 4 ≠ 0 then 1 else match rowF c with
  | none => 7
  | some (i, n, k) => if i ≠ decide (128 ≤ t) ∨ (0 ≤ n ∧ l ≠ n) ∨ k.fits (t % 32) v x = false then 4 else 0
set_option maxRecDepth 100000 in
set_option maxHeartbeats 2000000 in
theorem check_kind (t c v x l : Int) (w : World) (t0 : 0 ≤ t) (t1 : t < 256) (hk0 : t / 32 % 4 ≠ 0) :
    Calls Tryd.prog 15 #[.agg #[.int .u8 (t), .int .u8 (c), .int .u16 (v), .int .u16 (x), .int .u16 (l)]] w fun e w' => e = .returned (.int .i64 1) ∧ Kept w w' := by
  have hb : (t / 32 % 4 != 0) = true := by simpa using hk0
  go_enter Tryd.func15, Tryd.ntmps15
  go_wp2_with (go_at_call 13; refine (kind_any t c v x l _ t0 t1).mono ?_; rintro e w1 ⟨rfl, hk⟩)
  go_ret
  exact ⟨rfl, Below.trans (by go_grown) (hk.mono (by simp only [World.size_alloc]; omega))⟩
set_option maxRecDepth 100000 in
set_option maxHeartbeats 2000000 in
theorem check_none (t c v x l : Int) (w : World) (t0 : 0 ≤ t) (t1 : t < 256) (c0 : 0 ≤ c) (c1 : c < 256) (hk0 : t / 32 % 4 = 0) (hr : rowF c = none) :
    Calls Tryd.prog 15 #[.agg #[.int .u8 (t), .int .u8 (c), .int .u16 (v), .int .u16 (x), .int .u16 (l)]] w fun e w' => e = .returned (.int .i64 7) ∧ Kept w w' := by
  have HT := fun W => table_none c W c0 c1 hr
  have hb : (t / 32 % 4 != 0) = false := by simp [hk0]
  clear hk0 hr
  go_enter Tryd.func15, Tryd.ntmps15
  go_upto_region 3 with (go_at_call 13; refine (kind_any t c v x l _ t0 t1).mono ?_; rintro e w1 ⟨rfl, hk⟩)
  refine wp_at (fun W => W.heap[w.heap.size]? = some (.cells #[.int .u8 (t), .int .u8 (c), .int .u16 (v), .int .u16 (x), .int .u16 (l)] 25 (0, 0)) ∧ Kept w W) ⟨heap_kept hk (heap_at _ rfl), Below.trans (by go_grown) (hk.mono (by simp only [World.size_alloc]; omega))⟩ (fun W hW => ?_)
  clear hk
  obtain ⟨HX, hkW⟩ := hW
  have r1 := cell_heap HX (o := 1) rfl
  have hxl := heap_lt HX
  go_cut [3, 4] (fun s3 s4 wc => s4 = .bool false ∧ Kept W wc)
  case first =>
    go_region_held3 (fun w' => (∀ b o, b < W.heap.size → w'.cell? ⟨b, o, none⟩ = W.cell? ⟨b, o, none⟩) ∧ Below W.heap.size W w') (first | assumption | exact since_start | exact since_keep (by assumption) (Nat.le_refl _) hk | exact since_alloc (by assumption) (Nat.le_refl _) | exact since_relit (by assumption) (by have hks := hk.size; simp at hks; omega) | exact since_set (by assumption) (by first | exact Nat.le_refl _ | (have hks := hk.size; simp at hks; simp <;> omega)) _ | exact since_set (since_set (by assumption) (by first | exact Nat.le_refl _ | (have hks := hk.size; simp at hks; simp <;> omega)) _) (by first | exact Nat.le_refl _ | (have hks := hk.size; simp at hks; simp <;> omega)) _ | exact since_set (since_set (since_set (by assumption) (by first | exact Nat.le_refl _ | (have hks := hk.size; simp at hks; simp <;> omega)) _) (by first | exact Nat.le_refl _ | (have hks := hk.size; simp at hks; simp <;> omega)) _) (by first | exact Nat.le_refl _ | (have hks := hk.size; simp at hks; simp <;> omega)) _) ((go_at_call 33; refine (HT _).mono ?_; rintro e w2 ⟨b, rfl, hl1, hl2, hk⟩; obtain ⟨hcq, hfq⟩ := bcell hk; have hzq := hk.size; try simp only [World.size_alloc, World.size_drew] at hcq hfq hzq; have q0 := hl1 _ (Below.refl _ _); have q1 := hl1 _ ((Below.refl _ _).alloc (Nat.le_refl _) (.cells #[.bool false, .int .i64 0, .nilFunc] 60)); dsimp only))
    all_goals go_wp2
    all_goals go_meet
    all_goals exact ⟨rfl, since_kept (Below.refl _ _) (by assumption) (Nat.le_refl _)⟩
  case rest =>
    obtain ⟨rfl, hkc⟩ := hcut
    go_wp2
    go_ret
    exact ⟨rfl, hkW.trans' hkc⟩

end Go.Proofs.YtfoeihbajichpaaDoor
