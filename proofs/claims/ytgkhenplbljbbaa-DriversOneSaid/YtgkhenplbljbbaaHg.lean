


/- Attach where nothing is attached. The registry reads as data. -/
import Derived.Test.YtgkhenplbljbbaaChecked
import Derived.Deep.RegionHeld3
import Derived.Deep.DrawnRows
import Derived.Deep.DeepCutAuto
import Derived.Deep.LoopGhost
import Derived.Outline
import Derived.Handy
import Derived.Deep.RegionLaw
import Derived.OwnWalk
import Derived.Test.YtgkhenplbljbbaaHf
set_option linter.unusedVariables false
set_option linter.unusedSimpArgs false
set_option linter.unusedSectionVars false
namespace Go.Proofs.Ytgkhenplbljbbaa
open Go.RowKit Go.Maps Go.WideShapes
attribute [local go_sem ↓] Go.wp_at_zero Go.wp_at_succ

theorem grown_new {a b c : World} {m T : Nat} (h : a.grownBy b (some m)) (k : b.grownBy c (some T)) (hT : a.heap.size ≤ T) : a.grownBy c (some m) :=
  ⟨k.os.trans h.os, k.tape.trans h.tape, k.output.trans h.output, Nat.le_trans h.size k.size, fun i hi hne => (k.block i (Nat.lt_of_lt_of_le hi h.size) (fun e => by injection e with e; omega)).trans (h.block i hi hne)⟩
theorem Reg.foot {w : World} {X X' : Nat → Prop} {G m nl : Nat} {l : List Drv} {K : Nat} {S : St} (h : Reg w X G m nl l K S) (hX : ∀ b, b < w.heap.size → X b → X' b) : Reg w X' G m nl l K S := by
  obtain ⟨bd, f, h1, h2, h3, h4⟩ := h
  refine ⟨bd, f, h1, h2.keep (fun b hb => ⟨hb.1, hX b hb.1 hb.2⟩) (fun _ _ _ => rfl), h3, fun n hn => ?_⟩
  have h5 := h4 n hn
  cases hs : S n with
  | none => rw [hs] at h5; exact h5
  | some c =>
    rw [hs] at h5
    obtain ⟨A, h6, h7⟩ := h5
    exact ⟨A, h6, h7.keep (fun b hb => ⟨hb.1, hX b hb.1 hb.2⟩) (fun _ _ _ => rfl)⟩
theorem Look.foot {w : World} {X X' : Nat → Prop} {o : Option Value} {s : Option (Int × List Int)} (h : Look w X o s) (hX : ∀ b, b < w.heap.size → X b → X' b) : Look w X' o s := by
  cases s with
  | none => exact h
  | some c =>
    obtain ⟨A, h6, h7⟩ := h
    exact ⟨A, h6, h7.keep (fun b hb => ⟨hb.1, hX b hb.1 hb.2⟩) (fun _ _ _ => rfl)⟩

set_option maxRecDepth 100000 in
set_option maxHeartbeats 4000000 in
theorem attach_new {w : World} {X : Nat → Prop} {G m nl : Nat} {l : List Drv} {N : Nat} {S : St} (hR : Reg w X G m nl l N S) (hnl : nl ≤ maxLen) (hKm : N < maxLen) (hal : allR l (fun _ _ r => r.ok)) (hck : checkS l = 0) (hmX : ¬ X m) (hGX : X G) (hXn : ∀ b, w.heap.size ≤ b → X b)
    (a : Nat) (ha0 : 0 < a) (ha1 : a < 128) (hs : S a = none) (vn p : Int) (A2 : Option Addr) (m2 c2 : Nat) (cfs : List Cf) (cur : Int) (hm2 : m2 ≤ 4) (hcf : Sl cfT w (low w.heap.size) A2 m2 cfs) (q : Int) (L : List Int) (e : Int) (hch : choiceB (mtS l vn p) cur cfs = (q, L, e)) (hL5 : L.length ≤ 5) :
    Calls Try.prog 25 #[.pointer (some ⟨G, 0, none⟩), .agg #[.int .u8 ((a : Int)), .slice none 0 0, .int .u8 0, .int .u8 0, .int .u8 0, .int .u16 0, .int .u8 0, .int .u8 0, .int .u8 0, .int .u8 0, .int .u16 (vn), .int .u16 (p), .int .u16 0, .int .u8 0, .int .u8 0, .int .u8 0, .int .u8 0, .slice A2 m2 c2], .int .i64 cur] w (fun en w' => (e ≠ 0 ∧ en = .returned (.tuple #[.agg #[.int .u8 (0), .slice none 0 0], .int .i64 (e)]) ∧ Kept w w') ∨ (e = 0 ∧ ∃ A, en = .returned (.tuple #[.agg #[.int .u8 (q), .slice A L.length L.length], .int .i64 (0)]) ∧ Sl i64T w' (fun g => w.heap.size ≤ g ∧ g < w'.heap.size) A L.length L ∧ w.grownBy w' (some m) ∧ Reg w' X G m nl l (N + 1) (upd S a (some (q, L))))) := by
  have hR1 : Reg w (fun b => X b ∧ b ≠ w.heap.size + 1) G m nl l N S := hR.foot (fun b hb hx => ⟨hx, by omega⟩)
  obtain ⟨bd, f, hG, hD, hM, hL⟩ := hR1
  have HL := hide hL
  have ha : a < 256 := by omega
  have hLa := hL a ha
  rw [hs] at hLa
  have hf : f (.int .u8 (a : Int)) = none := hLa
  clear hR hs hLa hL
  have HM := hide hM
  have hml := hM.lt
  have hG' : ((w.alloc (.cells #[.int .u8 ((a : Int)), .slice none 0 0, .int .u8 0, .int .u8 0, .int .u8 0, .int .u16 0, .int .u8 0, .int .u8 0, .int .u8 0, .int .u8 0, .int .u16 (vn), .int .u16 (p), .int .u16 0, .int .u8 0, .int .u8 0, .int .u8 0, .int .u8 0, .slice A2 m2 c2] 34)).alloc (.cells #[.int .u8 0, .slice none 0 0] 63)).heap[G]? = some (.cells #[.slice (some ⟨bd, 0, none⟩) nl nl, .map (some m)] 89 (0, 0)) := heap_past (heap_past hG)
  have ha0' : ((a : Int) == 0) = false := by simp; omega
  have ha1' : (a : Int) ≤ 127 := by omega
  have Hch := hide hch
  clear hch
  have Hal := hide hal
  clear hal
  go_enter Try.func25, Try.ntmps25
  go_upto_region 5 with (first
    | (go_at_call 39; refine (some_any G m _ _ hG').mono ?_; rintro e w1 ⟨rfl, rfl⟩))
  refine wp_at (fun W => W.heap[w.heap.size]? = some (.cells #[.int .u8 ((a : Int)), .slice none 0 0, .int .u8 0, .int .u8 0, .int .u8 0, .int .u16 0, .int .u8 0, .int .u8 0, .int .u8 0, .int .u8 0, .int .u16 (vn), .int .u16 (p), .int .u16 0, .int .u8 0, .int .u8 0, .int .u8 0, .int .u8 0, .slice A2 m2 c2] 34 (0, 0)) ∧ W.heap[w.heap.size + 1]? = some (.cells #[.int .u8 0, .slice none 0 0] 63 (0, 0)) ∧ Kept w W) ⟨heap_past (heap_at _ rfl), heap_at _ (by simp), by go_grown⟩ (fun W hW => ?_)
  obtain ⟨HX, HR, hkW⟩ := hW
  have hMW := hM.keep hkW
  have c1 := cell_heap (heap_kept hkW hG) (o := 1) rfl
  have hGl := heap_lt (heap_kept hkW hG)
  have x0 := cell_heap HX (o := 0) rfl
  have hXl := heap_lt HX
  have HR' := hide HR
  have HX' := hide HX
  have HG' := hide hG
  clear hG hG' hM HX HR
  refine wp_region_held_drew (S := fun w' => (∀ b o, b < W.heap.size → w'.cell? ⟨b, o, none⟩ = W.cell? ⟨b, o, none⟩) ∧ Below W.heap.size W w') (by kernel_rfl) since_start (fun hS => ?_)
  refine wpAnyH_take (i := 0) (v := ?_) rfl (by kernel_rfl) (by kernel_rfl) (by kernel_rfl) (fun _ _ _ h => h) (Or.inl ⟨by kernel_rfl, ?_⟩) hS ?_
  rotate_left
  · intro w' hS'
    have hq := hS'.1
    have hq2 := hS'.2
    clear hS'
    first | (go_simp; done) | (go_simp; with_reducible rfl)
  try simp only [Act.put, List.getElem_toArray, List.getElem_cons_zero, List.getElem_cons_succ, List.setIfInBounds_toArray, List.set_cons_zero, List.set_cons_succ]
  refine wpAnyH_take (i := 1) (v := ?_) rfl (by kernel_rfl) (by kernel_rfl) (by kernel_rfl) (fun _ _ _ h => h) (Or.inl ⟨by kernel_rfl, ?_⟩) hS ?_
  rotate_left
  · intro w' hS'
    have hq := hS'.1
    have hq2 := hS'.2
    clear hS'
    first | (go_simp; done) | (go_simp; with_reducible rfl)
  try simp only [Act.put, List.getElem_toArray, List.getElem_cons_zero, List.getElem_cons_succ, List.setIfInBounds_toArray, List.set_cons_zero, List.set_cons_succ]
  refine wpAnyH_take (i := 2) (v := ?_) rfl (by kernel_rfl) (by kernel_rfl) (by kernel_rfl) (fun _ _ _ h => h) (Or.inl ⟨by kernel_rfl, ?_⟩) hS ?_
  rotate_left
  · intro w' hS'
    have hq := hS'.1
    have hq2 := hS'.2
    clear hS'
    first | (go_simp; done) | (go_simp; with_reducible rfl)
  try simp only [Act.put, List.getElem_toArray, List.getElem_cons_zero, List.getElem_cons_succ, List.setIfInBounds_toArray, List.set_cons_zero, List.set_cons_succ]
  refine wpAnyH_take (i := 3) (v := ?_) rfl (by kernel_rfl) (by kernel_rfl) (by kernel_rfl) (fun _ _ _ h => h) (Or.inl ⟨by kernel_rfl, ?_⟩) hS ?_
  rotate_left
  · intro w' hS'
    have hq := hS'.1
    have hq2 := hS'.2
    clear hS'
    first | (go_simp; done) | (go_simp; with_reducible rfl)
  try simp only [Act.put, List.getElem_toArray, List.getElem_cons_zero, List.getElem_cons_succ, List.setIfInBounds_toArray, List.set_cons_zero, List.set_cons_succ]
  refine wpAnyH_take (i := 4) (v := ?_) rfl (by kernel_rfl) (by kernel_rfl) (by kernel_rfl) (fun _ _ _ h => h) (Or.inl ⟨by kernel_rfl, ?_⟩) hS ?_
  rotate_left
  · intro w' hS'
    have hq := hS'.1
    have hq2 := hS'.2
    clear hS'
    first | (go_simp; done) | (go_simp; with_reducible rfl)
  try simp only [Act.put, List.getElem_toArray, List.getElem_cons_zero, List.getElem_cons_succ, List.setIfInBounds_toArray, List.set_cons_zero, List.set_cons_succ]
  refine wpAnyH_take (i := 5) (v := ?_) rfl (by kernel_rfl) (by kernel_rfl) (by kernel_rfl) (fun _ _ _ h => h) (Or.inl ⟨by kernel_rfl, ?_⟩) hS ?_
  rotate_left
  · intro w' hS'
    have hq := hS'.1
    have hq2 := hS'.2
    clear hS'
    first | (go_simp; done) | (go_simp; with_reducible rfl)
  try simp only [Act.put, List.getElem_toArray, List.getElem_cons_zero, List.getElem_cons_succ, List.setIfInBounds_toArray, List.set_cons_zero, List.set_cons_succ]
  refine wpAnyH_take (i := 6) (v := ?_) rfl (by kernel_rfl) (by kernel_rfl) (by kernel_rfl) (fun _ _ _ h => h) (Or.inl ⟨by kernel_rfl, ?_⟩) hS ?_
  rotate_left
  · intro w' hS'
    have hrun := ((hMW).keep hS'.2).look (int_keyed Try.underlying5) Try.underlying87 (zero63 w') (key8 ha) true
    rw [hf] at hrun
    simp only [if_true, Option.getD_none, Option.isSome_none, Option.getD_some, Option.isSome_some] at hrun
    first | (go_simp; done) | (go_simp; with_reducible rfl)
  try simp only [Act.put, List.getElem_toArray, List.getElem_cons_zero, List.getElem_cons_succ, List.setIfInBounds_toArray, List.set_cons_zero, List.set_cons_succ]
  refine wpAnyH_take (i := 7) (v := ?_) rfl (by kernel_rfl) (by kernel_rfl) (by kernel_rfl) (fun _ _ _ h => h) (Or.inl ⟨by kernel_rfl, ?_⟩) hS ?_
  rotate_left
  · intro w' hS'
    have hq := hS'.1
    have hq2 := hS'.2
    clear hS'
    first | (go_simp; done) | (go_simp; with_reducible rfl)
  try simp only [Act.put, List.getElem_toArray, List.getElem_cons_zero, List.getElem_cons_succ, List.setIfInBounds_toArray, List.set_cons_zero, List.set_cons_succ]
  refine wpAnyH_take (i := 8) (v := ?_) rfl (by kernel_rfl) (by kernel_rfl) (by kernel_rfl) (fun _ _ _ h => h) (Or.inl ⟨by kernel_rfl, ?_⟩) hS ?_
  rotate_left
  · intro w' hS'
    have hq := hS'.1
    have hq2 := hS'.2
    clear hS'
    first | (go_simp; done) | (go_simp; with_reducible rfl)
  try simp only [Act.put, List.getElem_toArray, List.getElem_cons_zero, List.getElem_cons_succ, List.setIfInBounds_toArray, List.set_cons_zero, List.set_cons_succ]
  refine wpAnyH_take (i := 9) (v := ?_) rfl (by kernel_rfl) (by kernel_rfl) (by kernel_rfl) (fun _ _ _ h => h) (Or.inl ⟨by kernel_rfl, ?_⟩) hS ?_
  rotate_left
  · intro w' hS'
    have hq := hS'.1
    have hq2 := hS'.2
    clear hS'
    first | (go_simp; done) | (go_simp; with_reducible rfl)
  try simp only [Act.put, List.getElem_toArray, List.getElem_cons_zero, List.getElem_cons_succ, List.setIfInBounds_toArray, List.set_cons_zero, List.set_cons_succ]
  refine wpAnyH_ready (rs := [10]) (by kernel_rfl) (by simp) ?_
  refine AllReadyH.cons rfl (fun K hK => ?_) AllReadyH.nil
  go_simp
  refine hK.out _ _ ?_ (fun hS => ?_)
  · exact since_alloc hS (Nat.le_refl _)
  clear hK K
  try simp only [Act.put, List.getElem_toArray, List.getElem_cons_zero, List.getElem_cons_succ, List.setIfInBounds_toArray, List.set_cons_zero, List.set_cons_succ]
  have HT : (W.alloc (.cells #[.int .u8 0, .slice none 0 0] 63)).drew.heap[W.heap.size]? = some (.cells #[.int .u8 0, .slice none 0 0] 63 (0, 0)) := heap_drew (heap_at _ rfl)
  have hTr : W.heap.size ≤ W.heap.size := Nat.le_refl _
  generalize (W.alloc (.cells #[.int .u8 0, .slice none 0 0] 63)).drew = w6 at *
  have q0 := cell_heap HT (o := 0) rfl
  have q1 := cell_heap HT (o := 1) rfl
  have z0 := frozen_heap HT (o := 0)
  have z1 := frozen_heap HT (o := 1)
  have hTl := heap_lt HT
  refine wpAnyH_ready (rs := [11]) (by kernel_rfl) (by simp) ?_
  refine AllReadyH.cons rfl (fun K hK => ?_) AllReadyH.nil
  go_simp
  have hS7 := since_below hS (((Below.refl W.heap.size w6).setCell hTr (p := ⟨W.heap.size, 0, none⟩) (Value.int .u8 (0))).setCell hTr (p := ⟨W.heap.size, 1, none⟩) (Value.slice none 0 0))
  have HT7 := heap_store (i := 1) (heap_store (i := 0) HT (Value.int .u8 (0))) (Value.slice none 0 0)
  have hg7 := grown_at (X := W.heap.size) (grown_at (X := W.heap.size) (grown_self (v := w6)) 0 (Value.int .u8 (0))) 1 (Value.slice none 0 0)
  generalize ((w6.setCell ⟨W.heap.size, 0, none⟩ (Value.int .u8 (0))).setCell ⟨W.heap.size, 1, none⟩ (Value.slice none 0 0)) = w7 at *
  refine hK.out _ _ ?_ (fun hS => ?_)
  · exact hS7
  clear hK K hS7 q0 q1 z0 z1 hTl HT
  try simp only [Act.put, List.getElem_toArray, List.getElem_cons_zero, List.getElem_cons_succ, List.setIfInBounds_toArray, List.set_cons_zero, List.set_cons_succ]
  refine wpAnyH_take (i := 12) (v := ?_) rfl (by kernel_rfl) (by kernel_rfl) (by kernel_rfl) (fun _ _ _ h => h) (Or.inl ⟨by kernel_rfl, ?_⟩) hS ?_
  rotate_left
  · intro w' hS'
    have hq := hS'.1
    have hq2 := hS'.2
    clear hS'
    first | (go_simp; done) | (go_simp; with_reducible rfl)
  try simp only [Act.put, List.getElem_toArray, List.getElem_cons_zero, List.getElem_cons_succ, List.setIfInBounds_toArray, List.set_cons_zero, List.set_cons_succ]
  refine wpAnyH_done (by kernel_rfl) ?_ _
  have HR7 := hide (heap_kept hS.2 HR'.out)
  have HX7 := hide (heap_kept hS.2 HX'.out)
  have hkw7 := hkW.trans' hS.2
  have hRl : w.heap.size + 1 < w7.heap.size := heap_lt HR7.out
  clear hS HT7 hg7 c1 x0 hXl hGl hf HR' HX' hTr hkW hMW
  obtain ⟨W, rfl⟩ : ∃ W, W = w7 := ⟨_, rfl⟩
  go_upto_region 8 with (fail)
  have HGw := heap_kept hkw7 HG'.out
  have c0 := cell_heap HGw (o := 0) rfl
  have hGl := heap_lt HGw
  have hXl := heap_lt HX7.out
  have hDw := inX_low (inX_kept hD hkw7)
  have hcw := hcf.kept hkw7
  refine wp_region_held_drew (S := fun w' => (∀ b o, b < W.heap.size → w'.cell? ⟨b, o, none⟩ = W.cell? ⟨b, o, none⟩) ∧ Below W.heap.size W w') (by kernel_rfl) since_start (fun hS => ?_)
  refine wpAnyH_take (i := 0) (v := ?_) rfl (by kernel_rfl) (by kernel_rfl) (by kernel_rfl) (fun _ _ _ h => h) (Or.inl ⟨by kernel_rfl, ?_⟩) hS ?_
  rotate_left
  · intro w' hS'
    have hq := hS'.1
    have hq2 := hS'.2
    clear hS'
    first | (go_simp; done) | (go_simp; with_reducible rfl)
  try simp only [Act.put, List.getElem_toArray, List.getElem_cons_zero, List.getElem_cons_succ, List.setIfInBounds_toArray, List.set_cons_zero, List.set_cons_succ]
  refine wpAnyH_take (i := 1) (v := ?_) rfl (by kernel_rfl) (by kernel_rfl) (by kernel_rfl) (fun _ _ _ h => h) (Or.inl ⟨by kernel_rfl, ?_⟩) hS ?_
  rotate_left
  · intro w' hS'
    have hq := hS'.1
    have hq2 := hS'.2
    clear hS'
    first | (go_simp; done) | (go_simp; with_reducible rfl)
  try simp only [Act.put, List.getElem_toArray, List.getElem_cons_zero, List.getElem_cons_succ, List.setIfInBounds_toArray, List.set_cons_zero, List.set_cons_succ]
  refine wpAnyH_take (i := 2) (v := ?_) rfl (by kernel_rfl) (by kernel_rfl) (by kernel_rfl) (fun _ _ _ h => h) (Or.inl ⟨by kernel_rfl, ?_⟩) hS ?_
  rotate_left
  · intro w' hS'
    have hq := hS'.1
    have hq2 := hS'.2
    clear hS'
    first | (go_simp; done) | (go_simp; with_reducible rfl)
  try simp only [Act.put, List.getElem_toArray, List.getElem_cons_zero, List.getElem_cons_succ, List.setIfInBounds_toArray, List.set_cons_zero, List.set_cons_succ]
  refine wpAnyH_take (i := 3) (v := ?_) rfl (by kernel_rfl) (by kernel_rfl) (by kernel_rfl) (fun _ _ _ h => h) (Or.inl ⟨by kernel_rfl, ?_⟩) hS ?_
  rotate_left
  · intro w' hS'
    have hq := hS'.1
    have hq2 := hS'.2
    clear hS'
    first | (go_simp; done) | (go_simp; with_reducible rfl)
  try simp only [Act.put, List.getElem_toArray, List.getElem_cons_zero, List.getElem_cons_succ, List.setIfInBounds_toArray, List.set_cons_zero, List.set_cons_succ]
  refine wpAnyH_take (i := 4) (v := ?_) rfl (by kernel_rfl) (by kernel_rfl) (by kernel_rfl) (fun _ _ _ h => h) (Or.inl ⟨by kernel_rfl, ?_⟩) hS ?_
  rotate_left
  · intro w' hS'
    refine run_load_row 34 (.tmp 4) ?_ w.heap.size ?_ 34 _ (0, 0) _ (heap_below hS'.2 HX7.out hXl) Try.underlying34 rfl (by kernel_rfl)
    · rfl
    · rfl
  try simp only [Act.put, List.getElem_toArray, List.getElem_cons_zero, List.getElem_cons_succ, List.setIfInBounds_toArray, List.set_cons_zero, List.set_cons_succ]
  refine wpAnyH_take (i := 5) (v := ?_) rfl (by kernel_rfl) (by kernel_rfl) (by kernel_rfl) (fun _ _ _ h => h) (Or.inl ⟨by kernel_rfl, ?_⟩) hS ?_
  rotate_left
  · intro w' hS'
    have hq := hS'.1
    have hq2 := hS'.2
    clear hS'
    first | (go_simp; done) | (go_simp; with_reducible rfl)
  try simp only [Act.put, List.getElem_toArray, List.getElem_cons_zero, List.getElem_cons_succ, List.setIfInBounds_toArray, List.set_cons_zero, List.set_cons_succ]
  refine wpAnyH_ready (rs := [6, 10]) (by kernel_rfl) (by simp) ?_
  refine AllReadyH.cons rfl (fun K hK => ?_) (AllReadyH.cons rfl (fun K hK => ?_) AllReadyH.nil)
  · go_simp
    go_at_call 19
    refine (choose_new _ nl nl l (a : Int) vn p A2 m2 c2 cfs cur _ hnl (by exact hDw) Hal.out hck hm2 (by exact hcw)).mono ?_
    rw [Hch.out]
    dsimp only
    rintro e w5 ⟨A5, rfl, hs5, hk5⟩
    try dsimp only
    have k5 := since_keep hS (Nat.le_refl _) hk5
    refine hK.out _ _ ?_ (fun hS => ?_)
    · exact k5
    clear hK K k5
    try simp only [Act.put, List.getElem_toArray, List.getElem_cons_zero, List.getElem_cons_succ, List.setIfInBounds_toArray, List.set_cons_zero, List.set_cons_succ]
    refine wpAnyH_take (i := 7) (v := ?_) rfl (by kernel_rfl) (by kernel_rfl) (by kernel_rfl) (fun _ _ _ h => h) (Or.inl ⟨by kernel_rfl, ?_⟩) hS ?_
    rotate_left
    · intro w' hS'
      have hq := hS'.1
      have hq2 := hS'.2
      clear hS'
      first | (go_simp; done) | (go_simp; with_reducible rfl)
    try simp only [Act.put, List.getElem_toArray, List.getElem_cons_zero, List.getElem_cons_succ, List.setIfInBounds_toArray, List.set_cons_zero, List.set_cons_succ]
    refine wpAnyH_take (i := 8) (v := ?_) rfl (by kernel_rfl) (by kernel_rfl) (by kernel_rfl) (fun _ _ _ h => h) (Or.inl ⟨by kernel_rfl, ?_⟩) hS ?_
    rotate_left
    · intro w' hS'
      have hq := hS'.1
      have hq2 := hS'.2
      clear hS'
      first | (go_simp; done) | (go_simp; with_reducible rfl)
    try simp only [Act.put, List.getElem_toArray, List.getElem_cons_zero, List.getElem_cons_succ, List.setIfInBounds_toArray, List.set_cons_zero, List.set_cons_succ]
    refine wpAnyH_take (i := 9) (v := ?_) rfl (by kernel_rfl) (by kernel_rfl) (by kernel_rfl) (fun _ _ _ h => h) (Or.inl ⟨by kernel_rfl, ?_⟩) hS ?_
    rotate_left
    · intro w' hS'
      have hq := hS'.1
      have hq2 := hS'.2
      clear hS'
      first | (go_simp; done) | (go_simp; with_reducible rfl)
    try simp only [Act.put, List.getElem_toArray, List.getElem_cons_zero, List.getElem_cons_succ, List.setIfInBounds_toArray, List.set_cons_zero, List.set_cons_succ]
    obtain ⟨T, hT⟩ : ∃ T, T = w5.heap.size := ⟨_, rfl⟩
    have hsn := hs5.keep (F' := fun b => W.heap.size ≤ b ∧ b < T) (fun b hb => ⟨hb.1, by rw [hT]; exact hb.2⟩) (fun _ _ _ => rfl)
    have hk5r : W.heap.size ≤ w5.heap.size := hS.2.size
    refine wpAnyH_ready (rs := [10]) (by kernel_rfl) (by simp) ?_
    refine AllReadyH.cons rfl (fun K hK => ?_) AllReadyH.nil
    go_simp
    refine hK.out _ _ ?_ (fun hS => ?_)
    · exact since_alloc hS (Nat.le_refl _)
    clear hK K
    try simp only [Act.put, List.getElem_toArray, List.getElem_cons_zero, List.getElem_cons_succ, List.setIfInBounds_toArray, List.set_cons_zero, List.set_cons_succ]
    have HT : (w5.alloc (.cells #[.int .u8 0, .slice none 0 0] 63)).heap[T]? = some (.cells #[.int .u8 0, .slice none 0 0] 63 (0, 0)) := heap_at _ hT
    have hTr : W.heap.size ≤ T := by rw [hT]; exact hk5r
    have hsl6 : Sl i64T (w5.alloc (.cells #[.int .u8 0, .slice none 0 0] 63)) (fun b => W.heap.size ≤ b ∧ b < T) A5 L.length L := hsn.keep (fun _ hb => hb) (fun b o hb => World.cell?_alloc_lt _ _ _ (by rw [← hT]; exact hb.2))
    generalize (w5.alloc (.cells #[.int .u8 0, .slice none 0 0] 63)) = w6 at *
    rw [← hT]
    clear hT
    have hTw : T < w6.heap.size := heap_lt HT
    have q0 := cell_heap HT (o := 0) rfl
    have q1 := cell_heap HT (o := 1) rfl
    have z0 := frozen_heap HT (o := 0)
    have z1 := frozen_heap HT (o := 1)
    have hTl := heap_lt HT
    refine wpAnyH_ready (rs := [11]) (by kernel_rfl) (by simp) ?_
    refine AllReadyH.cons rfl (fun K hK => ?_) AllReadyH.nil
    go_simp
    have hS7 := since_below hS (((Below.refl W.heap.size w6).setCell hTr (p := ⟨T, 0, none⟩) (Value.int .u8 (q))).setCell hTr (p := ⟨T, 1, none⟩) (Value.slice A5 L.length L.length))
    have HT7 := heap_store (i := 1) (heap_store (i := 0) HT (Value.int .u8 (q))) (Value.slice A5 L.length L.length)
    have hg7 := grown_at (X := T) (grown_at (X := T) (grown_self (v := w6)) 0 (Value.int .u8 (q))) 1 (Value.slice A5 L.length L.length)
    generalize ((w6.setCell ⟨T, 0, none⟩ (Value.int .u8 (q))).setCell ⟨T, 1, none⟩ (Value.slice A5 L.length L.length)) = w7 at *
    refine hK.out _ _ ?_ (fun hS => ?_)
    · exact hS7
    clear hK K hS7 q0 q1 z0 z1 hTl HT
    try simp only [Act.put, List.getElem_toArray, List.getElem_cons_zero, List.getElem_cons_succ, List.setIfInBounds_toArray, List.set_cons_zero, List.set_cons_succ]
    refine wpAnyH_take (i := 12) (v := ?_) rfl (by kernel_rfl) (by kernel_rfl) (by kernel_rfl) (fun _ _ _ h => h) (Or.inl ⟨by kernel_rfl, ?_⟩) hS ?_
    rotate_left
    · intro w' hS'
      have hq := hS'.1
      have hq2 := hS'.2
      clear hS'
      first | (go_simp; done) | (go_simp; with_reducible rfl)
    try simp only [Act.put, List.getElem_toArray, List.getElem_cons_zero, List.getElem_cons_succ, List.setIfInBounds_toArray, List.set_cons_zero, List.set_cons_succ]
    refine wpAnyH_done (by kernel_rfl) ?_ _
    have hsl7 : Sl i64T w7 (fun b => W.heap.size ≤ b ∧ b < w7.heap.size) A5 L.length L := hsl6.grown hg7 (fun b hb => ⟨by have := hb.2; omega, fun e => by injection e with e; have := hb.2; omega⟩) (fun b hb => ⟨hb.1, by have := hb.2; have := hg7.size; omega⟩)
    clear hsn hs5 hsl6 hTw hk5r
    go_upto_region 9 with (fail)
    refine wp_at (fun W8 => W8.heap[T]? = some (.cells #[.int .u8 q, .slice A5 L.length L.length] 63 (0, 0)) ∧ Kept W W8 ∧ Sl i64T W8 (fun b => W.heap.size ≤ b ∧ b < W8.heap.size) A5 L.length L) ⟨HT7, hS.2, hsl7⟩ (fun W8 hW8 => ?_)
    obtain ⟨HT8, hk8, hsl8⟩ := hW8
    have hTr' : W.heap.size ≤ T := hTr
    clear hS HT7 hsl7 hg7 hTr
    have hkw8 := hkw7.trans' hk8
    have HR8 := heap_kept hk8 HR7.out
    have HX8 := heap_kept hk8 HX7.out
    have HG8 := heap_kept hk8 HGw
    have hM8 := HM.out.keep hkw8
    clear c0 hGl hXl hDw hcw hk8 HGw
    by_cases he : e = 0
    · subst he
      go_upto_region 11 with (fail)
      have g1 := cell_heap HG8 (o := 1) rfl
      have x0 := cell_heap HX8 (o := 0) rfl
      have t0 := cell_heap HT8 (o := 0) rfl
      have t1 := cell_heap HT8 (o := 1) rfl
      have hGl := heap_lt HG8
      have hXl := heap_lt HX8
      have hTl := heap_lt HT8
      have hGm : G ≠ m := fun e => hmX (by rw [← e]; exact hGX)
      have hXm : w.heap.size ≠ m := by omega
      have hTm : T ≠ m := by have := hkw7.size; omega
      refine wp_region_held_drew (S := But W8 m) (by kernel_rfl) But.start (fun hS => ?_)
      refine wpAnyH_take (i := 0) (v := ?_) rfl (by kernel_rfl) (by kernel_rfl) (by kernel_rfl) (fun _ _ _ h => h) (Or.inl ⟨by kernel_rfl, ?_⟩) hS ?_
      rotate_left
      · intro w' hS'
        have hq := hS'.1
        have hq2 := hS'.2
        clear hS'
        first | (go_simp; done) | (go_simp; with_reducible rfl)
      try simp only [Act.put, List.getElem_toArray, List.getElem_cons_zero, List.getElem_cons_succ, List.setIfInBounds_toArray, List.set_cons_zero, List.set_cons_succ]
      refine wpAnyH_take (i := 1) (v := ?_) rfl (by kernel_rfl) (by kernel_rfl) (by kernel_rfl) (fun _ _ _ h => h) (Or.inl ⟨by kernel_rfl, ?_⟩) hS ?_
      rotate_left
      · intro w' hS'
        have hq := hS'.1
        have hq2 := hS'.2
        clear hS'
        first | (go_simp; done) | (go_simp; with_reducible rfl)
      try simp only [Act.put, List.getElem_toArray, List.getElem_cons_zero, List.getElem_cons_succ, List.setIfInBounds_toArray, List.set_cons_zero, List.set_cons_succ]
      refine wpAnyH_take (i := 2) (v := ?_) rfl (by kernel_rfl) (by kernel_rfl) (by kernel_rfl) (fun _ _ _ h => h) (Or.inl ⟨by kernel_rfl, ?_⟩) hS ?_
      rotate_left
      · intro w' hS'
        have hq := hS'.1
        have hq2 := hS'.2
        clear hS'
        first | (go_simp; done) | (go_simp; with_reducible rfl)
      try simp only [Act.put, List.getElem_toArray, List.getElem_cons_zero, List.getElem_cons_succ, List.setIfInBounds_toArray, List.set_cons_zero, List.set_cons_succ]
      refine wpAnyH_take (i := 3) (v := ?_) rfl (by kernel_rfl) (by kernel_rfl) (by kernel_rfl) (fun _ _ _ h => h) (Or.inl ⟨by kernel_rfl, ?_⟩) hS ?_
      rotate_left
      · intro w' hS'
        have hq := hS'.1
        have hq2 := hS'.2
        clear hS'
        first | (go_simp; done) | (go_simp; with_reducible rfl)
      try simp only [Act.put, List.getElem_toArray, List.getElem_cons_zero, List.getElem_cons_succ, List.setIfInBounds_toArray, List.set_cons_zero, List.set_cons_succ]
      refine wpAnyH_take (i := 4) (v := ?_) rfl (by kernel_rfl) (by kernel_rfl) (by kernel_rfl) (fun _ _ _ h => h) (Or.inl ⟨by kernel_rfl, ?_⟩) hS ?_
      rotate_left
      · intro w' hS'
        have hq := hS'.1
        have hq2 := hS'.2
        clear hS'
        first | (go_simp; done) | (go_simp; with_reducible rfl)
      try simp only [Act.put, List.getElem_toArray, List.getElem_cons_zero, List.getElem_cons_succ, List.setIfInBounds_toArray, List.set_cons_zero, List.set_cons_succ]
      refine wpAnyH_take (i := 5) (v := ?_) rfl (by kernel_rfl) (by kernel_rfl) (by kernel_rfl) (fun _ _ _ h => h) (Or.inl ⟨by kernel_rfl, ?_⟩) hS ?_
      rotate_left
      · intro w' hS'
        have hq := hS'.1
        have hq2 := hS'.2
        clear hS'
        first | (go_simp; done) | (go_simp; with_reducible rfl)
      try simp only [Act.put, List.getElem_toArray, List.getElem_cons_zero, List.getElem_cons_succ, List.setIfInBounds_toArray, List.set_cons_zero, List.set_cons_succ]
      refine wpAnyH_take (i := 6) (v := ?_) rfl (by kernel_rfl) (by kernel_rfl) (by kernel_rfl) (fun _ _ _ h => h) (Or.inl ⟨by kernel_rfl, ?_⟩) hS ?_
      rotate_left
      · intro w' hS'
        have hq := hS'.1
        have hq2 := hS'.2
        clear hS'
        first | (go_simp; done) | (go_simp; with_reducible rfl)
      try simp only [Act.put, List.getElem_toArray, List.getElem_cons_zero, List.getElem_cons_succ, List.setIfInBounds_toArray, List.set_cons_zero, List.set_cons_succ]
      refine wpAnyH_ready (rs := [7]) (by kernel_rfl) (by simp) ?_
      refine AllReadyH.cons rfl (fun K hK => ?_) AllReadyH.nil
      obtain ⟨w11, hrun, hM11, hg11⟩ := (hM8.keep (Below.refl _ _).drew).update (int_keyed Try.underlying5) Try.underlying87 hKm (.agg #[.int .u8 q, .slice A5 L.length L.length]) (key8 ha)
      go_simp
      refine hK.out _ _ ?_ (fun hS => ?_)
      · exact hS.then hg11
      clear hK K hrun
      try simp only [Act.put, List.getElem_toArray, List.getElem_cons_zero, List.getElem_cons_succ, List.setIfInBounds_toArray, List.set_cons_zero, List.set_cons_succ]
      refine wpAnyH_done (by kernel_rfl) ?_ _
      clear hS g1 x0 t0 t1 hGl hXl hTl
      have hg11 : W8.grownBy w11 (some m) := ⟨hg11.os, hg11.tape, hg11.output, hg11.size, hg11.block⟩
      have hWs := hkw7.size
      have HT11 := hide (heap_but hg11 HT8 hTm)
      have HR11 := hide (heap_but hg11 HR8 (by omega))
      have hsl11 : Sl i64T w11 (fun b => W.heap.size ≤ b ∧ b < w11.heap.size) A5 L.length L := hsl8.grown hg11 (fun b hb => ⟨hb.2, fun e => by injection e with e; have := hb.1; omega⟩) (fun b hb => ⟨hb.1, by have := hb.2; have := hg11.size; omega⟩)
      have hv : Look W8 (fun b => X b ∧ b ≠ w.heap.size + 1) (some (.agg #[.int .u8 q, .slice A5 L.length L.length])) (some (q, L)) := ⟨A5, rfl, hsl8.keep (fun b hb => ⟨hb.2, hXn b (by have := hb.1; omega), by have := hb.1; omega⟩) (fun _ _ _ => rfl)⟩
      have hGs := heap_lt HG'.out
      have HReg := hide (Reg.after HG8 (inX_kept hD hkw8) hg11 (fun h => hmX h.1) ⟨hGX, by omega⟩ hM11 (look_put HL.out hkw8 ha hv))
      have hgw11 := hide (grown_comp (grown_any hkw8) hg11)
      clear hv hM11 hg11 HT8 HR8 HX8 HG8 hM8 hsl8
      go_upto_region 12 with (fail)
      have t0 := cell_heap HT11.out (o := 0) rfl
      have t1 := cell_heap HT11.out (o := 1) rfl
      have hTl := heap_lt HT11.out
      have hTR : T ≠ w.heap.size + 1 := by omega
      refine wp_region_held_drew (S := But w11 (w.heap.size + 1)) (by kernel_rfl) But.start (fun hS => ?_)
      refine wpAnyH_take (i := 0) (v := ?_) rfl (by kernel_rfl) (by kernel_rfl) (by kernel_rfl) (fun _ _ _ h => h) (Or.inl ⟨by kernel_rfl, ?_⟩) hS ?_
      rotate_left
      · intro w' hS'
        have hq := hS'.1
        have hq2 := hS'.2
        clear hS'
        first | (go_simp; done) | (go_simp; with_reducible rfl)
      try simp only [Act.put, List.getElem_toArray, List.getElem_cons_zero, List.getElem_cons_succ, List.setIfInBounds_toArray, List.set_cons_zero, List.set_cons_succ]
      refine wpAnyH_take (i := 1) (v := ?_) rfl (by kernel_rfl) (by kernel_rfl) (by kernel_rfl) (fun _ _ _ h => h) (Or.inl ⟨by kernel_rfl, ?_⟩) hS ?_
      rotate_left
      · intro w' hS'
        have hq := hS'.1
        have hq2 := hS'.2
        clear hS'
        first | (go_simp; done) | (go_simp; with_reducible rfl)
      try simp only [Act.put, List.getElem_toArray, List.getElem_cons_zero, List.getElem_cons_succ, List.setIfInBounds_toArray, List.set_cons_zero, List.set_cons_succ]
      refine wpAnyH_take (i := 2) (v := ?_) rfl (by kernel_rfl) (by kernel_rfl) (by kernel_rfl) (fun _ _ _ h => h) (Or.inl ⟨by kernel_rfl, ?_⟩) hS ?_
      rotate_left
      · intro w' hS'
        have hq := hS'.1
        have hq2 := hS'.2
        clear hS'
        first | (go_simp; done) | (go_simp; with_reducible rfl)
      try simp only [Act.put, List.getElem_toArray, List.getElem_cons_zero, List.getElem_cons_succ, List.setIfInBounds_toArray, List.set_cons_zero, List.set_cons_succ]
      refine wpAnyH_take (i := 3) (v := ?_) rfl (by kernel_rfl) (by kernel_rfl) (by kernel_rfl) (fun _ _ _ h => h) (Or.inl ⟨by kernel_rfl, ?_⟩) hS ?_
      rotate_left
      · intro w' hS'
        have hq := hS'.1
        have hq2 := hS'.2
        clear hS'
        first | (go_simp; done) | (go_simp; with_reducible rfl)
      try simp only [Act.put, List.getElem_toArray, List.getElem_cons_zero, List.getElem_cons_succ, List.setIfInBounds_toArray, List.set_cons_zero, List.set_cons_succ]
      refine wpAnyH_ready (rs := [4]) (by kernel_rfl) (by simp) ?_
      refine AllReadyH.cons rfl (fun K hK => ?_) AllReadyH.nil
      go_simp
      go_at_call 41
      refine (clone41 A5 L.length L.length L w11.drew (by omega) (by exact hsl11.keep (fun b hb => hb.2) (fun _ _ _ => rfl))).mono ?_
      rintro e w12 ⟨A6, c6, rfl, h61, h62, hs6, hk12⟩
      try dsimp only
      have k12 := hS.then (grown_any hk12)
      refine hK.out _ _ ?_ (fun hS => ?_)
      · exact k12
      clear hK K k12
      try simp only [Act.put, List.getElem_toArray, List.getElem_cons_zero, List.getElem_cons_succ, List.setIfInBounds_toArray, List.set_cons_zero, List.set_cons_succ]
      refine wpAnyH_ready (rs := [5]) (by kernel_rfl) (by simp) ?_
      refine AllReadyH.cons rfl (fun K hK => ?_) AllReadyH.nil
      go_simp
      go_at_call 40
      refine (clip40 A6 L.length c6 h61 h62 _).mono ?_
      rintro e w13 ⟨rfl, rfl⟩
      try dsimp only
      refine hK.out _ _ ?_ (fun hS => ?_)
      · exact hS
      clear hK K
      try simp only [Act.put, List.getElem_toArray, List.getElem_cons_zero, List.getElem_cons_succ, List.setIfInBounds_toArray, List.set_cons_zero, List.set_cons_succ]
      refine wpAnyH_take (i := 6) (v := ?_) rfl (by kernel_rfl) (by kernel_rfl) (by kernel_rfl) (fun _ _ _ h => h) (Or.inl ⟨by kernel_rfl, ?_⟩) hS ?_
      rotate_left
      · intro w' hS'
        have hq := hS'.1
        have hq2 := hS'.2
        clear hS'
        first | (go_simp; done) | (go_simp; with_reducible rfl)
      try simp only [Act.put, List.getElem_toArray, List.getElem_cons_zero, List.getElem_cons_succ, List.setIfInBounds_toArray, List.set_cons_zero, List.set_cons_succ]
      have HR12 := heap_kept hk12 (heap_drew HR11.out)
      have r0 := cell_heap HR12 (o := 0) rfl
      have r1 := cell_heap HR12 (o := 1) rfl
      have z0 := frozen_heap HR12 (o := 0)
      have z1 := frozen_heap HR12 (o := 1)
      have hRl := heap_lt HR12
      refine wpAnyH_ready (rs := [7]) (by kernel_rfl) (by simp) ?_
      refine AllReadyH.cons rfl (fun K hK => ?_) AllReadyH.nil
      go_simp
      have hg13 := grown_at (X := w.heap.size + 1) (grown_at (X := w.heap.size + 1) (grown_self (v := w12)) 0 (Value.int .u8 q)) 1 (Value.slice A6 L.length L.length)
      have hbS := hS.then hg13
      have HR13 := heap_store (i := 1) (heap_store (i := 0) HR12 (Value.int .u8 q)) (Value.slice A6 L.length L.length)
      generalize ((w12.setCell ⟨w.heap.size + 1, 0, none⟩ (Value.int .u8 q)).setCell ⟨w.heap.size + 1, 1, none⟩ (Value.slice A6 L.length L.length)) = w13 at *
      refine hK.out _ _ ?_ (fun hS => ?_)
      · exact hbS
      clear hK K hbS r0 r1 z0 z1 t0 t1 hTl
      try simp only [Act.put, List.getElem_toArray, List.getElem_cons_zero, List.getElem_cons_succ, List.setIfInBounds_toArray, List.set_cons_zero, List.set_cons_succ]
      refine wpAnyH_take (i := 8) (v := ?_) rfl (by kernel_rfl) (by kernel_rfl) (by kernel_rfl) (fun _ _ _ h => h) (Or.inl ⟨by kernel_rfl, ?_⟩) hS ?_
      rotate_left
      · intro w' hS'
        have hq := hS'.1
        have hq2 := hS'.2
        clear hS'
        first | (go_simp; done) | (go_simp; with_reducible rfl)
      try simp only [Act.put, List.getElem_toArray, List.getElem_cons_zero, List.getElem_cons_succ, List.setIfInBounds_toArray, List.set_cons_zero, List.set_cons_succ]
      refine wpAnyH_done (by kernel_rfl) ?_ _
      clear hS
      have q0 := cell_heap HR13 (o := 0) (v := .int .u8 q) rfl
      have q1 := cell_heap HR13 (o := 1) (v := .slice A6 L.length L.length) rfl
      have hkx : Kept w11 w12 := ⟨hk12.os, hk12.tape, hk12.output, hk12.size, hk12.block⟩
      have hgf := hide (grown_new (grown_comp hgw11.out (grown_any hkx)) hg13 (by omega))
      have hRf := hide (((HReg.out.kept hkx).grown hg13 (fun b e h => h.2 (by injection e)) ⟨hGX, by omega⟩ (by intro e; injection e with e; omega)).foot (X' := X) (fun b _ h => h.1))
      have hw11 : w.heap.size ≤ w11.heap.size := hgw11.out.size
      have hsf : Hid (Sl i64T w13 (fun g => w.heap.size ≤ g ∧ g < w13.heap.size) A6 L.length L) := hide (hs6.grown hg13 (fun b hb => ⟨hb.2, fun e => by injection e with e; have h1 : w11.heap.size ≤ b := hb.1; have h2 : w.heap.size + 1 < w11.heap.size := heap_lt HR11.out; omega⟩) (fun b hb => ⟨by have h1 : w11.heap.size ≤ b := hb.1; omega, by have := hb.2; have := hg13.size; omega⟩))
      clear hs6 hg13 HR12 HR13 hkx hk12
      go_wp2_with fail
      refine bodyPost_ret (v := .tuple #[.agg #[.int .u8 (q), .slice A6 L.length L.length], .int .i64 (0)]) (by simp [results, Try.results25, go_sem, q0, q1]) rfl ?_
      exact ⟨A6, rfl, hsf.out, hgf.out, hRf.out⟩
    · have he' : (e != 0) = true := by simpa using he
      have r0 := cell_heap HR8 (o := 0) rfl
      have r1 := cell_heap HR8 (o := 1) rfl
      have z0 := frozen_heap HR8 (o := 0)
      have z1 := frozen_heap HR8 (o := 1)
      have hRl8 := heap_lt HR8
      clear HT8 hsl8 HX8 HG8 hM8 HR8
      go_wp2_with fail
      refine bodyPost_ret (v := .tuple #[.agg #[.int .u8 (0), .slice none 0 0], .int .i64 (e)]) (by simp [results, Try.results25, go_sem, *]) rfl ?_
      exact Or.inl ⟨he, rfl, by go_grown⟩
  · go_simp
    refine hK.out _ _ ?_ (fun hS => ?_)
    · exact since_alloc hS (Nat.le_refl _)
    clear hK K
    try simp only [Act.put, List.getElem_toArray, List.getElem_cons_zero, List.getElem_cons_succ, List.setIfInBounds_toArray, List.set_cons_zero, List.set_cons_succ]
    have HT0 : (W.alloc (.cells #[.int .u8 0, .slice none 0 0] 63)).drew.heap[W.heap.size]? = some (.cells #[.int .u8 0, .slice none 0 0] 63 (0, 0)) := heap_drew (heap_at _ rfl)
    have hTr : W.heap.size ≤ W.heap.size := Nat.le_refl _
    have hDa : Sl drvT (W.alloc (.cells #[.int .u8 0, .slice none 0 0] 63)).drew (low (W.alloc (.cells #[.int .u8 0, .slice none 0 0] 63)).drew.heap.size) (some ⟨bd, 0, none⟩) nl l := hDw.kept hS.2
    have hca : Sl cfT (W.alloc (.cells #[.int .u8 0, .slice none 0 0] 63)).drew (low (W.alloc (.cells #[.int .u8 0, .slice none 0 0] 63)).drew.heap.size) A2 m2 cfs := hcw.kept hS.2
    have hTa := heap_lt HT0
    generalize (W.alloc (.cells #[.int .u8 0, .slice none 0 0] 63)).drew = w6 at *
    refine wpAnyH_ready (rs := [6]) (by kernel_rfl) (by simp) ?_
    refine AllReadyH.cons rfl (fun K hK => ?_) AllReadyH.nil
    go_simp
    go_at_call 19
    refine (choose_new _ nl nl l (a : Int) vn p A2 m2 c2 cfs cur _ hnl (by exact hDa) Hal.out hck hm2 (by exact hca)).mono ?_
    rw [Hch.out]
    dsimp only
    rintro e w5 ⟨A5, rfl, hs5, hk5⟩
    try dsimp only
    have k5 := since_keep hS (Nat.le_refl _) hk5
    have HT := heap_kept hk5 HT0
    refine hK.out _ _ ?_ (fun hS => ?_)
    · exact k5
    clear hK K k5 HT0 hDa hca
    try simp only [Act.put, List.getElem_toArray, List.getElem_cons_zero, List.getElem_cons_succ, List.setIfInBounds_toArray, List.set_cons_zero, List.set_cons_succ]
    refine wpAnyH_take (i := 7) (v := ?_) rfl (by kernel_rfl) (by kernel_rfl) (by kernel_rfl) (fun _ _ _ h => h) (Or.inl ⟨by kernel_rfl, ?_⟩) hS ?_
    rotate_left
    · intro w' hS'
      have hq := hS'.1
      have hq2 := hS'.2
      clear hS'
      first | (go_simp; done) | (go_simp; with_reducible rfl)
    try simp only [Act.put, List.getElem_toArray, List.getElem_cons_zero, List.getElem_cons_succ, List.setIfInBounds_toArray, List.set_cons_zero, List.set_cons_succ]
    refine wpAnyH_take (i := 8) (v := ?_) rfl (by kernel_rfl) (by kernel_rfl) (by kernel_rfl) (fun _ _ _ h => h) (Or.inl ⟨by kernel_rfl, ?_⟩) hS ?_
    rotate_left
    · intro w' hS'
      have hq := hS'.1
      have hq2 := hS'.2
      clear hS'
      first | (go_simp; done) | (go_simp; with_reducible rfl)
    try simp only [Act.put, List.getElem_toArray, List.getElem_cons_zero, List.getElem_cons_succ, List.setIfInBounds_toArray, List.set_cons_zero, List.set_cons_succ]
    refine wpAnyH_take (i := 9) (v := ?_) rfl (by kernel_rfl) (by kernel_rfl) (by kernel_rfl) (fun _ _ _ h => h) (Or.inl ⟨by kernel_rfl, ?_⟩) hS ?_
    rotate_left
    · intro w' hS'
      have hq := hS'.1
      have hq2 := hS'.2
      clear hS'
      first | (go_simp; done) | (go_simp; with_reducible rfl)
    try simp only [Act.put, List.getElem_toArray, List.getElem_cons_zero, List.getElem_cons_succ, List.setIfInBounds_toArray, List.set_cons_zero, List.set_cons_succ]
    have q0 := cell_heap HT (o := 0) rfl
    have q1 := cell_heap HT (o := 1) rfl
    have z0 := frozen_heap HT (o := 0)
    have z1 := frozen_heap HT (o := 1)
    have hTl := heap_lt HT
    refine wpAnyH_ready (rs := [11]) (by kernel_rfl) (by simp) ?_
    refine AllReadyH.cons rfl (fun K hK => ?_) AllReadyH.nil
    go_simp
    have hS7 := since_below hS (((Below.refl W.heap.size w5).setCell hTr (p := ⟨W.heap.size, 0, none⟩) (Value.int .u8 (q))).setCell hTr (p := ⟨W.heap.size, 1, none⟩) (Value.slice A5 L.length L.length))
    have HT7 := heap_store (i := 1) (heap_store (i := 0) HT (Value.int .u8 (q))) (Value.slice A5 L.length L.length)
    have hg7 := grown_at (X := W.heap.size) (grown_at (X := W.heap.size) (grown_self (v := w5)) 0 (Value.int .u8 (q))) 1 (Value.slice A5 L.length L.length)
    generalize ((w5.setCell ⟨W.heap.size, 0, none⟩ (Value.int .u8 (q))).setCell ⟨W.heap.size, 1, none⟩ (Value.slice A5 L.length L.length)) = w7 at *
    refine hK.out _ _ ?_ (fun hS => ?_)
    · exact hS7
    clear hK K hS7 q0 q1 z0 z1 hTl HT
    try simp only [Act.put, List.getElem_toArray, List.getElem_cons_zero, List.getElem_cons_succ, List.setIfInBounds_toArray, List.set_cons_zero, List.set_cons_succ]
    refine wpAnyH_take (i := 12) (v := ?_) rfl (by kernel_rfl) (by kernel_rfl) (by kernel_rfl) (fun _ _ _ h => h) (Or.inl ⟨by kernel_rfl, ?_⟩) hS ?_
    rotate_left
    · intro w' hS'
      have hq := hS'.1
      have hq2 := hS'.2
      clear hS'
      first | (go_simp; done) | (go_simp; with_reducible rfl)
    try simp only [Act.put, List.getElem_toArray, List.getElem_cons_zero, List.getElem_cons_succ, List.setIfInBounds_toArray, List.set_cons_zero, List.set_cons_succ]
    refine wpAnyH_done (by kernel_rfl) ?_ _
    have hsl7 : Sl i64T w7 (fun b => W.heap.size ≤ b ∧ b < w7.heap.size) A5 L.length L := hs5.grown hg7 (fun b hb => ⟨hb.2, fun e => by injection e with e; have := hb.1; omega⟩) (fun b hb => ⟨by have := hb.1; omega, by have := hb.2; have := hg7.size; omega⟩)
    clear hs5
    go_upto_region 9 with (fail)
    refine wp_at (fun W8 => W8.heap[W.heap.size]? = some (.cells #[.int .u8 q, .slice A5 L.length L.length] 63 (0, 0)) ∧ Kept W W8 ∧ Sl i64T W8 (fun b => W.heap.size ≤ b ∧ b < W8.heap.size) A5 L.length L) ⟨HT7, hS.2, hsl7⟩ (fun W8 hW8 => ?_)
    obtain ⟨HT8, hk8, hsl8⟩ := hW8
    have hTr' : W.heap.size ≤ W.heap.size := hTr
    clear hS HT7 hsl7 hg7 hTr
    have hkw8 := hkw7.trans' hk8
    have HR8 := heap_kept hk8 HR7.out
    have HX8 := heap_kept hk8 HX7.out
    have HG8 := heap_kept hk8 HGw
    have hM8 := HM.out.keep hkw8
    clear c0 hGl hXl hDw hcw hk8 HGw
    by_cases he : e = 0
    · subst he
      go_upto_region 11 with (fail)
      have g1 := cell_heap HG8 (o := 1) rfl
      have x0 := cell_heap HX8 (o := 0) rfl
      have t0 := cell_heap HT8 (o := 0) rfl
      have t1 := cell_heap HT8 (o := 1) rfl
      have hGl := heap_lt HG8
      have hXl := heap_lt HX8
      have hTl := heap_lt HT8
      have hGm : G ≠ m := fun e => hmX (by rw [← e]; exact hGX)
      have hXm : w.heap.size ≠ m := by omega
      have hTm : W.heap.size ≠ m := by have := hkw7.size; omega
      refine wp_region_held_drew (S := But W8 m) (by kernel_rfl) But.start (fun hS => ?_)
      refine wpAnyH_take (i := 0) (v := ?_) rfl (by kernel_rfl) (by kernel_rfl) (by kernel_rfl) (fun _ _ _ h => h) (Or.inl ⟨by kernel_rfl, ?_⟩) hS ?_
      rotate_left
      · intro w' hS'
        have hq := hS'.1
        have hq2 := hS'.2
        clear hS'
        first | (go_simp; done) | (go_simp; with_reducible rfl)
      try simp only [Act.put, List.getElem_toArray, List.getElem_cons_zero, List.getElem_cons_succ, List.setIfInBounds_toArray, List.set_cons_zero, List.set_cons_succ]
      refine wpAnyH_take (i := 1) (v := ?_) rfl (by kernel_rfl) (by kernel_rfl) (by kernel_rfl) (fun _ _ _ h => h) (Or.inl ⟨by kernel_rfl, ?_⟩) hS ?_
      rotate_left
      · intro w' hS'
        have hq := hS'.1
        have hq2 := hS'.2
        clear hS'
        first | (go_simp; done) | (go_simp; with_reducible rfl)
      try simp only [Act.put, List.getElem_toArray, List.getElem_cons_zero, List.getElem_cons_succ, List.setIfInBounds_toArray, List.set_cons_zero, List.set_cons_succ]
      refine wpAnyH_take (i := 2) (v := ?_) rfl (by kernel_rfl) (by kernel_rfl) (by kernel_rfl) (fun _ _ _ h => h) (Or.inl ⟨by kernel_rfl, ?_⟩) hS ?_
      rotate_left
      · intro w' hS'
        have hq := hS'.1
        have hq2 := hS'.2
        clear hS'
        first | (go_simp; done) | (go_simp; with_reducible rfl)
      try simp only [Act.put, List.getElem_toArray, List.getElem_cons_zero, List.getElem_cons_succ, List.setIfInBounds_toArray, List.set_cons_zero, List.set_cons_succ]
      refine wpAnyH_take (i := 3) (v := ?_) rfl (by kernel_rfl) (by kernel_rfl) (by kernel_rfl) (fun _ _ _ h => h) (Or.inl ⟨by kernel_rfl, ?_⟩) hS ?_
      rotate_left
      · intro w' hS'
        have hq := hS'.1
        have hq2 := hS'.2
        clear hS'
        first | (go_simp; done) | (go_simp; with_reducible rfl)
      try simp only [Act.put, List.getElem_toArray, List.getElem_cons_zero, List.getElem_cons_succ, List.setIfInBounds_toArray, List.set_cons_zero, List.set_cons_succ]
      refine wpAnyH_take (i := 4) (v := ?_) rfl (by kernel_rfl) (by kernel_rfl) (by kernel_rfl) (fun _ _ _ h => h) (Or.inl ⟨by kernel_rfl, ?_⟩) hS ?_
      rotate_left
      · intro w' hS'
        have hq := hS'.1
        have hq2 := hS'.2
        clear hS'
        first | (go_simp; done) | (go_simp; with_reducible rfl)
      try simp only [Act.put, List.getElem_toArray, List.getElem_cons_zero, List.getElem_cons_succ, List.setIfInBounds_toArray, List.set_cons_zero, List.set_cons_succ]
      refine wpAnyH_take (i := 5) (v := ?_) rfl (by kernel_rfl) (by kernel_rfl) (by kernel_rfl) (fun _ _ _ h => h) (Or.inl ⟨by kernel_rfl, ?_⟩) hS ?_
      rotate_left
      · intro w' hS'
        have hq := hS'.1
        have hq2 := hS'.2
        clear hS'
        first | (go_simp; done) | (go_simp; with_reducible rfl)
      try simp only [Act.put, List.getElem_toArray, List.getElem_cons_zero, List.getElem_cons_succ, List.setIfInBounds_toArray, List.set_cons_zero, List.set_cons_succ]
      refine wpAnyH_take (i := 6) (v := ?_) rfl (by kernel_rfl) (by kernel_rfl) (by kernel_rfl) (fun _ _ _ h => h) (Or.inl ⟨by kernel_rfl, ?_⟩) hS ?_
      rotate_left
      · intro w' hS'
        have hq := hS'.1
        have hq2 := hS'.2
        clear hS'
        first | (go_simp; done) | (go_simp; with_reducible rfl)
      try simp only [Act.put, List.getElem_toArray, List.getElem_cons_zero, List.getElem_cons_succ, List.setIfInBounds_toArray, List.set_cons_zero, List.set_cons_succ]
      refine wpAnyH_ready (rs := [7]) (by kernel_rfl) (by simp) ?_
      refine AllReadyH.cons rfl (fun K hK => ?_) AllReadyH.nil
      obtain ⟨w11, hrun, hM11, hg11⟩ := (hM8.keep (Below.refl _ _).drew).update (int_keyed Try.underlying5) Try.underlying87 hKm (.agg #[.int .u8 q, .slice A5 L.length L.length]) (key8 ha)
      go_simp
      refine hK.out _ _ ?_ (fun hS => ?_)
      · exact hS.then hg11
      clear hK K hrun
      try simp only [Act.put, List.getElem_toArray, List.getElem_cons_zero, List.getElem_cons_succ, List.setIfInBounds_toArray, List.set_cons_zero, List.set_cons_succ]
      refine wpAnyH_done (by kernel_rfl) ?_ _
      clear hS g1 x0 t0 t1 hGl hXl hTl
      have hg11 : W8.grownBy w11 (some m) := ⟨hg11.os, hg11.tape, hg11.output, hg11.size, hg11.block⟩
      have hWs := hkw7.size
      have HT11 := hide (heap_but hg11 HT8 hTm)
      have HR11 := hide (heap_but hg11 HR8 (by omega))
      have hsl11 : Sl i64T w11 (fun b => W.heap.size ≤ b ∧ b < w11.heap.size) A5 L.length L := hsl8.grown hg11 (fun b hb => ⟨hb.2, fun e => by injection e with e; have := hb.1; omega⟩) (fun b hb => ⟨hb.1, by have := hb.2; have := hg11.size; omega⟩)
      have hv : Look W8 (fun b => X b ∧ b ≠ w.heap.size + 1) (some (.agg #[.int .u8 q, .slice A5 L.length L.length])) (some (q, L)) := ⟨A5, rfl, hsl8.keep (fun b hb => ⟨hb.2, hXn b (by have := hb.1; omega), by have := hb.1; omega⟩) (fun _ _ _ => rfl)⟩
      have hGs := heap_lt HG'.out
      have HReg := hide (Reg.after HG8 (inX_kept hD hkw8) hg11 (fun h => hmX h.1) ⟨hGX, by omega⟩ hM11 (look_put HL.out hkw8 ha hv))
      have hgw11 := hide (grown_comp (grown_any hkw8) hg11)
      clear hv hM11 hg11 HT8 HR8 HX8 HG8 hM8 hsl8
      go_upto_region 12 with (fail)
      have t0 := cell_heap HT11.out (o := 0) rfl
      have t1 := cell_heap HT11.out (o := 1) rfl
      have hTl := heap_lt HT11.out
      have hTR : W.heap.size ≠ w.heap.size + 1 := by omega
      refine wp_region_held_drew (S := But w11 (w.heap.size + 1)) (by kernel_rfl) But.start (fun hS => ?_)
      refine wpAnyH_take (i := 0) (v := ?_) rfl (by kernel_rfl) (by kernel_rfl) (by kernel_rfl) (fun _ _ _ h => h) (Or.inl ⟨by kernel_rfl, ?_⟩) hS ?_
      rotate_left
      · intro w' hS'
        have hq := hS'.1
        have hq2 := hS'.2
        clear hS'
        first | (go_simp; done) | (go_simp; with_reducible rfl)
      try simp only [Act.put, List.getElem_toArray, List.getElem_cons_zero, List.getElem_cons_succ, List.setIfInBounds_toArray, List.set_cons_zero, List.set_cons_succ]
      refine wpAnyH_take (i := 1) (v := ?_) rfl (by kernel_rfl) (by kernel_rfl) (by kernel_rfl) (fun _ _ _ h => h) (Or.inl ⟨by kernel_rfl, ?_⟩) hS ?_
      rotate_left
      · intro w' hS'
        have hq := hS'.1
        have hq2 := hS'.2
        clear hS'
        first | (go_simp; done) | (go_simp; with_reducible rfl)
      try simp only [Act.put, List.getElem_toArray, List.getElem_cons_zero, List.getElem_cons_succ, List.setIfInBounds_toArray, List.set_cons_zero, List.set_cons_succ]
      refine wpAnyH_take (i := 2) (v := ?_) rfl (by kernel_rfl) (by kernel_rfl) (by kernel_rfl) (fun _ _ _ h => h) (Or.inl ⟨by kernel_rfl, ?_⟩) hS ?_
      rotate_left
      · intro w' hS'
        have hq := hS'.1
        have hq2 := hS'.2
        clear hS'
        first | (go_simp; done) | (go_simp; with_reducible rfl)
      try simp only [Act.put, List.getElem_toArray, List.getElem_cons_zero, List.getElem_cons_succ, List.setIfInBounds_toArray, List.set_cons_zero, List.set_cons_succ]
      refine wpAnyH_take (i := 3) (v := ?_) rfl (by kernel_rfl) (by kernel_rfl) (by kernel_rfl) (fun _ _ _ h => h) (Or.inl ⟨by kernel_rfl, ?_⟩) hS ?_
      rotate_left
      · intro w' hS'
        have hq := hS'.1
        have hq2 := hS'.2
        clear hS'
        first | (go_simp; done) | (go_simp; with_reducible rfl)
      try simp only [Act.put, List.getElem_toArray, List.getElem_cons_zero, List.getElem_cons_succ, List.setIfInBounds_toArray, List.set_cons_zero, List.set_cons_succ]
      refine wpAnyH_ready (rs := [4]) (by kernel_rfl) (by simp) ?_
      refine AllReadyH.cons rfl (fun K hK => ?_) AllReadyH.nil
      go_simp
      go_at_call 41
      refine (clone41 A5 L.length L.length L w11.drew (by omega) (by exact hsl11.keep (fun b hb => hb.2) (fun _ _ _ => rfl))).mono ?_
      rintro e w12 ⟨A6, c6, rfl, h61, h62, hs6, hk12⟩
      try dsimp only
      have k12 := hS.then (grown_any hk12)
      refine hK.out _ _ ?_ (fun hS => ?_)
      · exact k12
      clear hK K k12
      try simp only [Act.put, List.getElem_toArray, List.getElem_cons_zero, List.getElem_cons_succ, List.setIfInBounds_toArray, List.set_cons_zero, List.set_cons_succ]
      refine wpAnyH_ready (rs := [5]) (by kernel_rfl) (by simp) ?_
      refine AllReadyH.cons rfl (fun K hK => ?_) AllReadyH.nil
      go_simp
      go_at_call 40
      refine (clip40 A6 L.length c6 h61 h62 _).mono ?_
      rintro e w13 ⟨rfl, rfl⟩
      try dsimp only
      refine hK.out _ _ ?_ (fun hS => ?_)
      · exact hS
      clear hK K
      try simp only [Act.put, List.getElem_toArray, List.getElem_cons_zero, List.getElem_cons_succ, List.setIfInBounds_toArray, List.set_cons_zero, List.set_cons_succ]
      refine wpAnyH_take (i := 6) (v := ?_) rfl (by kernel_rfl) (by kernel_rfl) (by kernel_rfl) (fun _ _ _ h => h) (Or.inl ⟨by kernel_rfl, ?_⟩) hS ?_
      rotate_left
      · intro w' hS'
        have hq := hS'.1
        have hq2 := hS'.2
        clear hS'
        first | (go_simp; done) | (go_simp; with_reducible rfl)
      try simp only [Act.put, List.getElem_toArray, List.getElem_cons_zero, List.getElem_cons_succ, List.setIfInBounds_toArray, List.set_cons_zero, List.set_cons_succ]
      have HR12 := heap_kept hk12 (heap_drew HR11.out)
      have r0 := cell_heap HR12 (o := 0) rfl
      have r1 := cell_heap HR12 (o := 1) rfl
      have z0 := frozen_heap HR12 (o := 0)
      have z1 := frozen_heap HR12 (o := 1)
      have hRl := heap_lt HR12
      refine wpAnyH_ready (rs := [7]) (by kernel_rfl) (by simp) ?_
      refine AllReadyH.cons rfl (fun K hK => ?_) AllReadyH.nil
      go_simp
      have hg13 := grown_at (X := w.heap.size + 1) (grown_at (X := w.heap.size + 1) (grown_self (v := w12)) 0 (Value.int .u8 q)) 1 (Value.slice A6 L.length L.length)
      have hbS := hS.then hg13
      have HR13 := heap_store (i := 1) (heap_store (i := 0) HR12 (Value.int .u8 q)) (Value.slice A6 L.length L.length)
      generalize ((w12.setCell ⟨w.heap.size + 1, 0, none⟩ (Value.int .u8 q)).setCell ⟨w.heap.size + 1, 1, none⟩ (Value.slice A6 L.length L.length)) = w13 at *
      refine hK.out _ _ ?_ (fun hS => ?_)
      · exact hbS
      clear hK K hbS r0 r1 z0 z1 t0 t1 hTl
      try simp only [Act.put, List.getElem_toArray, List.getElem_cons_zero, List.getElem_cons_succ, List.setIfInBounds_toArray, List.set_cons_zero, List.set_cons_succ]
      refine wpAnyH_take (i := 8) (v := ?_) rfl (by kernel_rfl) (by kernel_rfl) (by kernel_rfl) (fun _ _ _ h => h) (Or.inl ⟨by kernel_rfl, ?_⟩) hS ?_
      rotate_left
      · intro w' hS'
        have hq := hS'.1
        have hq2 := hS'.2
        clear hS'
        first | (go_simp; done) | (go_simp; with_reducible rfl)
      try simp only [Act.put, List.getElem_toArray, List.getElem_cons_zero, List.getElem_cons_succ, List.setIfInBounds_toArray, List.set_cons_zero, List.set_cons_succ]
      refine wpAnyH_done (by kernel_rfl) ?_ _
      clear hS
      have q0 := cell_heap HR13 (o := 0) (v := .int .u8 q) rfl
      have q1 := cell_heap HR13 (o := 1) (v := .slice A6 L.length L.length) rfl
      have hkx : Kept w11 w12 := ⟨hk12.os, hk12.tape, hk12.output, hk12.size, hk12.block⟩
      have hgf := hide (grown_new (grown_comp hgw11.out (grown_any hkx)) hg13 (by omega))
      have hRf := hide (((HReg.out.kept hkx).grown hg13 (fun b e h => h.2 (by injection e)) ⟨hGX, by omega⟩ (by intro e; injection e with e; omega)).foot (X' := X) (fun b _ h => h.1))
      have hw11 : w.heap.size ≤ w11.heap.size := hgw11.out.size
      have hsf : Hid (Sl i64T w13 (fun g => w.heap.size ≤ g ∧ g < w13.heap.size) A6 L.length L) := hide (hs6.grown hg13 (fun b hb => ⟨hb.2, fun e => by injection e with e; have h1 : w11.heap.size ≤ b := hb.1; have h2 : w.heap.size + 1 < w11.heap.size := heap_lt HR11.out; omega⟩) (fun b hb => ⟨by have h1 : w11.heap.size ≤ b := hb.1; omega, by have := hb.2; have := hg13.size; omega⟩))
      clear hs6 hg13 HR12 HR13 hkx hk12
      go_wp2_with fail
      refine bodyPost_ret (v := .tuple #[.agg #[.int .u8 (q), .slice A6 L.length L.length], .int .i64 (0)]) (by simp [results, Try.results25, go_sem, q0, q1]) rfl ?_
      exact ⟨A6, rfl, hsf.out, hgf.out, hRf.out⟩
    · have he' : (e != 0) = true := by simpa using he
      have r0 := cell_heap HR8 (o := 0) rfl
      have r1 := cell_heap HR8 (o := 1) rfl
      have z0 := frozen_heap HR8 (o := 0)
      have z1 := frozen_heap HR8 (o := 1)
      have hRl8 := heap_lt HR8
      clear HT8 hsl8 HX8 HG8 hM8 HR8
      go_wp2_with fail
      refine bodyPost_ret (v := .tuple #[.agg #[.int .u8 (0), .slice none 0 0], .int .i64 (e)]) (by simp [results, Try.results25, go_sem, *]) rfl ?_
      exact Or.inl ⟨he, rfl, by go_grown⟩
end Go.Proofs.Ytgkhenplbljbbaa
