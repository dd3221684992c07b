


/- Attach where nothing is attached, for it is refused. The registry reads as data. -/
import Derived.Test.YtgkhenplbljbbaaChecked
import Derived.Deep.RegionHeld3
import Derived.Deep.DrawnRows
import Derived.Deep.DeepCutAuto
import Derived.Deep.LoopGhost
import Derived.Outline
import Derived.Handy
import Derived.Deep.RegionLaw
import Derived.OwnWalk
import Derived.Test.YtgkhenplbljbbaaHd
import Derived.Test.YtgkhenplbljbbaaHe
import Derived.Test.YtgkhenplbljbbaaFe
set_option linter.unusedVariables false
set_option linter.unusedSimpArgs false
set_option linter.unusedSectionVars false
namespace Go.Proofs.Ytgkhenplbljbbaa
open Go.RowKit Go.Maps Go.WideShapes
attribute [local go_sem ↓] Go.wp_at_zero Go.wp_at_succ

set_option maxRecDepth 100000 in
set_option maxHeartbeats 4000000 in
theorem attach_zero {w : World} {X : Nat → Prop} {G m nl : Nat} {l : List Drv} {K : Nat} {S : St} (hR : Reg w X G m nl l K S) (vn p : Int) (A2 : Option Addr) (m2 c2 : Nat) (cur : Int) :
    Calls Try.prog 25 #[.pointer (some ⟨G, 0, none⟩), .agg #[.int .u8 (0), .slice none 0 0, .int .u8 0, .int .u8 0, .int .u8 0, .int .u16 0, .int .u8 0, .int .u8 0, .int .u8 0, .int .u8 0, .int .u16 (vn), .int .u16 (p), .int .u16 0, .int .u8 0, .int .u8 0, .int .u8 0, .int .u8 0, .slice A2 m2 c2], .int .i64 cur] w fun e w' => e = .returned (.tuple #[.agg #[.int .u8 (0), .slice none 0 0], .int .i64 (1)]) ∧ Kept w w' := by
  obtain ⟨bd, f, hG, hD, hM, hL⟩ := hR
  have hG' : ((w.alloc (.cells #[.int .u8 (0), .slice none 0 0, .int .u8 0, .int .u8 0, .int .u8 0, .int .u16 0, .int .u8 0, .int .u8 0, .int .u8 0, .int .u8 0, .int .u16 (vn), .int .u16 (p), .int .u16 0, .int .u8 0, .int .u8 0, .int .u8 0, .int .u8 0, .slice A2 m2 c2] 34)).alloc (.cells #[.int .u8 0, .slice none 0 0] 63)).heap[G]? = some (.cells #[.slice (some ⟨bd, 0, none⟩) nl nl, .map (some m)] 89 (0, 0)) := heap_past (heap_past hG)
  go_enter Try.func25, Try.ntmps25
  go_wp2_with (first
    | (go_at_call 39; refine (some_any G m _ _ hG').mono ?_; rintro e w1 ⟨rfl, rfl⟩))
  refine bodyPost_ret (v := .tuple #[.agg #[.int .u8 (0), .slice none 0 0], .int .i64 (1)]) (by simp [results, Try.results25, go_sem, *]) rfl ?_
  exact ⟨rfl, by go_grown⟩
set_option maxRecDepth 100000 in
set_option maxHeartbeats 4000000 in
theorem attach_there {w : World} {X : Nat → Prop} {G m nl : Nat} {l : List Drv} {K : Nat} {S : St} (hR : Reg w X G m nl l K S) (a : Nat) (ha0 : 0 < a) (ha1 : a < 128) {q : Int} {L : List Int} (hs : S a = some (q, L)) (vn p : Int) (A2 : Option Addr) (m2 c2 : Nat) (cur : Int) :
    Calls Try.prog 25 #[.pointer (some ⟨G, 0, none⟩), .agg #[.int .u8 ((a : Int)), .slice none 0 0, .int .u8 0, .int .u8 0, .int .u8 0, .int .u16 0, .int .u8 0, .int .u8 0, .int .u8 0, .int .u8 0, .int .u16 (vn), .int .u16 (p), .int .u16 0, .int .u8 0, .int .u8 0, .int .u8 0, .int .u8 0, .slice A2 m2 c2], .int .i64 cur] w fun e w' => e = .returned (.tuple #[.agg #[.int .u8 (0), .slice none 0 0], .int .i64 (8)]) ∧ Kept w w' := by
  obtain ⟨bd, f, hG, hD, hM, hL⟩ := hR
  have ha : a < 256 := by omega
  have hLa := hL a ha
  rw [hs] at hLa
  obtain ⟨A, hf, hLs⟩ := hLa
  clear hLs hL hD
  have hG' : ((w.alloc (.cells #[.int .u8 ((a : Int)), .slice none 0 0, .int .u8 0, .int .u8 0, .int .u8 0, .int .u16 0, .int .u8 0, .int .u8 0, .int .u8 0, .int .u8 0, .int .u16 (vn), .int .u16 (p), .int .u16 0, .int .u8 0, .int .u8 0, .int .u8 0, .int .u8 0, .slice A2 m2 c2] 34)).alloc (.cells #[.int .u8 0, .slice none 0 0] 63)).heap[G]? = some (.cells #[.slice (some ⟨bd, 0, none⟩) nl nl, .map (some m)] 89 (0, 0)) := heap_past (heap_past hG)
  have ha0' : ((a : Int) == 0) = false := by simp; omega
  have ha1' : (a : Int) ≤ 127 := by omega
  go_enter Try.func25, Try.ntmps25
  go_upto_region 5 with (first
    | (go_at_call 39; refine (some_any G m _ _ hG').mono ?_; rintro e w1 ⟨rfl, rfl⟩))
  refine wp_at (fun W => W.heap[w.heap.size]? = some (.cells #[.int .u8 ((a : Int)), .slice none 0 0, .int .u8 0, .int .u8 0, .int .u8 0, .int .u16 0, .int .u8 0, .int .u8 0, .int .u8 0, .int .u8 0, .int .u16 (vn), .int .u16 (p), .int .u16 0, .int .u8 0, .int .u8 0, .int .u8 0, .int .u8 0, .slice A2 m2 c2] 34 (0, 0)) ∧ W.heap[w.heap.size + 1]? = some (.cells #[.int .u8 0, .slice none 0 0] 63 (0, 0)) ∧ Kept w W) ⟨heap_past (heap_at _ rfl), heap_at _ (by simp), by go_grown⟩ (fun W hW => ?_)
  obtain ⟨HX, HR, hkW⟩ := hW
  have hMW := hM.keep hkW
  have c1 := cell_heap (heap_kept hkW hG) (o := 1) rfl
  have hGl := heap_lt (heap_kept hkW hG)
  have x0 := cell_heap HX (o := 0) rfl
  have hXl := heap_lt HX
  have HR' := hide HR
  clear hG hG' hM HX HR
  refine wp_region_held_drew (S := fun w' => (∀ b o, b < W.heap.size → w'.cell? ⟨b, o, none⟩ = W.cell? ⟨b, o, none⟩) ∧ Below W.heap.size W w') (by kernel_rfl) since_start (fun hS => ?_)
  refine wpAnyH_take (i := 0) (v := ?_) rfl (by kernel_rfl) (by kernel_rfl) (by kernel_rfl) (fun _ _ _ h => h) (Or.inl ⟨by kernel_rfl, ?_⟩) hS ?_
  rotate_left
  · intro w' hS'
    have hq := hS'.1
    have hq2 := hS'.2
    clear hS'
    first | (go_simp; done) | (go_simp; with_reducible rfl)
  try simp only [Act.put, List.getElem_toArray, List.getElem_cons_zero, List.getElem_cons_succ, List.setIfInBounds_toArray, List.set_cons_zero, List.set_cons_succ]
  refine wpAnyH_take (i := 1) (v := ?_) rfl (by kernel_rfl) (by kernel_rfl) (by kernel_rfl) (fun _ _ _ h => h) (Or.inl ⟨by kernel_rfl, ?_⟩) hS ?_
  rotate_left
  · intro w' hS'
    have hq := hS'.1
    have hq2 := hS'.2
    clear hS'
    first | (go_simp; done) | (go_simp; with_reducible rfl)
  try simp only [Act.put, List.getElem_toArray, List.getElem_cons_zero, List.getElem_cons_succ, List.setIfInBounds_toArray, List.set_cons_zero, List.set_cons_succ]
  refine wpAnyH_take (i := 2) (v := ?_) rfl (by kernel_rfl) (by kernel_rfl) (by kernel_rfl) (fun _ _ _ h => h) (Or.inl ⟨by kernel_rfl, ?_⟩) hS ?_
  rotate_left
  · intro w' hS'
    have hq := hS'.1
    have hq2 := hS'.2
    clear hS'
    first | (go_simp; done) | (go_simp; with_reducible rfl)
  try simp only [Act.put, List.getElem_toArray, List.getElem_cons_zero, List.getElem_cons_succ, List.setIfInBounds_toArray, List.set_cons_zero, List.set_cons_succ]
  refine wpAnyH_take (i := 3) (v := ?_) rfl (by kernel_rfl) (by kernel_rfl) (by kernel_rfl) (fun _ _ _ h => h) (Or.inl ⟨by kernel_rfl, ?_⟩) hS ?_
  rotate_left
  · intro w' hS'
    have hq := hS'.1
    have hq2 := hS'.2
    clear hS'
    first | (go_simp; done) | (go_simp; with_reducible rfl)
  try simp only [Act.put, List.getElem_toArray, List.getElem_cons_zero, List.getElem_cons_succ, List.setIfInBounds_toArray, List.set_cons_zero, List.set_cons_succ]
  refine wpAnyH_take (i := 4) (v := ?_) rfl (by kernel_rfl) (by kernel_rfl) (by kernel_rfl) (fun _ _ _ h => h) (Or.inl ⟨by kernel_rfl, ?_⟩) hS ?_
  rotate_left
  · intro w' hS'
    have hq := hS'.1
    have hq2 := hS'.2
    clear hS'
    first | (go_simp; done) | (go_simp; with_reducible rfl)
  try simp only [Act.put, List.getElem_toArray, List.getElem_cons_zero, List.getElem_cons_succ, List.setIfInBounds_toArray, List.set_cons_zero, List.set_cons_succ]
  refine wpAnyH_take (i := 5) (v := ?_) rfl (by kernel_rfl) (by kernel_rfl) (by kernel_rfl) (fun _ _ _ h => h) (Or.inl ⟨by kernel_rfl, ?_⟩) hS ?_
  rotate_left
  · intro w' hS'
    have hq := hS'.1
    have hq2 := hS'.2
    clear hS'
    first | (go_simp; done) | (go_simp; with_reducible rfl)
  try simp only [Act.put, List.getElem_toArray, List.getElem_cons_zero, List.getElem_cons_succ, List.setIfInBounds_toArray, List.set_cons_zero, List.set_cons_succ]
  refine wpAnyH_take (i := 6) (v := ?_) rfl (by kernel_rfl) (by kernel_rfl) (by kernel_rfl) (fun _ _ _ h => h) (Or.inl ⟨by kernel_rfl, ?_⟩) hS ?_
  rotate_left
  · intro w' hS'
    have hrun := ((hMW).keep hS'.2).look (int_keyed Try.underlying5) Try.underlying87 (zero63 w') (key8 ha) true
    rw [hf] at hrun
    simp only [if_true, Option.getD_none, Option.isSome_none, Option.getD_some, Option.isSome_some] at hrun
    first | (go_simp; done) | (go_simp; with_reducible rfl)
  try simp only [Act.put, List.getElem_toArray, List.getElem_cons_zero, List.getElem_cons_succ, List.setIfInBounds_toArray, List.set_cons_zero, List.set_cons_succ]
  refine wpAnyH_take (i := 7) (v := ?_) rfl (by kernel_rfl) (by kernel_rfl) (by kernel_rfl) (fun _ _ _ h => h) (Or.inl ⟨by kernel_rfl, ?_⟩) hS ?_
  rotate_left
  · intro w' hS'
    have hq := hS'.1
    have hq2 := hS'.2
    clear hS'
    first | (go_simp; done) | (go_simp; with_reducible rfl)
  try simp only [Act.put, List.getElem_toArray, List.getElem_cons_zero, List.getElem_cons_succ, List.setIfInBounds_toArray, List.set_cons_zero, List.set_cons_succ]
  refine wpAnyH_take (i := 8) (v := ?_) rfl (by kernel_rfl) (by kernel_rfl) (by kernel_rfl) (fun _ _ _ h => h) (Or.inl ⟨by kernel_rfl, ?_⟩) hS ?_
  rotate_left
  · intro w' hS'
    have hq := hS'.1
    have hq2 := hS'.2
    clear hS'
    first | (go_simp; done) | (go_simp; with_reducible rfl)
  try simp only [Act.put, List.getElem_toArray, List.getElem_cons_zero, List.getElem_cons_succ, List.setIfInBounds_toArray, List.set_cons_zero, List.set_cons_succ]
  refine wpAnyH_take (i := 9) (v := ?_) rfl (by kernel_rfl) (by kernel_rfl) (by kernel_rfl) (fun _ _ _ h => h) (Or.inl ⟨by kernel_rfl, ?_⟩) hS ?_
  rotate_left
  · intro w' hS'
    have hq := hS'.1
    have hq2 := hS'.2
    clear hS'
    first | (go_simp; done) | (go_simp; with_reducible rfl)
  try simp only [Act.put, List.getElem_toArray, List.getElem_cons_zero, List.getElem_cons_succ, List.setIfInBounds_toArray, List.set_cons_zero, List.set_cons_succ]
  refine wpAnyH_ready (rs := [10]) (by kernel_rfl) (by simp) ?_
  refine AllReadyH.cons rfl (fun K hK => ?_) AllReadyH.nil
  go_simp
  refine hK.out _ _ ?_ (fun hS => ?_)
  · exact since_alloc hS (Nat.le_refl _)
  clear hK K
  try simp only [Act.put, List.getElem_toArray, List.getElem_cons_zero, List.getElem_cons_succ, List.setIfInBounds_toArray, List.set_cons_zero, List.set_cons_succ]
  have HT : (W.alloc (.cells #[.int .u8 0, .slice none 0 0] 63)).drew.heap[W.heap.size]? = some (.cells #[.int .u8 0, .slice none 0 0] 63 (0, 0)) := heap_drew (heap_at _ rfl)
  have hTr : W.heap.size ≤ W.heap.size := Nat.le_refl _
  generalize (W.alloc (.cells #[.int .u8 0, .slice none 0 0] 63)).drew = w6 at *
  have q0 := cell_heap HT (o := 0) rfl
  have q1 := cell_heap HT (o := 1) rfl
  have z0 := frozen_heap HT (o := 0)
  have z1 := frozen_heap HT (o := 1)
  have hTl := heap_lt HT
  refine wpAnyH_ready (rs := [11]) (by kernel_rfl) (by simp) ?_
  refine AllReadyH.cons rfl (fun K hK => ?_) AllReadyH.nil
  go_simp
  have hS7 := since_below hS (((Below.refl W.heap.size w6).setCell hTr (p := ⟨W.heap.size, 0, none⟩) (Value.int .u8 (q))).setCell hTr (p := ⟨W.heap.size, 1, none⟩) (Value.slice A L.length L.length))
  have HT7 := heap_store (i := 1) (heap_store (i := 0) HT (Value.int .u8 (q))) (Value.slice A L.length L.length)
  have hg7 := grown_at (X := W.heap.size) (grown_at (X := W.heap.size) (grown_self (v := w6)) 0 (Value.int .u8 (q))) 1 (Value.slice A L.length L.length)
  generalize ((w6.setCell ⟨W.heap.size, 0, none⟩ (Value.int .u8 (q))).setCell ⟨W.heap.size, 1, none⟩ (Value.slice A L.length L.length)) = w7 at *
  refine hK.out _ _ ?_ (fun hS => ?_)
  · exact hS7
  clear hK K hS7 q0 q1 z0 z1 hTl HT
  try simp only [Act.put, List.getElem_toArray, List.getElem_cons_zero, List.getElem_cons_succ, List.setIfInBounds_toArray, List.set_cons_zero, List.set_cons_succ]
  refine wpAnyH_take (i := 12) (v := ?_) rfl (by kernel_rfl) (by kernel_rfl) (by kernel_rfl) (fun _ _ _ h => h) (Or.inl ⟨by kernel_rfl, ?_⟩) hS ?_
  rotate_left
  · intro w' hS'
    have hq := hS'.1
    have hq2 := hS'.2
    clear hS'
    first | (go_simp; done) | (go_simp; with_reducible rfl)
  try simp only [Act.put, List.getElem_toArray, List.getElem_cons_zero, List.getElem_cons_succ, List.setIfInBounds_toArray, List.set_cons_zero, List.set_cons_succ]
  refine wpAnyH_done (by kernel_rfl) ?_ _
  have hk7 := hS.2
  have HR7 := heap_kept hk7 HR'.out
  have hkw7 := hkW.trans' hk7
  have r0 := cell_heap HR7 (o := 0) rfl
  have r1 := cell_heap HR7 (o := 1) rfl
  have z0 := frozen_heap HR7 (o := 0)
  have z1 := frozen_heap HR7 (o := 1)
  have hRl := heap_lt HR7
  clear hS HT7 hg7 c1 x0 hXl hGl hf HR7
  go_wp2_with fail
  refine bodyPost_ret (v := .tuple #[.agg #[.int .u8 (0), .slice none 0 0], .int .i64 (8)]) (by simp [results, Try.results25, go_sem, *]) rfl ?_
  exact ⟨rfl, by go_grown⟩
end Go.Proofs.Ytgkhenplbljbbaa
