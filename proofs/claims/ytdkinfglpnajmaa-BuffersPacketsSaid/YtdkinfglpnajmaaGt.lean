
import Derived.Shelf.Abstract
import Derived.Shelf.RegionOpen
import Derived.WalkKit
import Derived.OwnWalkIn
import Derived.TacticsInMore
import Derived.LoopNIn
import Derived.LoopIn
import Derived.Maps.AppendAt
import Derived.Test.YtdkinfglpnajmaaChecked



/- Scatter. -/
import Derived.Test.YtdkinfglpnajmaaGs
import Derived.Test.YtdkinfglpnajmaaGl
set_option linter.unusedVariables false
set_option linter.unusedSimpArgs false
set_option linter.unusedSectionVars false
namespace Go.Proofs.Ytdkinfglpnajmaa
open Go.RowKit Go.Shelf

attribute [local go_sem] Oper.semAt_some

/-- what a round of Scatter finds -/
def ScatI (w : World) (Bd Bo g q Bf Bt : Nat) (cf ct : List Value) (ms ds : List UInt8) (pre : List Pc) (W : World) : Prop :=
  (∃ (D' : Option Addr) (k c' : Nat), k = (total pre).toNat ∧ Boxed W Bd 29 (.slice D' (ds.length - k) c') ∧ ds.length - k ≤ c' ∧ Sl u8T W (low w.heap.size) D' (ds.length - k) (ds.drop k)) ∧
  Boxed W Bo 29 (.slice (some ⟨g, 0, none⟩) q q) ∧ W.heap[g]? = some (.cells (u8C (scat ms (places pre) ds)).toArray 5 (0, 0)) ∧ W.heap[Bf]? = some (.cells cf.toArray 3 (0, 0)) ∧ W.heap[Bt]? = some (.cells ct.toArray 3 (0, 0)) ∧ Below w.heap.size w W
theorem scatI_own {w : World} {Bd Bo g q Bf Bt B : Nat} {cf ct : List Value} {ms ds : List UInt8} (hB : w.heap.size ≤ B) : OwnFrom B (ScatI w Bd Bo g q Bf Bt cf ct ms ds) := by
  intro pre W W' row h hg hr
  obtain ⟨⟨D', k, c', hk, hD, hc, hs⟩, hO, hg0, hF, hT, hb⟩ := h
  have hkeep : ∀ {b : Nat} {o : Obj}, W.heap[b]? = some o → o.isCells = true → W'.heap[b]? = some o := fun {b o} hb ho => (hg.block b (heap_lt hb) (fun e => by
    obtain ⟨_, o', h1, h2⟩ := hr b e.symm
    rw [hb] at h1
    cases h1
    rw [ho] at h2
    cases h2)).trans hb
  have hbl : Below w.heap.size W W' := (Below.refl _ W).grown hg (hb.size) (fun k e => Nat.le_trans hB (hr k e).1)
  exact ⟨⟨D', k, c', hk, hkeep hD rfl, hc, hs.below hbl⟩, hkeep hO rfl, hkeep hg0 rfl, hkeep hF rfl, hkeep hT rfl, hb.trans hbl⟩
/-- a postcondition that lets a code end in the normal way alone -/
def onlyN (Q : Exit → Act → World → Prop) : Exit → Act → World → Prop
  | .normal, a, w => Q .normal a w
  | _, _, _ => False
theorem onlyN_intro {Q : Exit → Act → World → Prop} {a : Act} {w : World} (h : Q .normal a w) : onlyN Q .normal a w := h
theorem wide_of_only {n : Nat} {c : Code} {Q : Exit → Act → World → Prop} {a : Act} {w : World} (h : c.wp Try.prog (onlyN Q) a w) : c.wpIn Fence.wide n Try.prog Q a w :=
  wpIn_mono (wpIn_wide.2 h) (fun e a w hq => by cases e <;> first | exact hq | exact hq.elim)
set_option maxRecDepth 100000 in
set_option maxHeartbeats 2000000 in
theorem scat_bad (M A D : Option Addr) (q d n c nd cd : Nat) (l : List Pc) (w : World) (hl : Sl pcT w (low w.heap.size) A n l) (h64 : ∀ p ∈ l, i64 p.pos ∧ i64 p.len) (hn : n ≤ 1000) (hq : q ≤ 100000) (h0 : chk l q ≠ 0) :
    Calls Try.prog 17 #[.slice M q d, .slice A n c, .slice D nd cd] w fun e w' => e = .returned (.tuple #[.slice none 0 0, .int .i64 (chk l q)]) ∧ Kept w w' := by
  have hk0 : Kept w (w.alloc (.cells #[.slice D nd cd] 29)) := (Below.refl _ w).alloc (Nat.le_refl _) _
  have hC := check_any A n c l q _ (hl.kept hk0) h64 (by unfold i64; omega) hn
  obtain ⟨e0, he⟩ : ∃ e, chk l q = e := ⟨_, rfl⟩
  rw [he] at hC h0 ⊢
  have h0' : (e0 != 0) = true := by simpa using h0
  clear he
  refine callsIn_wide (n := 4).1 (callsIn_of_wp_marks Try.func17 rfl trivial ?_ rfl)
  (simp only [Try.ntmps17, List.size_toArray, List.length_cons, List.length_nil, Nat.reduceAdd, Nat.reduceSub, Array.replicate_succ, Array.replicate_zero, List.push_toArray, List.append_toArray, List.nil_append, List.cons_append])
  gi_wp2_with (refine ⟨trivial, ?_⟩; gi_at_call 15; refine (callsIn_wide.2 hC).mono ?_; rintro e w1 ⟨rfl, hk1⟩)
  exact ⟨.tuple #[.slice none 0 0, .int .i64 e0], by simp [results, Try.results17, go_sem], rfl, hk0.trans' hk1⟩
set_option maxRecDepth 100000 in
set_option maxHeartbeats 2000000 in
theorem scat_there (M A D : Option Addr) (q d n c nd cd : Nat) (l : List Pc) (w : World) (hl : Sl pcT w (low w.heap.size) A n l) (hq : q ≤ 100000) (h0 : chk l q = 0) (hd : ¬ (places l).Nodup) :
    Calls Try.prog 17 #[.slice M q d, .slice A n c, .slice D nd cd] w fun e w' => e = .returned (.tuple #[.slice none 0 0, .int .i64 8]) ∧ Kept w w' := by
  have hk0 : Kept w (w.alloc (.cells #[.slice D nd cd] 29)) := (Below.refl _ w).alloc (Nat.le_refl _) _
  have hC := check_any A n c l q _ (hl.kept hk0) (pc_64 h0 (by unfold i64; omega)) (by unfold i64; omega) (by have := (chk_parts h0).1; have := hl.1; omega)
  have hO : ∀ w', Kept w w' → _ := fun w' hk => overlaps_any sortNone A n c l q w' (hl.kept hk) h0 (by omega)
  rw [h0] at hC
  clear h0
  refine callsIn_wide (n := 4).1 (callsIn_of_wp_marks Try.func17 rfl trivial ?_ rfl)
  (simp only [Try.ntmps17, List.size_toArray, List.length_cons, List.length_nil, Nat.reduceAdd, Nat.reduceSub, Array.replicate_succ, Array.replicate_zero, List.push_toArray, List.append_toArray, List.nil_append, List.cons_append])
  gi_wp2_with (first
    | (refine ⟨trivial, ?_⟩; gi_at_call 15; refine (callsIn_wide.2 hC).mono ?_; rintro e w1 ⟨rfl, hk1⟩)
    | (refine ⟨trivial, ?_⟩; gi_at_call 27; refine (callsIn_wide.2 (hO _ (hk0.trans' hk1))).mono ?_; rintro e w2 ⟨b, rfl, hb, hk2⟩; obtain rfl : b = true := hb.out.2 hd))
  exact ⟨.tuple #[.slice none 0 0, .int .i64 8], by simp [results, Try.results17, go_sem], rfl, (hk0.trans' hk1).trans' hk2⟩
set_option maxRecDepth 100000 in
set_option maxHeartbeats 2000000 in
theorem scat_width (M A D : Option Addr) (q d n c nd cd : Nat) (l : List Pc) (w : World) (hl : Sl pcT w (low w.heap.size) A n l) (hq : q ≤ 100000) (h0 : chk l q = 0) (hd : (places l).Nodup) (hw : total l < nd) :
    Calls Try.prog 17 #[.slice M q d, .slice A n c, .slice D nd cd] w fun e w' => e = .returned (.tuple #[.slice none 0 0, .int .i64 5]) ∧ Kept w w' := by
  have hk0 : Kept w (w.alloc (.cells #[.slice D nd cd] 29)) := (Below.refl _ w).alloc (Nat.le_refl _) _
  have hp := chk_parts h0
  have hok : okL l := fun p hp' => ⟨(hp.2.1 p hp').1, (hp.2.1 p hp').2.1⟩
  have hm : n ≤ 256 := by have := hl.1; omega
  have hC := check_any A n c l q _ (hl.kept hk0) (pc_64 h0 (by unfold i64; omega)) (by unfold i64; omega) (by omega)
  have hO : ∀ w', Kept w w' → _ := fun w' hk => overlaps_any sortNone A n c l q w' (hl.kept hk) h0 (by omega)
  have hT : ∀ w', Kept w w' → _ := fun w' hk => total_any A n c l w' (hl.kept hk) hok hp.2.2 (by omega)
  have ht0 := total_nonneg hok
  have ht1 := hp.2.2
  rw [h0] at hC
  clear hp h0 hok
  refine callsIn_wide (n := 4).1 (callsIn_of_wp_marks Try.func17 rfl trivial ?_ rfl)
  (simp only [Try.ntmps17, List.size_toArray, List.length_cons, List.length_nil, Nat.reduceAdd, Nat.reduceSub, Array.replicate_succ, Array.replicate_zero, List.push_toArray, List.append_toArray, List.nil_append, List.cons_append])
  gi_wp2_with (first
    | (refine ⟨trivial, ?_⟩; gi_at_call 15; refine (callsIn_wide.2 hC).mono ?_; rintro e w1 ⟨rfl, hk1⟩)
    | (refine ⟨trivial, ?_⟩; gi_at_call 27; refine (callsIn_wide.2 (hO _ (hk0.trans' hk1))).mono ?_; rintro e w2 ⟨b, rfl, hb, hk2⟩; obtain rfl : b = false := Bool.eq_false_iff.2 (fun h => hb.out.1 h hd)))
  have hk02 : Kept w w2 := (hk0.trans' hk1).trans' hk2
  have hD2 := heap_below (hk1.trans' hk2) (heap_at (w := w) (.cells #[.slice D nd cd] 29) rfl) (by simp)
  have hcD := cell_heap (o := 0) hD2 rfl
  have hlD := heap_lt hD2
  generalize total l = T at *
  refine wide_of_only ?_
  refine wp_region_held_drew (S := fun w' => (∀ b o, b < w2.heap.size → w'.cell? ⟨b, o, none⟩ = w2.cell? ⟨b, o, none⟩) ∧ Kept w2 w') (by kernel_rfl) ⟨fun _ _ _ => rfl, (Below.refl _ w2).drew⟩ (fun hS => ?_)
  refine wpAnyH_take (i := 0) (v := ?_) rfl (by kernel_rfl) (by kernel_rfl) (by kernel_rfl) (fun _ _ _ h => h) (Or.inl ⟨by kernel_rfl, ?_⟩) hS ?_
  rotate_left
  · intro w' hS'
    have hq := hS'.1
    have hq2 := hS'.2
    clear hS'
    first | (go_simp; done) | (go_simp; with_reducible rfl)
  try simp only [Act.put, List.getElem_toArray, List.getElem_cons_zero, List.getElem_cons_succ, List.setIfInBounds_toArray, List.set_cons_zero, List.set_cons_succ]
  refine wpAnyH_take (i := 1) (v := ?_) rfl (by kernel_rfl) (by kernel_rfl) (by kernel_rfl) (fun _ _ _ h => h) (Or.inl ⟨by kernel_rfl, ?_⟩) hS ?_
  rotate_left
  · intro w' hS'
    have hq := hS'.1
    have hq2 := hS'.2
    clear hS'
    first | (go_simp; done) | (go_simp; with_reducible rfl)
  try simp only [Act.put, List.getElem_toArray, List.getElem_cons_zero, List.getElem_cons_succ, List.setIfInBounds_toArray, List.set_cons_zero, List.set_cons_succ]
  refine wpAnyH_take (i := 2) (v := ?_) rfl (by kernel_rfl) (by kernel_rfl) (by kernel_rfl) (fun _ _ _ h => h) (Or.inl ⟨by kernel_rfl, ?_⟩) hS ?_
  rotate_left
  · intro w' hS'
    have hq := hS'.1
    have hq2 := hS'.2
    clear hS'
    first | (go_simp; done) | (go_simp; with_reducible rfl)
  try simp only [Act.put, List.getElem_toArray, List.getElem_cons_zero, List.getElem_cons_succ, List.setIfInBounds_toArray, List.set_cons_zero, List.set_cons_succ]
  refine wpAnyH_ready (rs := [3]) (by kernel_rfl) (by simp) ?_
  refine AllReadyH.cons rfl (fun K hK => ?_) AllReadyH.nil
  go_simp
  go_at_call 25
  refine (hT _ (hk02.trans' hS.2)).mono ?_
  rintro e3 w3 ⟨rfl, hk3⟩
  try dsimp only
  refine hK.out _ _ ?_ (fun hS => ?_)
  · exact ⟨fun b o hb => (Below.cell (p := ⟨b, o, none⟩) (hk3.mono hS.2.size) hb).trans (hS.1 b o hb), hS.2.trans' hk3⟩
  clear hK K
  try simp only [Act.put, List.getElem_toArray, List.getElem_cons_zero, List.getElem_cons_succ, List.setIfInBounds_toArray, List.set_cons_zero, List.set_cons_succ]
  refine wpAnyH_take (i := 4) (v := ?_) rfl (by kernel_rfl) (by kernel_rfl) (by kernel_rfl) (fun _ _ _ h => h) (Or.inl ⟨by kernel_rfl, ?_⟩) hS ?_
  rotate_left
  · intro w' hS'
    have hq := hS'.1
    have hq2 := hS'.2
    clear hS'
    first | (go_simp; done) | (go_simp; with_reducible rfl)
  try simp only [Act.put, List.getElem_toArray, List.getElem_cons_zero, List.getElem_cons_succ, List.setIfInBounds_toArray, List.set_cons_zero, List.set_cons_succ]
  refine wpAnyH_take (i := 5) (v := ?_) rfl (by kernel_rfl) (by kernel_rfl) (by kernel_rfl) (fun _ _ _ h => h) (Or.inl ⟨by kernel_rfl, ?_⟩) hS ?_
  rotate_left
  · intro w' hS'
    have hq := hS'.1
    have hq2 := hS'.2
    clear hS'
    first | (go_simp; done) | (go_simp; with_reducible rfl)
  try simp only [Act.put, List.getElem_toArray, List.getElem_cons_zero, List.getElem_cons_succ, List.setIfInBounds_toArray, List.set_cons_zero, List.set_cons_succ]
  refine wpAnyH_done (by kernel_rfl) ?_ _
  refine onlyN_intro ?_
  refine exit_at (fun W => Kept w W) (hk02.trans' hS.2) (fun W6 hk6 => ?_)
  clear hS hk3
  gi_wp2
  exact ⟨.tuple #[.slice none 0 0, .int .i64 5], by simp [results, Try.results17, go_sem], rfl, hk6⟩
end Go.Proofs.Ytdkinfglpnajmaa
