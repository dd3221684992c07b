
import Derived.Shelf.Abstract
import Derived.Shelf.RegionOpen
import Derived.WalkKit
import Derived.OwnWalkIn
import Derived.TacticsInMore
import Derived.LoopNIn
import Derived.LoopIn
import Derived.Maps.AppendAt
import Derived.Test.YtdkinfglpnajmaaChecked


/- Join: joined pieces. -/
import Derived.Test.YtdkinfglpnajmaaPr
import Derived.Test.YtdkinfglpnajmaaGl
set_option linter.unusedVariables false
set_option linter.unusedSimpArgs false
set_option linter.unusedSectionVars false
namespace Go.Proofs.Ytdkinfglpnajmaa
open Go.RowKit Go.Shelf

attribute [local go_sem] Oper.semAt_some

theorem boxes_at (w : World) (A : Option Addr) (m c : Nat) (f t : Int) (W : World) (h : boxes w A m c f t = W) :
    W.heap[w.heap.size]? = some (.cells #[.slice A m c] 25 (0, 0)) ∧ W.heap[w.heap.size + 1]? = some (.cells #[.int .i64 f] 3 (0, 0)) ∧ W.heap[w.heap.size + 1 + 1]? = some (.cells #[.int .i64 t] 3 (0, 0)) ∧
    W.heap.size = w.heap.size + 1 + 1 + 1 ∧ Below w.heap.size w W := by
  subst h
  have z2 : (w.alloc (.cells #[.slice A m c] 25)).heap.size = w.heap.size + 1 := by simp
  have z3 : ((w.alloc (.cells #[.slice A m c] 25)).alloc (.cells #[.int .i64 f] 3)).heap.size = w.heap.size + 1 + 1 := by simp
  unfold boxes
  refine ⟨?_, ?_, ?_, by simp, ?_⟩
  · exact heap_past (heap_past (heap_at _ rfl))
  · exact heap_past (heap_at _ z2.symm)
  · exact heap_at _ z3.symm
  · exact (((Below.refl _ w).alloc (Nat.le_refl _) _).alloc (by simp) _).alloc (by simp; omega) _
theorem jn_snoc (l : List Pc) (x : Pc) : jn (l ++ [x]) = jstep (jn l) x := by simp [jn]
theorem jstep_len (o : List Pc) (x : Pc) : (jstep o x).length ≤ o.length + 1 := by
  rcases List.eq_nil_or_concat o with rfl | ⟨u, q, rfl⟩
  · simp [jstep_nil]
  · rw [List.concat_eq_append, jstep_snoc]
    split <;> simp
theorem fold_len : ∀ (l o : List Pc), (l.foldl jstep o).length ≤ o.length + l.length
  | [], o => by simp
  | x :: r, o => by
    have h1 := fold_len r (jstep o x)
    have h2 := jstep_len o x
    simp only [List.foldl_cons, List.length_cons]
    omega
theorem jn_len (l : List Pc) : (jn l).length ≤ l.length := by have := fold_len l []; simpa [jn] using this
/-- end's own block -/
theorem end_exact (a n : Int) (w : World) (h0 : 0 ≤ a) (h1 : 0 ≤ n) (h2 : a + n ≤ 9223372036854775807) :
    Calls Try.prog 26 #[.agg #[.int .i64 a, .int .i64 n]] w fun e w' => e = .returned (.int .i64 (a + n)) ∧ w' = w.alloc (.cells #[.int .i64 a, .int .i64 n] 44) := by
  have hw : IntKind.i64.wrap (a + n) = a + n := IntWalk.i64_in _ ⟨by omega, by omega⟩
  refine callsIn_wide (n := 3).1 (callsIn_of_wp Try.func26 rfl trivial ?_ rfl)
  (simp only [Try.ntmps26, List.size_toArray, List.length_cons, List.length_nil, Nat.reduceAdd, Nat.reduceSub, Array.replicate_succ, Array.replicate_zero, List.push_toArray, List.append_toArray, List.nil_append, List.cons_append])
  gi_wp2
  go_ret
  exact ⟨ret_int (by simp_all), rfl⟩
/-- a store into a row that a slice owns -/
theorem ownsRow_set {w : World} {n₀ g n cap i : Nat} {xs : List Value} (h : w.ownsRow n₀ 44 2 (.slice (some ⟨g, 0, none⟩) n cap) n xs) (hi : i < n * 2) (u : Value) : (w.setCell ⟨g, i, none⟩ u).ownsRow n₀ 44 2 (.slice (some ⟨g, 0, none⟩) n cap) n (xs.set i u) := by
  obtain ⟨hl, h2 | ⟨g', cap', cur, e, h3, h4, h5, h6, h7, h8⟩⟩ := h
  · cases h2.1
  · cases e
    refine ⟨by rw [List.length_set]; exact hl, .inr ⟨g, cap, cur.setIfInBounds i u, rfl, h3, heap_store h4 u, h5, h6, by simpa using h7, ?_⟩⟩
    rw [Array.toList_setIfInBounds, List.take_set, h8]

theorem exit_at {Q : Exit → Act → World → Prop} {e : Exit} {a : Act} {W : World} (R : World → Prop) (hR : R W) (h : ∀ W, R W → Q e a W) : Q e a W := h W hR
theorem grown_drew (W : World) : W.grownBy W.drew none := ⟨rfl, rfl, rfl, Nat.le_refl _, fun _ _ _ => rfl⟩
theorem grown_alloc {W W' : World} (h : W.grownBy W' none) (o : Obj) : W.grownBy (W'.alloc o) none := ⟨h.os, h.tape, h.output, by have := h.size; simp; omega, fun k hk hn => (Below.heap_alloc W' o k (Nat.lt_of_lt_of_le hk h.size)).trans (h.block k hk hn)⟩
theorem grown_cell {W W' : World} (h : W.grownBy W' none) {a : Addr} (ha : a.block < W.heap.size) : W'.cell? a = W.cell? a := World.cell?_of_block (h.block a.block ha (fun e => by cases e))
theorem grown_drew_alloc (W : World) (o : Obj) : W.grownBy (W.drew.alloc o) none := ⟨rfl, rfl, rfl, by simp, fun k hk _ => Below.heap_alloc W.drew o k hk⟩
theorem keepsW_grown {B0 Bf Bt : Nat} {W W5 : World} (h : W.grownBy W5 none) (h0 : B0 ≤ W.heap.size) (hf : Bf < W.heap.size) (ht : Bt < W.heap.size) : KeepsW B0 Bf Bt W W5 :=
  ⟨(Below.refl _ W).grown h h0 (fun k e => by cases e), h.block _ hf (fun e => by cases e), h.block _ ht (fun e => by cases e)⟩
theorem keepsFrom_grown {B : Nat} {W W5 : World} (h : W.grownBy W5 none) : KeepsFrom B W W5 := KeepsFrom.of_grownBy h (fun j e => by cases e)
/-- a store of the last piece's length -/
theorem grows_set {w0 W : World} {n₀ Bx Bf Bt : Nat} {tx : TypeId} {cf ct : List Value} {u : List Pc} {q : Pc} (h : Grows w0 n₀ Bx tx Bf Bt cf ct (fun y => y) (u ++ [q]) W) (htx : tx ≠ 44) (z : Int) {g cap : Nat}
    (hc : W.cell? ⟨Bx, 0, none⟩ = some (.slice (some ⟨g, 0, none⟩) (u.length + 1) cap)) (B : Nat) :
    Grows w0 n₀ Bx tx Bf Bt cf ct (fun y => y) (u ++ [⟨q.pos, z⟩]) (W.setCell ⟨g, u.length * 2 + 1, none⟩ (.int .i64 z)) ∧ KeepsW n₀ Bf Bt W (W.setCell ⟨g, u.length * 2 + 1, none⟩ (.int .i64 z)) ∧ KeepsFrom B W (W.setCell ⟨g, u.length * 2 + 1, none⟩ (.int .i64 z)) := by
  obtain ⟨⟨⟨v, hv, hrow, _⟩, hB⟩, hF, hT⟩ := h
  replace hrow : W.ownsRow n₀ 44 2 v (u ++ [q]).length (pcC (u ++ [q])) := hrow
  rw [hv.cell] at hc
  cases hc
  have hlen : (u ++ [q]).length = u.length + 1 := by simp
  rw [hlen] at hrow
  have hset := ownsRow_set hrow (i := u.length * 2 + 1) (by omega) (.int .i64 z)
  have hpcs : (pcC (u ++ [q])).set (u.length * 2 + 1) (.int .i64 z) = pcC (u ++ [⟨q.pos, z⟩]) := by
    have hlu := pcC_len u
    rw [pcC_snoc, pcC_snoc, ← hlu, List.set_append_right _ _ (by omega)]
    simp
  rw [hpcs] at hset
  obtain ⟨hl, h2 | ⟨g', cap', cur, e, h3, h4, h5, h6, h7, h8⟩⟩ := hrow
  · cases h2.1
  · cases e
    have hgx : Bx ≠ g := fun e => by
      subst e
      rw [show W.heap[Bx]? = _ from hv] at h4
      cases h4
      exact htx rfl
    have hgo : ∀ {k : Nat} {cq : Array Value}, W.heap[k]? = some (.cells cq 3 (0, 0)) → k ≠ g := fun hk e => by
      subst e
      rw [hk] at h4
      cases h4
    have hF' := heap_other (a := ⟨g, u.length * 2 + 1, none⟩) (v := .int .i64 z) hF (hgo hF)
    have hT' := heap_other (a := ⟨g, u.length * 2 + 1, none⟩) (v := .int .i64 z) hT (hgo hT)
    have hB' : Below n₀ W (W.setCell ⟨g, u.length * 2 + 1, none⟩ (.int .i64 z)) := (Below.refl _ W).setCell (p := ⟨g, u.length * 2 + 1, none⟩) h3 _
    refine ⟨⟨⟨⟨_, heap_other (a := ⟨g, u.length * 2 + 1, none⟩) (v := .int .i64 z) hv hgx, ?_, trivial⟩, hB.trans hB'⟩, hF', hT'⟩, ⟨hB', hF'.trans hF.symm, hT'.trans hT.symm⟩, (KeepsOthers.setCell _ _ _).from B⟩
    have hlen2 : (u ++ [(⟨q.pos, z⟩ : Pc)]).length = u.length + 1 := by simp
    simp only [hlen2]
    exact hset
/-- a piece within bounds -/
def okb (p : Pc) : Prop := 0 ≤ p.pos ∧ 0 ≤ p.len ∧ p.pos + p.len ≤ 9223372036854775807
theorem jstep_bd {o : List Pc} {p : Pc} (ho : ∀ q ∈ o, okb q) (hp : okb p) : ∀ q ∈ jstep o p, okb q := by
  rcases List.eq_nil_or_concat o with rfl | ⟨u, q, rfl⟩
  · rw [jstep_nil]
    intro q hq
    rw [List.mem_singleton.1 hq]; exact hp
  · rw [List.concat_eq_append] at ho ⊢
    rw [jstep_snoc]
    have hq := ho q (by simp)
    split
    · rename_i h
      intro x hx
      rcases List.mem_append.1 hx with hx | hx
      · exact ho x (by simp [hx])
      · rw [List.mem_singleton.1 hx]
        unfold okb at *
        simp only
        omega
    · intro x hx
      rcases List.mem_append.1 hx with hx | hx
      · exact ho x hx
      · rw [List.mem_singleton.1 hx]; exact hp
theorem fold_bd : ∀ (l o : List Pc), (∀ q ∈ o, okb q) → (∀ q ∈ l, okb q) → ∀ q ∈ l.foldl jstep o, okb q
  | [], o, ho, _ => ho
  | p :: r, o, ho, hl => fold_bd r _ (jstep_bd ho (hl p List.mem_cons_self)) (fun q hq => hl q (List.mem_cons_of_mem _ hq))
theorem jn_bd {l : List Pc} (h : ∀ q ∈ l, okb q) : ∀ q ∈ jn l, okb q := fold_bd l [] (fun q hq => by cases hq) h
theorem win_bd : ∀ {l : List Pc} (a f t : Int), (∀ q ∈ l, okb q) → ∀ q ∈ win a f t l, okb q
  | [], a, f, t, _ => fun q hq => by simp [win] at hq
  | p :: r, a, f, t, h => by
    have h1 := h p List.mem_cons_self
    have ih := win_bd (l := r) (a + p.len) f t (fun q hq => h q (List.mem_cons_of_mem _ hq))
    rw [win_cons]
    split
    · intro q hq
      rcases List.mem_cons.1 hq with rfl | hq
      · unfold okb at *
        simp only
        omega
      · exact ih q hq
    · exact ih
/-- the last piece's cells -/
theorem last_cells {W : World} {n₀ g cap : Nat} {u : List Pc} {q : Pc} (h : W.ownsRow n₀ 44 2 (.slice (some ⟨g, 0, none⟩) (u.length + 1) cap) (u.length + 1) (pcC (u ++ [q]))) :
    W.cell? ⟨g, u.length * 2, none⟩ = some (.int .i64 q.pos) ∧ W.cell? ⟨g, u.length * 2 + 1, none⟩ = some (.int .i64 q.len) ∧ (∀ o, W.frozen? ⟨g, o, none⟩ = false) ∧ n₀ ≤ g ∧ g < W.heap.size ∧ u.length + 1 ≤ cap ∧ W.heap[g]?.map (fun o => match o with | .cells _ e _ => some e | _ => none) = some (some 44) := by
  obtain ⟨hl, h2 | ⟨g', cap', cur, e, h3, h4, h5, h6, h7, h8⟩⟩ := h
  · cases h2.1
  · cases e
    have hlu := pcC_len u
    have hget : ∀ j v, (pcC (u ++ [q]))[j]? = some v → W.cell? ⟨g, j, none⟩ = some v := fun j v hj => by
      have hlt := (List.getElem?_eq_some_iff.1 hj).1
      rw [hl] at hlt
      refine cell_heap h4 ?_
      rw [← h8, List.getElem?_take, if_pos hlt] at hj
      rw [← Array.getElem?_toList]
      exact hj
    refine ⟨hget _ _ ?_, hget _ _ ?_, fun o => frozen_heap h4, h3, heap_lt h4, h5, by rw [h4]; rfl⟩
    · rw [pcC_snoc, ← hlu]; simp
    · rw [pcC_snoc, ← hlu]; simp

set_option maxRecDepth 100000 in
set_option maxHeartbeats 2000000 in
theorem join_ok (A : Option Addr) (m c : Nat) (l : List Pc) (w : World) (hl : Sl pcT w (low w.heap.size) A m l) (h0 : chk l 9223372036854775807 = 0) :
    Calls Try.prog 22 #[.slice A m c] w fun e w' => ∃ A', e = .returned (.tuple #[.slice A' (jn (win 0 0 (total l) l)).length (jn (win 0 0 (total l) l)).length, .int .i64 0]) ∧ Sl pcT w' (low w'.heap.size) A' (jn (win 0 0 (total l) l)).length (jn (win 0 0 (total l) l)) ∧ Kept w w' := by
  have hp := chk_parts h0
  have hok : okL l := fun p hp' => ⟨(hp.2.1 p hp').1, (hp.2.1 p hp').2.1⟩
  have hm : m ≤ 256 := by have := hl.1; omega
  have hC := check_any A m c l 9223372036854775807 w hl (pc_64 h0 max64) max64 (by omega)
  rw [h0] at hC
  have hT : ∀ w', Kept w w' → _ := fun w' hk => total_any A m c l w' (hl.kept hk) hok hp.2.2 (by omega)
  have ht0 := total_nonneg hok
  have ht1 := hp.2.2
  obtain ⟨i44, hi44, hz0, hz1, hz2⟩ := info_parts info44
  clear h0
  refine callsIn_wide (n := 4).1 (callsIn_of_wp_marks Try.func22 rfl trivial ?_ rfl)
  (simp only [Try.ntmps22, List.size_toArray, List.length_cons, List.length_nil, Nat.reduceAdd, Nat.reduceSub, Array.replicate_succ, Array.replicate_zero, List.push_toArray, List.append_toArray, List.nil_append, List.cons_append])
  gi_wp2_with (first
    | (refine ⟨trivial, ?_⟩; gi_at_call 15; refine (callsIn_wide.2 hC).mono ?_; rintro e w1 ⟨rfl, hk1⟩)
    | (refine ⟨trivial, ?_⟩; gi_at_call 25; refine (callsIn_wide.2 (hT _ (hk1.alloc hk1.size _))).mono ?_; rintro e w2 ⟨rfl, hk2⟩)
    | (refine ⟨trivial, ?_⟩; gi_at_call 28; refine (callsIn_wide.2 (window_any A m c 0 (total l) _)).mono ?_; rintro e w3 ⟨rfl, hw3⟩))
  obtain ⟨hBl, hBf, hBt, hz, hbw⟩ := boxes_at w2 A m c 0 (total l) w3 hw3
  have hb2 : Below w.heap.size w w2 := (hk1.alloc hk1.size _).trans (hk2.mono (by have := hk1.size; simp; omega))
  have hb3 : Below w.heap.size w w3 := hb2.trans (hbw.mono hb2.size)
  have hz1' : w1.heap.size < w2.heap.size := by have := hk2.size; simp at this; omega
  have bX : Boxed w3 w1.heap.size 25 (.slice none 0 0) := heap_below hbw (heap_below hk2 (Boxed.new w1 25 (.slice none 0 0)) (by simp)) hz1'
  have hwin := win_window 3 (by decide) A m c l 0 (total l) w2.heap.size (w2.heap.size + 1) (w2.heap.size + 1 + 1) w.heap.size w3 hok ht1 (by omega) (by omega) ht0 (by omega) (fun p hp' => (hp.2.1 p hp').2.2) hm (by have := hb3.size; omega) (hl.below hb3) hBl hBf hBt
  have hbd := Lib.hid (win_bd 0 0 (total l) (l := l) (fun q hq => hp.2.1 q hq))
  have Hlen := Lib.hid (show (win 0 0 (total l) l).length ≤ 256 from by have h1 := win_le l 0 0 (total l); have h2 := hl.1; omega)
  have hs1 := hk1.size
  clear hp hw3 hl ht1 hm hok hC hT hb2 hbw hk1 hk2 hBl
  generalize hL : win 0 0 (total l) l = L at hwin Hlen hbd
  replace hL := Lib.hid hL
  generalize hT0 : total l = T at *
  replace hT0 := Lib.hid hT0
  refine range_win (by rfl) hwin (by omega) (by omega) (by omega) (Grows w w.heap.size w1.heap.size 25 (w2.heap.size + 1) (w2.heap.size + 1 + 1) [.int .i64 0] [.int .i64 T] jn) (grows_own (by omega) (Nat.le_refl _))
    ⟨⟨⟨_, bX, World.ownsRow_nil _ _ _ _, trivial⟩, hb3⟩, hBf, hBt⟩
    (fun x Bp => { tmps := #[.slice A m c, undef, .slice none 0 0, .int .i64 0, .int .i64 0, .pointer (some ⟨w1.heap.size, 0, none⟩), .pointer (some ⟨Bp, 0, none⟩), undef, .slice A m c, .int .i64 0, .int .i64 0, .bool false, undef, .slice A m c, .slice A m c, .int .i64 T, .func (.func 32) #[] #[.pointer (some ⟨w2.heap.size, 0, none⟩), .pointer (some ⟨w2.heap.size + 1, 0, none⟩), .pointer (some ⟨w2.heap.size + 1 + 1, 0, none⟩)], .agg #[.int .i64 x.pos, .int .i64 x.len], undef, undef, undef, undef, undef, undef, undef, undef, undef, undef, undef, undef, undef, undef, undef, undef, undef, undef, undef, undef, undef, undef, undef, undef, undef, undef, undef, undef, undef, undef, undef, undef, undef, undef, undef, undef], defers := [] }) ?assign ?body ?done
  case assign =>
    intro l x W K hK
    gi_wp2
    exact hK
  case body =>
    rintro l pre x W₀ W hB₀ hgr₀ hgr hsame hbp hpre
    have hv0 : ∃ v, W.cell? ⟨w1.heap.size, 0, none⟩ = some v ∧ ∀ g m c, v = .slice (some ⟨g, 0, none⟩) m c → g < W₀.heap.size := by
      obtain ⟨⟨⟨v, hv, hrow, _⟩, _⟩, _⟩ := hgr₀
      refine ⟨v, Boxed.cell (hsame _ _ hv rfl), fun g m c e => ?_⟩
      subst e
      exact (hrow.lt g rfl).2
    clear hgr₀ hsame
    have hlen : (jn pre).length ≤ 256 := by
      have h1 := hpre.length_le
      have h2 := Hlen.out
      have h3 := jn_len pre
      rw [List.length_append] at h1
      omega
    have hmem : ∀ y ∈ pre ++ [x], okb y := fun y hy => hbd.out y (hpre.subset hy)
    have hxb : okb x := hmem x (by simp)
    have hjb : ∀ y ∈ jn pre, okb y := jn_bd (fun y hy => hmem y (by simp [hy]))
    have hjs := Lib.hid (jn_snoc pre x)
    replace hgr : Grows w w.heap.size w1.heap.size 25 (w2.heap.size + 1) (w2.heap.size + 1 + 1) [.int .i64 0] [.int .i64 T] (fun y => y) (jn pre) W := hgr
    obtain ⟨hx1, hx2, hx3⟩ := hxb
    clear hpre hmem hbd
    generalize jn pre = o at *
    have hp0 : W.cell? ⟨W₀.heap.size, 0, none⟩ = some (.int .i64 x.pos) := cell_heap hbp rfl
    have hp1 : W.cell? ⟨W₀.heap.size, 1, none⟩ = some (.int .i64 x.len) := cell_heap hbp rfl
    have hp2 := heap_lt hbp
    have hgr0 := Lib.hid hgr
    obtain ⟨⟨⟨v, hv, hrow, _⟩, hB⟩, hF, hT⟩ := hgr
    replace hrow : W.ownsRow w.heap.size 44 2 v o.length (pcC o) := hrow
    have hc := hv.cell
    have hf := hv.frozen
    have hBs := hB.size
    have hvl := hv.lt
    have hgB : ∀ g m c, v = .slice (some ⟨g, 0, none⟩) m c → g < W₀.heap.size := by
      obtain ⟨v0, h1, h2⟩ := hv0
      rw [hc] at h1
      cases h1
      exact h2
    clear hv0
    replace hbp := Lib.hid hbp
    clear hF hT
    rcases List.eq_nil_or_concat o with rfl | ⟨u, q, rfl⟩
    · rcases hrow.2 with ⟨rfl, h0⟩ | ⟨g, cap, cur, rfl, h1, h2, h3, h4, h5, h6⟩
      · gi_wp2
        refine region_round (S := fun w' => (∀ b o, b < W.heap.size → w'.cell? ⟨b, o, none⟩ = W.cell? ⟨b, o, none⟩) ∧ W.grownBy w' none) (by kernel_rfl) (by kernel_rfl) (by rintro ⟨a0, w0, h⟩; have h' : Exit.outgrown = Exit.normal := h.1; cases h') ⟨fun _ _ _ => rfl, grown_drew W⟩ (fun hS => ?_)
        refine wpAnyH_take (i := 0) (v := ?_) rfl (by kernel_rfl) (by kernel_rfl) (by kernel_rfl) (fun _ _ _ h => h) (Or.inl ⟨by kernel_rfl, ?_⟩) hS ?_
        rotate_left
        · intro w' hS'
          have hq := hS'.1
          have hq2 := hS'.2
          clear hS'
          first | (go_simp; done) | (go_simp; with_reducible rfl)
        try simp only [Act.put, List.getElem_toArray, List.getElem_cons_zero, List.getElem_cons_succ, List.setIfInBounds_toArray, List.set_cons_zero, List.set_cons_succ]
        refine wpAnyH_take (i := 1) (v := ?_) rfl (by kernel_rfl) (by kernel_rfl) (by kernel_rfl) (fun _ _ _ h => h) (Or.inl ⟨by kernel_rfl, ?_⟩) hS ?_
        rotate_left
        · intro w' hS'
          have hq := hS'.1
          have hq2 := hS'.2
          clear hS'
          first | (go_simp; done) | (go_simp; with_reducible rfl)
        try simp only [Act.put, List.getElem_toArray, List.getElem_cons_zero, List.getElem_cons_succ, List.setIfInBounds_toArray, List.set_cons_zero, List.set_cons_succ]
        refine wpAnyH_take (i := 2) (v := ?_) rfl (by kernel_rfl) (by kernel_rfl) (by kernel_rfl) (fun _ _ _ h => h) (Or.inl ⟨by kernel_rfl, ?_⟩) hS ?_
        rotate_left
        · intro w' hS'
          have hq := hS'.1
          have hq2 := hS'.2
          clear hS'
          first | (go_simp; done) | (go_simp; with_reducible rfl)
        try simp only [Act.put, List.getElem_toArray, List.getElem_cons_zero, List.getElem_cons_succ, List.setIfInBounds_toArray, List.set_cons_zero, List.set_cons_succ]
        refine wpAnyH_take (i := 3) (v := undef) rfl (by kernel_rfl) (by kernel_rfl) (by kernel_rfl) (fun _ _ _ h => h) (Or.inr ⟨by kernel_rfl, rfl⟩) hS ?_
        try simp only [Act.put, List.getElem_toArray, List.getElem_cons_zero, List.getElem_cons_succ, List.setIfInBounds_toArray, List.set_cons_zero, List.set_cons_succ]
        refine wpAnyH_take (i := 4) (v := undef) rfl (by kernel_rfl) (by kernel_rfl) (by kernel_rfl) (fun _ _ _ h => h) (Or.inr ⟨by kernel_rfl, rfl⟩) hS ?_
        try simp only [Act.put, List.getElem_toArray, List.getElem_cons_zero, List.getElem_cons_succ, List.setIfInBounds_toArray, List.set_cons_zero, List.set_cons_succ]
        refine wpAnyH_take (i := 5) (v := undef) rfl (by kernel_rfl) (by kernel_rfl) (by kernel_rfl) (fun _ _ _ h => h) (Or.inr ⟨by kernel_rfl, rfl⟩) hS ?_
        try simp only [Act.put, List.getElem_toArray, List.getElem_cons_zero, List.getElem_cons_succ, List.setIfInBounds_toArray, List.set_cons_zero, List.set_cons_succ]
        refine wpAnyH_take (i := 6) (v := undef) rfl (by kernel_rfl) (by kernel_rfl) (by kernel_rfl) (fun _ _ _ h => h) (Or.inr ⟨by kernel_rfl, rfl⟩) hS ?_
        try simp only [Act.put, List.getElem_toArray, List.getElem_cons_zero, List.getElem_cons_succ, List.setIfInBounds_toArray, List.set_cons_zero, List.set_cons_succ]
        refine wpAnyH_take (i := 7) (v := undef) rfl (by kernel_rfl) (by kernel_rfl) (by kernel_rfl) (fun _ _ _ h => h) (Or.inr ⟨by kernel_rfl, rfl⟩) hS ?_
        try simp only [Act.put, List.getElem_toArray, List.getElem_cons_zero, List.getElem_cons_succ, List.setIfInBounds_toArray, List.set_cons_zero, List.set_cons_succ]
        refine wpAnyH_take (i := 8) (v := undef) rfl (by kernel_rfl) (by kernel_rfl) (by kernel_rfl) (fun _ _ _ h => h) (Or.inr ⟨by kernel_rfl, rfl⟩) hS ?_
        try simp only [Act.put, List.getElem_toArray, List.getElem_cons_zero, List.getElem_cons_succ, List.setIfInBounds_toArray, List.set_cons_zero, List.set_cons_succ]
        refine wpAnyH_take (i := 9) (v := undef) rfl (by kernel_rfl) (by kernel_rfl) (by kernel_rfl) (fun _ _ _ h => h) (Or.inr ⟨by kernel_rfl, rfl⟩) hS ?_
        try simp only [Act.put, List.getElem_toArray, List.getElem_cons_zero, List.getElem_cons_succ, List.setIfInBounds_toArray, List.set_cons_zero, List.set_cons_succ]
        refine wpAnyH_take (i := 10) (v := undef) rfl (by kernel_rfl) (by kernel_rfl) (by kernel_rfl) (fun _ _ _ h => h) (Or.inr ⟨by kernel_rfl, rfl⟩) hS ?_
        try simp only [Act.put, List.getElem_toArray, List.getElem_cons_zero, List.getElem_cons_succ, List.setIfInBounds_toArray, List.set_cons_zero, List.set_cons_succ]
        refine wpAnyH_take (i := 11) (v := undef) rfl (by kernel_rfl) (by kernel_rfl) (by kernel_rfl) (fun _ _ _ h => h) (Or.inr ⟨by kernel_rfl, rfl⟩) hS ?_
        try simp only [Act.put, List.getElem_toArray, List.getElem_cons_zero, List.getElem_cons_succ, List.setIfInBounds_toArray, List.set_cons_zero, List.set_cons_succ]
        refine wpAnyH_take (i := 12) (v := ?_) rfl (by kernel_rfl) (by kernel_rfl) (by kernel_rfl) (fun _ _ _ h => h) (Or.inl ⟨by kernel_rfl, ?_⟩) hS ?_
        rotate_left
        · intro w' hS'
          have hq := hS'.1
          have hq2 := hS'.2
          clear hS'
          first | (go_simp; done) | (go_simp; with_reducible rfl)
        try simp only [Act.put, List.getElem_toArray, List.getElem_cons_zero, List.getElem_cons_succ, List.setIfInBounds_toArray, List.set_cons_zero, List.set_cons_succ]
        refine wpAnyH_done (by kernel_rfl) ?_ _
        refine exit_at (fun W5 => W.grownBy W5 none) (grown_drew W) (fun W5 h5 => ?_)
        obtain ⟨⟨⟨v5, hv5, hrow5, _⟩, hB5⟩, hF5, hT5⟩ := grows_own (f := fun y => y) (B := w.heap.size) (Nat.le_refl _) (Nat.le_refl _) ([]) W W5 none hgr0.out h5 (fun r e => by cases e)
        replace hrow5 : W5.ownsRow w.heap.size 44 2 v5 ([]).length (pcC ([])) := hrow5
        have hq0 : W5.cell? ⟨W₀.heap.size, 0, none⟩ = some (.int .i64 x.pos) := (grown_cell h5 hp2).trans hp0
        have hq1 : W5.cell? ⟨W₀.heap.size, 1, none⟩ = some (.int .i64 x.len) := (grown_cell h5 hp2).trans hp1
        have hq2 : W₀.heap.size < W5.heap.size := Nat.lt_of_lt_of_le hp2 h5.size
        have e5 := (grown_cell (a := ⟨w1.heap.size, 0, none⟩) h5 hvl).trans hc
        rw [hv5.cell] at e5
        replace e5 := Option.some.inj e5
        subst e5
        have hc5 := hv5.cell
        have hvl5 := hv5.lt
        have hf5 := hv5.frozen
        have hBs5 := hB5.size
        have hkw5 : KeepsW w.heap.size (w2.heap.size + 1) (w2.heap.size + 1 + 1) W W5 := keepsW_grown h5 hBs (by omega) (by omega)
        have hkf5 : ∀ B, KeepsFrom B W W5 := fun B => keepsFrom_grown h5
        have Hrow5 := Lib.hid hrow5
        clear hc hf hp0 hp1 hrow hv hB
        have hstep := Lib.hid (show jstep [] x = [] ++ [x] from rfl)
        gi_wp2_with (gi_at_builtin; refine wpListIn_append_own_at _ rfl _ _ 25 rfl w.heap.size 44 i44 _ 2 16 Try.underlying25 hi44 hz0 hz1 hz2 rfl (by decide) _ _ _ rfl (Hrow5.out.alloc _) ⟨W5.heap.size, 0, none⟩ 1 1 [.int .i64 x.pos, .int .i64 x.len] rfl rfl (cells_two_new _ _ _ _) (by simp [Value.oneCell']) (by unfold maxLen; omega) (by omega) (by simp; omega) ?_; intro v' w4 hown' hgrow _ hat; obtain ⟨g', cap', rfl⟩ := ownsRow_succ hown'; obtain ⟨hv1, hv2, hr2, hk2, hb2⟩ := hv5.appended (by decide) Hrow5.out hBs5 hs1 hown' hgrow; have hc1 := hv1.cell; have hf1 := hv1.frozen)
        have hkw := keepsW_append hv5 (by decide) Hrow5.out hBs5 hs1 hown' hgrow hF5 hT5 (by omega) (by omega)
        refine ⟨(hkf5 _).trans (hk2.from _), hkw5.trans hkw, ?_⟩
        show Grows w w.heap.size w1.heap.size 25 (w2.heap.size + 1) (w2.heap.size + 1 + 1) [.int .i64 0] [.int .i64 T] (fun y => y) (jn (pre ++ [x])) _
        rw [hjs.out, hstep.out]
        refine ⟨⟨⟨_, hv2, ?_, trivial⟩, hB5.trans hb2⟩, hkw.f.trans hF5, hkw.t.trans hT5⟩
        show World.ownsRow _ _ _ _ _ (([]) ++ [x]).length (pcC (([]) ++ [x]))
        rw [pcC_snoc, List.length_append]
        simpa using hr2
      · gi_wp2
        refine region_round (S := fun w' => (∀ b o, b < W.heap.size → w'.cell? ⟨b, o, none⟩ = W.cell? ⟨b, o, none⟩) ∧ W.grownBy w' none) (by kernel_rfl) (by kernel_rfl) (by rintro ⟨a0, w0, h⟩; have h' : Exit.outgrown = Exit.normal := h.1; cases h') ⟨fun _ _ _ => rfl, grown_drew W⟩ (fun hS => ?_)
        refine wpAnyH_take (i := 0) (v := ?_) rfl (by kernel_rfl) (by kernel_rfl) (by kernel_rfl) (fun _ _ _ h => h) (Or.inl ⟨by kernel_rfl, ?_⟩) hS ?_
        rotate_left
        · intro w' hS'
          have hq := hS'.1
          have hq2 := hS'.2
          clear hS'
          first | (go_simp; done) | (go_simp; with_reducible rfl)
        try simp only [Act.put, List.getElem_toArray, List.getElem_cons_zero, List.getElem_cons_succ, List.setIfInBounds_toArray, List.set_cons_zero, List.set_cons_succ]
        refine wpAnyH_take (i := 1) (v := ?_) rfl (by kernel_rfl) (by kernel_rfl) (by kernel_rfl) (fun _ _ _ h => h) (Or.inl ⟨by kernel_rfl, ?_⟩) hS ?_
        rotate_left
        · intro w' hS'
          have hq := hS'.1
          have hq2 := hS'.2
          clear hS'
          first | (go_simp; done) | (go_simp; with_reducible rfl)
        try simp only [Act.put, List.getElem_toArray, List.getElem_cons_zero, List.getElem_cons_succ, List.setIfInBounds_toArray, List.set_cons_zero, List.set_cons_succ]
        refine wpAnyH_take (i := 2) (v := ?_) rfl (by kernel_rfl) (by kernel_rfl) (by kernel_rfl) (fun _ _ _ h => h) (Or.inl ⟨by kernel_rfl, ?_⟩) hS ?_
        rotate_left
        · intro w' hS'
          have hq := hS'.1
          have hq2 := hS'.2
          clear hS'
          first | (go_simp; done) | (go_simp; with_reducible rfl)
        try simp only [Act.put, List.getElem_toArray, List.getElem_cons_zero, List.getElem_cons_succ, List.setIfInBounds_toArray, List.set_cons_zero, List.set_cons_succ]
        refine wpAnyH_take (i := 3) (v := undef) rfl (by kernel_rfl) (by kernel_rfl) (by kernel_rfl) (fun _ _ _ h => h) (Or.inr ⟨by kernel_rfl, rfl⟩) hS ?_
        try simp only [Act.put, List.getElem_toArray, List.getElem_cons_zero, List.getElem_cons_succ, List.setIfInBounds_toArray, List.set_cons_zero, List.set_cons_succ]
        refine wpAnyH_take (i := 4) (v := undef) rfl (by kernel_rfl) (by kernel_rfl) (by kernel_rfl) (fun _ _ _ h => h) (Or.inr ⟨by kernel_rfl, rfl⟩) hS ?_
        try simp only [Act.put, List.getElem_toArray, List.getElem_cons_zero, List.getElem_cons_succ, List.setIfInBounds_toArray, List.set_cons_zero, List.set_cons_succ]
        refine wpAnyH_take (i := 5) (v := undef) rfl (by kernel_rfl) (by kernel_rfl) (by kernel_rfl) (fun _ _ _ h => h) (Or.inr ⟨by kernel_rfl, rfl⟩) hS ?_
        try simp only [Act.put, List.getElem_toArray, List.getElem_cons_zero, List.getElem_cons_succ, List.setIfInBounds_toArray, List.set_cons_zero, List.set_cons_succ]
        refine wpAnyH_take (i := 6) (v := undef) rfl (by kernel_rfl) (by kernel_rfl) (by kernel_rfl) (fun _ _ _ h => h) (Or.inr ⟨by kernel_rfl, rfl⟩) hS ?_
        try simp only [Act.put, List.getElem_toArray, List.getElem_cons_zero, List.getElem_cons_succ, List.setIfInBounds_toArray, List.set_cons_zero, List.set_cons_succ]
        refine wpAnyH_take (i := 7) (v := undef) rfl (by kernel_rfl) (by kernel_rfl) (by kernel_rfl) (fun _ _ _ h => h) (Or.inr ⟨by kernel_rfl, rfl⟩) hS ?_
        try simp only [Act.put, List.getElem_toArray, List.getElem_cons_zero, List.getElem_cons_succ, List.setIfInBounds_toArray, List.set_cons_zero, List.set_cons_succ]
        refine wpAnyH_take (i := 8) (v := undef) rfl (by kernel_rfl) (by kernel_rfl) (by kernel_rfl) (fun _ _ _ h => h) (Or.inr ⟨by kernel_rfl, rfl⟩) hS ?_
        try simp only [Act.put, List.getElem_toArray, List.getElem_cons_zero, List.getElem_cons_succ, List.setIfInBounds_toArray, List.set_cons_zero, List.set_cons_succ]
        refine wpAnyH_take (i := 9) (v := undef) rfl (by kernel_rfl) (by kernel_rfl) (by kernel_rfl) (fun _ _ _ h => h) (Or.inr ⟨by kernel_rfl, rfl⟩) hS ?_
        try simp only [Act.put, List.getElem_toArray, List.getElem_cons_zero, List.getElem_cons_succ, List.setIfInBounds_toArray, List.set_cons_zero, List.set_cons_succ]
        refine wpAnyH_take (i := 10) (v := undef) rfl (by kernel_rfl) (by kernel_rfl) (by kernel_rfl) (fun _ _ _ h => h) (Or.inr ⟨by kernel_rfl, rfl⟩) hS ?_
        try simp only [Act.put, List.getElem_toArray, List.getElem_cons_zero, List.getElem_cons_succ, List.setIfInBounds_toArray, List.set_cons_zero, List.set_cons_succ]
        refine wpAnyH_take (i := 11) (v := undef) rfl (by kernel_rfl) (by kernel_rfl) (by kernel_rfl) (fun _ _ _ h => h) (Or.inr ⟨by kernel_rfl, rfl⟩) hS ?_
        try simp only [Act.put, List.getElem_toArray, List.getElem_cons_zero, List.getElem_cons_succ, List.setIfInBounds_toArray, List.set_cons_zero, List.set_cons_succ]
        refine wpAnyH_take (i := 12) (v := ?_) rfl (by kernel_rfl) (by kernel_rfl) (by kernel_rfl) (fun _ _ _ h => h) (Or.inl ⟨by kernel_rfl, ?_⟩) hS ?_
        rotate_left
        · intro w' hS'
          have hq := hS'.1
          have hq2 := hS'.2
          clear hS'
          first | (go_simp; done) | (go_simp; with_reducible rfl)
        try simp only [Act.put, List.getElem_toArray, List.getElem_cons_zero, List.getElem_cons_succ, List.setIfInBounds_toArray, List.set_cons_zero, List.set_cons_succ]
        refine wpAnyH_done (by kernel_rfl) ?_ _
        refine exit_at (fun W5 => W.grownBy W5 none) (grown_drew W) (fun W5 h5 => ?_)
        obtain ⟨⟨⟨v5, hv5, hrow5, _⟩, hB5⟩, hF5, hT5⟩ := grows_own (f := fun y => y) (B := w.heap.size) (Nat.le_refl _) (Nat.le_refl _) ([]) W W5 none hgr0.out h5 (fun r e => by cases e)
        replace hrow5 : W5.ownsRow w.heap.size 44 2 v5 ([]).length (pcC ([])) := hrow5
        have hq0 : W5.cell? ⟨W₀.heap.size, 0, none⟩ = some (.int .i64 x.pos) := (grown_cell h5 hp2).trans hp0
        have hq1 : W5.cell? ⟨W₀.heap.size, 1, none⟩ = some (.int .i64 x.len) := (grown_cell h5 hp2).trans hp1
        have hq2 : W₀.heap.size < W5.heap.size := Nat.lt_of_lt_of_le hp2 h5.size
        have e5 := (grown_cell (a := ⟨w1.heap.size, 0, none⟩) h5 hvl).trans hc
        rw [hv5.cell] at e5
        replace e5 := Option.some.inj e5
        subst e5
        have hc5 := hv5.cell
        have hvl5 := hv5.lt
        have hf5 := hv5.frozen
        have hBs5 := hB5.size
        have hkw5 : KeepsW w.heap.size (w2.heap.size + 1) (w2.heap.size + 1 + 1) W W5 := keepsW_grown h5 hBs (by omega) (by omega)
        have hkf5 : ∀ B, KeepsFrom B W W5 := fun B => keepsFrom_grown h5
        have Hrow5 := Lib.hid hrow5
        clear hc hf hp0 hp1 hrow hv hB
        have hstep := Lib.hid (show jstep [] x = [] ++ [x] from rfl)
        gi_wp2_with (gi_at_builtin; refine wpListIn_append_own_at _ rfl _ _ 25 rfl w.heap.size 44 i44 _ 2 16 Try.underlying25 hi44 hz0 hz1 hz2 rfl (by decide) _ _ _ rfl (Hrow5.out.alloc _) ⟨W5.heap.size, 0, none⟩ 1 1 [.int .i64 x.pos, .int .i64 x.len] rfl rfl (cells_two_new _ _ _ _) (by simp [Value.oneCell']) (by unfold maxLen; omega) (by omega) (by simp; omega) ?_; intro v' w4 hown' hgrow _ hat; obtain ⟨g', cap', rfl⟩ := ownsRow_succ hown'; obtain ⟨hv1, hv2, hr2, hk2, hb2⟩ := hv5.appended (by decide) Hrow5.out hBs5 hs1 hown' hgrow; have hc1 := hv1.cell; have hf1 := hv1.frozen)
        have hkw := keepsW_append hv5 (by decide) Hrow5.out hBs5 hs1 hown' hgrow hF5 hT5 (by omega) (by omega)
        refine ⟨(hkf5 _).trans (hk2.from _), hkw5.trans hkw, ?_⟩
        show Grows w w.heap.size w1.heap.size 25 (w2.heap.size + 1) (w2.heap.size + 1 + 1) [.int .i64 0] [.int .i64 T] (fun y => y) (jn (pre ++ [x])) _
        rw [hjs.out, hstep.out]
        refine ⟨⟨⟨_, hv2, ?_, trivial⟩, hB5.trans hb2⟩, hkw.f.trans hF5, hkw.t.trans hT5⟩
        show World.ownsRow _ _ _ _ _ (([]) ++ [x]).length (pcC (([]) ++ [x]))
        rw [pcC_snoc, List.length_append]
        simpa using hr2
    · have hlen' : u.length + 1 ≤ 256 := by simpa using hlen
      rw [show (u.concat q).length = u.length + 1 by simp, List.concat_eq_append] at *
      obtain ⟨g, cap, rfl⟩ := ownsRow_succ hrow
      obtain ⟨r0, r1, rf, rg0, rg1, rcap, _⟩ := last_cells hrow
      obtain ⟨y1, y2, y3⟩ := hjb q (by simp)
      clear hjb
      have hwl : IntKind.i64.wrap (u.length : Int) = u.length := IntWalk.i64_in _ ⟨by omega, by omega⟩
      have hil : (u.length : Int) < u.length + 1 := by omega
      have hil0 : (0 : Int) ≤ u.length := by omega
      by_cases hj : q.pos + q.len = x.pos
      · gi_wp2
        refine region_round (S := fun w' => (∀ b o, b < W.heap.size → w'.cell? ⟨b, o, none⟩ = W.cell? ⟨b, o, none⟩) ∧ W.grownBy w' none) (by kernel_rfl) (by kernel_rfl) (by rintro ⟨a0, w0, h⟩; have h' : Exit.outgrown = Exit.normal := h.1; cases h') ⟨fun _ _ _ => rfl, grown_drew W⟩ (fun hS => ?_)
        refine wpAnyH_take (i := 0) (v := ?_) rfl (by kernel_rfl) (by kernel_rfl) (by kernel_rfl) (fun _ _ _ h => h) (Or.inl ⟨by kernel_rfl, ?_⟩) hS ?_
        rotate_left
        · intro w' hS'
          have hq := hS'.1
          have hq2 := hS'.2
          clear hS'
          first | (go_simp; done) | (go_simp; with_reducible rfl)
        try simp only [Act.put, List.getElem_toArray, List.getElem_cons_zero, List.getElem_cons_succ, List.setIfInBounds_toArray, List.set_cons_zero, List.set_cons_succ]
        refine wpAnyH_take (i := 1) (v := ?_) rfl (by kernel_rfl) (by kernel_rfl) (by kernel_rfl) (fun _ _ _ h => h) (Or.inl ⟨by kernel_rfl, ?_⟩) hS ?_
        rotate_left
        · intro w' hS'
          have hq := hS'.1
          have hq2 := hS'.2
          clear hS'
          first | (go_simp; done) | (go_simp; with_reducible rfl)
        try simp only [Act.put, List.getElem_toArray, List.getElem_cons_zero, List.getElem_cons_succ, List.setIfInBounds_toArray, List.set_cons_zero, List.set_cons_succ]
        refine wpAnyH_take (i := 2) (v := ?_) rfl (by kernel_rfl) (by kernel_rfl) (by kernel_rfl) (fun _ _ _ h => h) (Or.inl ⟨by kernel_rfl, ?_⟩) hS ?_
        rotate_left
        · intro w' hS'
          have hq := hS'.1
          have hq2 := hS'.2
          clear hS'
          first | (go_simp; done) | (go_simp; with_reducible rfl)
        try simp only [Act.put, List.getElem_toArray, List.getElem_cons_zero, List.getElem_cons_succ, List.setIfInBounds_toArray, List.set_cons_zero, List.set_cons_succ]
        refine wpAnyH_take (i := 3) (v := ?_) rfl (by kernel_rfl) (by kernel_rfl) (by kernel_rfl) (fun _ _ _ h => h) (Or.inl ⟨by kernel_rfl, ?_⟩) hS ?_
        rotate_left
        · intro w' hS'
          have hq := hS'.1
          have hq2 := hS'.2
          clear hS'
          first | (go_simp; done) | (go_simp; with_reducible rfl)
        try simp only [Act.put, List.getElem_toArray, List.getElem_cons_zero, List.getElem_cons_succ, List.setIfInBounds_toArray, List.set_cons_zero, List.set_cons_succ]
        refine wpAnyH_take (i := 4) (v := ?_) rfl (by kernel_rfl) (by kernel_rfl) (by kernel_rfl) (fun _ _ _ h => h) (Or.inl ⟨by kernel_rfl, ?_⟩) hS ?_
        rotate_left
        · intro w' hS'
          have hq := hS'.1
          have hq2 := hS'.2
          clear hS'
          first | (go_simp; done) | (go_simp; with_reducible rfl)
        try simp only [Act.put, List.getElem_toArray, List.getElem_cons_zero, List.getElem_cons_succ, List.setIfInBounds_toArray, List.set_cons_zero, List.set_cons_succ]
        refine wpAnyH_take (i := 5) (v := ?_) rfl (by kernel_rfl) (by kernel_rfl) (by kernel_rfl) (fun _ _ _ h => h) (Or.inl ⟨by kernel_rfl, ?_⟩) hS ?_
        rotate_left
        · intro w' hS'
          have hq := hS'.1
          have hq2 := hS'.2
          clear hS'
          first | (go_simp; done) | (go_simp; with_reducible rfl)
        try simp only [Act.put, List.getElem_toArray, List.getElem_cons_zero, List.getElem_cons_succ, List.setIfInBounds_toArray, List.set_cons_zero, List.set_cons_succ]
        refine wpAnyH_take (i := 6) (v := ?_) rfl (by kernel_rfl) (by kernel_rfl) (by kernel_rfl) (fun _ _ _ h => h) (Or.inl ⟨by kernel_rfl, ?_⟩) hS ?_
        rotate_left
        · intro w' hS'
          have hq := hS'.1
          have hq2 := hS'.2
          clear hS'
          first | (go_simp; done) | (go_simp; with_reducible rfl)
        try simp only [Act.put, List.getElem_toArray, List.getElem_cons_zero, List.getElem_cons_succ, List.setIfInBounds_toArray, List.set_cons_zero, List.set_cons_succ]
        refine wpAnyH_take (i := 7) (v := ?_) rfl (by kernel_rfl) (by kernel_rfl) (by kernel_rfl) (fun _ _ _ h => h) (Or.inl ⟨by kernel_rfl, ?_⟩) hS ?_
        rotate_left
        · intro w' hS'
          have hq := hS'.1
          have hq2 := hS'.2
          clear hS'
          first | (go_simp; done) | (go_simp; with_reducible rfl)
        try simp only [Act.put, List.getElem_toArray, List.getElem_cons_zero, List.getElem_cons_succ, List.setIfInBounds_toArray, List.set_cons_zero, List.set_cons_succ]
        refine wpAnyH_take (i := 9) (v := ?_) rfl (by kernel_rfl) (by kernel_rfl) (by kernel_rfl) (fun _ _ _ h => h) (Or.inl ⟨by kernel_rfl, ?_⟩) hS ?_
        rotate_left
        · intro w' hS'
          have hq := hS'.1
          have hq2 := hS'.2
          clear hS'
          first | (go_simp; done) | (go_simp; with_reducible rfl)
        try simp only [Act.put, List.getElem_toArray, List.getElem_cons_zero, List.getElem_cons_succ, List.setIfInBounds_toArray, List.set_cons_zero, List.set_cons_succ]
        refine wpAnyH_take (i := 10) (v := ?_) rfl (by kernel_rfl) (by kernel_rfl) (by kernel_rfl) (fun _ _ _ h => h) (Or.inl ⟨by kernel_rfl, ?_⟩) hS ?_
        rotate_left
        · intro w' hS'
          have hq := hS'.1
          have hq2 := hS'.2
          clear hS'
          first | (go_simp; done) | (go_simp; with_reducible rfl)
        try simp only [Act.put, List.getElem_toArray, List.getElem_cons_zero, List.getElem_cons_succ, List.setIfInBounds_toArray, List.set_cons_zero, List.set_cons_succ]
        refine wpAnyH_ready (rs := [8]) (by kernel_rfl) (by simp) ?_
        refine AllReadyH.cons rfl (fun K hK => ?_) AllReadyH.nil
        go_simp
        go_at_call 26
        refine (end_exact q.pos q.len _ y1 y2 y3).mono ?_
        rintro e9 w9 ⟨rfl, rfl⟩
        try dsimp only
        refine hK.out _ _ ?_ (fun hS => ?_)
        · exact ⟨fun b o hb => (Below.cell (p := ⟨b, o, none⟩) ((Below.refl W.heap.size _).alloc hS.2.size _) hb).trans (hS.1 b o hb), grown_alloc hS.2 _⟩
        clear hK K
        try simp only [Act.put, List.getElem_toArray, List.getElem_cons_zero, List.getElem_cons_succ, List.setIfInBounds_toArray, List.set_cons_zero, List.set_cons_succ]
        refine wpAnyH_take (i := 11) (v := ?_) rfl (by kernel_rfl) (by kernel_rfl) (by kernel_rfl) (fun _ _ _ h => h) (Or.inl ⟨by kernel_rfl, ?_⟩) hS ?_
        rotate_left
        · intro w' hS'
          have hq := hS'.1
          have hq2 := hS'.2
          clear hS'
          first | (go_simp; done) | (go_simp; with_reducible rfl)
        try simp only [Act.put, List.getElem_toArray, List.getElem_cons_zero, List.getElem_cons_succ, List.setIfInBounds_toArray, List.set_cons_zero, List.set_cons_succ]
        refine wpAnyH_take (i := 12) (v := ?_) rfl (by kernel_rfl) (by kernel_rfl) (by kernel_rfl) (fun _ _ _ h => h) (Or.inl ⟨by kernel_rfl, ?_⟩) hS ?_
        rotate_left
        · intro w' hS'
          have hq := hS'.1
          have hq2 := hS'.2
          clear hS'
          first | (go_simp; done) | (go_simp; with_reducible rfl)
        try simp only [Act.put, List.getElem_toArray, List.getElem_cons_zero, List.getElem_cons_succ, List.setIfInBounds_toArray, List.set_cons_zero, List.set_cons_succ]
        refine wpAnyH_done (by kernel_rfl) ?_ _
        refine exit_at (fun W5 => W.grownBy W5 none) hS.2 (fun W5 h5 => ?_)
        clear hS
        have hstep := Lib.hid (show jstep (u ++ [q]) x = u ++ [⟨q.pos, q.len + x.len⟩] by rw [jstep_snoc, if_pos hj])
        obtain ⟨⟨⟨v5, hv5, hrow5, _⟩, hB5⟩, hF5, hT5⟩ := grows_own (f := fun y => y) (B := w.heap.size) (Nat.le_refl _) (Nat.le_refl _) (u ++ [q]) W W5 none hgr0.out h5 (fun r e => by cases e)
        replace hrow5 : W5.ownsRow w.heap.size 44 2 v5 (u ++ [q]).length (pcC (u ++ [q])) := hrow5
        have hq0 : W5.cell? ⟨W₀.heap.size, 0, none⟩ = some (.int .i64 x.pos) := (grown_cell h5 hp2).trans hp0
        have hq1 : W5.cell? ⟨W₀.heap.size, 1, none⟩ = some (.int .i64 x.len) := (grown_cell h5 hp2).trans hp1
        have hq2 : W₀.heap.size < W5.heap.size := Nat.lt_of_lt_of_le hp2 h5.size
        have e5 := (grown_cell (a := ⟨w1.heap.size, 0, none⟩) h5 hvl).trans hc
        rw [hv5.cell] at e5
        replace e5 := Option.some.inj e5
        subst e5
        have hc5 := hv5.cell
        have hvl5 := hv5.lt
        have hf5 := hv5.frozen
        have hBs5 := hB5.size
        have hkw5 : KeepsW w.heap.size (w2.heap.size + 1) (w2.heap.size + 1 + 1) W W5 := keepsW_grown h5 hBs (by omega) (by omega)
        have hkf5 : ∀ B, KeepsFrom B W W5 := fun B => keepsFrom_grown h5
        have Hrow5 := Lib.hid hrow5
        clear hc hf hp0 hp1 hrow hv hB
        rw [show (u ++ [q]).length = u.length + 1 by simp] at hrow5
        obtain ⟨r50, r51, rf5, _, rg5, rcap5, _⟩ := last_cells hrow5
        have hgr5 := Lib.hid (grows_own (f := fun y => y) (B := w.heap.size) (Nat.le_refl _) (Nat.le_refl _) (u ++ [q]) W W5 none hgr0.out h5 (fun r e => by cases e))
        have hww : IntKind.i64.wrap (q.len + x.len) = q.len + x.len := IntWalk.i64_in _ ⟨by omega, by omega⟩
        have hgp := hgB _ _ _ rfl
        have hgp1 : W₀.heap.size ≠ g := by omega
        have hgp2 : w1.heap.size ≠ g := fun e => hv5.not_row (by decide) hrow5 (by rw [e]; rfl)
        clear r0 r1 rf rcap hj hrow5 hgB
        gi_wp2
        refine region_round (S := fun w' => (∀ b o, b < W5.heap.size → b ≠ g → w'.cell? ⟨b, o, none⟩ = W5.cell? ⟨b, o, none⟩) ∧ True) (by kernel_rfl) (by kernel_rfl) (by rintro ⟨a0, w0, h⟩; have h' : Exit.outgrown = Exit.normal := h.1; cases h') ⟨fun _ _ _ _ => rfl, trivial⟩ (fun hS => ?_)
        refine wpAnyH_take (i := 0) (v := ?_) rfl (by kernel_rfl) (by kernel_rfl) (by kernel_rfl) (fun _ _ _ h => h) (Or.inl ⟨by kernel_rfl, ?_⟩) hS ?_
        rotate_left
        · intro w' hS'
          have hq := hS'.1
          have hq2 := hS'.2
          clear hS'
          first | (go_simp; done) | (go_simp; with_reducible rfl)
        try simp only [Act.put, List.getElem_toArray, List.getElem_cons_zero, List.getElem_cons_succ, List.setIfInBounds_toArray, List.set_cons_zero, List.set_cons_succ]
        refine wpAnyH_take (i := 1) (v := ?_) rfl (by kernel_rfl) (by kernel_rfl) (by kernel_rfl) (fun _ _ _ h => h) (Or.inl ⟨by kernel_rfl, ?_⟩) hS ?_
        rotate_left
        · intro w' hS'
          have hq := hS'.1
          have hq2 := hS'.2
          clear hS'
          first | (go_simp; done) | (go_simp; with_reducible rfl)
        try simp only [Act.put, List.getElem_toArray, List.getElem_cons_zero, List.getElem_cons_succ, List.setIfInBounds_toArray, List.set_cons_zero, List.set_cons_succ]
        refine wpAnyH_take (i := 2) (v := ?_) rfl (by kernel_rfl) (by kernel_rfl) (by kernel_rfl) (fun _ _ _ h => h) (Or.inl ⟨by kernel_rfl, ?_⟩) hS ?_
        rotate_left
        · intro w' hS'
          have hq := hS'.1
          have hq2 := hS'.2
          clear hS'
          first | (go_simp; done) | (go_simp; with_reducible rfl)
        try simp only [Act.put, List.getElem_toArray, List.getElem_cons_zero, List.getElem_cons_succ, List.setIfInBounds_toArray, List.set_cons_zero, List.set_cons_succ]
        refine wpAnyH_take (i := 3) (v := ?_) rfl (by kernel_rfl) (by kernel_rfl) (by kernel_rfl) (fun _ _ _ h => h) (Or.inl ⟨by kernel_rfl, ?_⟩) hS ?_
        rotate_left
        · intro w' hS'
          have hq := hS'.1
          have hq2 := hS'.2
          clear hS'
          first | (go_simp; done) | (go_simp; with_reducible rfl)
        try simp only [Act.put, List.getElem_toArray, List.getElem_cons_zero, List.getElem_cons_succ, List.setIfInBounds_toArray, List.set_cons_zero, List.set_cons_succ]
        refine wpAnyH_take (i := 4) (v := ?_) rfl (by kernel_rfl) (by kernel_rfl) (by kernel_rfl) (fun _ _ _ h => h) (Or.inl ⟨by kernel_rfl, ?_⟩) hS ?_
        rotate_left
        · intro w' hS'
          have hq := hS'.1
          have hq2 := hS'.2
          clear hS'
          first | (go_simp; done) | (go_simp; with_reducible rfl)
        try simp only [Act.put, List.getElem_toArray, List.getElem_cons_zero, List.getElem_cons_succ, List.setIfInBounds_toArray, List.set_cons_zero, List.set_cons_succ]
        refine wpAnyH_take (i := 6) (v := ?_) rfl (by kernel_rfl) (by kernel_rfl) (by kernel_rfl) (fun _ _ _ h => h) (Or.inl ⟨by kernel_rfl, ?_⟩) hS ?_
        rotate_left
        · intro w' hS'
          have hq := hS'.1
          have hq2 := hS'.2
          clear hS'
          first | (go_simp; done) | (go_simp; with_reducible rfl)
        try simp only [Act.put, List.getElem_toArray, List.getElem_cons_zero, List.getElem_cons_succ, List.setIfInBounds_toArray, List.set_cons_zero, List.set_cons_succ]
        refine wpAnyH_take (i := 7) (v := ?_) rfl (by kernel_rfl) (by kernel_rfl) (by kernel_rfl) (fun _ _ _ h => h) (Or.inl ⟨by kernel_rfl, ?_⟩) hS ?_
        rotate_left
        · intro w' hS'
          have hq := hS'.1
          have hq2 := hS'.2
          clear hS'
          first | (go_simp; done) | (go_simp; with_reducible rfl)
        try simp only [Act.put, List.getElem_toArray, List.getElem_cons_zero, List.getElem_cons_succ, List.setIfInBounds_toArray, List.set_cons_zero, List.set_cons_succ]
        refine wpAnyH_ready (rs := [5]) (by kernel_rfl) (by simp) ?_
        refine AllReadyH.cons rfl (fun K hK => ?_) AllReadyH.nil
        go_simp
        refine hK.out _ _ ?_ (fun hS => ?_)
        · exact hS
        clear hK K
        try simp only [Act.put, List.getElem_toArray, List.getElem_cons_zero, List.getElem_cons_succ, List.setIfInBounds_toArray, List.set_cons_zero, List.set_cons_succ]
        refine wpAnyH_take (i := 8) (v := ?_) rfl (by kernel_rfl) (by kernel_rfl) (by kernel_rfl) (fun _ _ _ h => h) (Or.inl ⟨by kernel_rfl, ?_⟩) hS ?_
        rotate_left
        · intro w' hS'
          have hq := hS'.1
          have hq2 := hS'.2
          clear hS'
          first | (go_simp; done) | (go_simp; with_reducible rfl)
        try simp only [Act.put, List.getElem_toArray, List.getElem_cons_zero, List.getElem_cons_succ, List.setIfInBounds_toArray, List.set_cons_zero, List.set_cons_succ]
        refine wpAnyH_take (i := 9) (v := ?_) rfl (by kernel_rfl) (by kernel_rfl) (by kernel_rfl) (fun _ _ _ h => h) (Or.inl ⟨by kernel_rfl, ?_⟩) hS ?_
        rotate_left
        · intro w' hS'
          have hq := hS'.1
          have hq2 := hS'.2
          clear hS'
          first | (go_simp; done) | (go_simp; with_reducible rfl)
        try simp only [Act.put, List.getElem_toArray, List.getElem_cons_zero, List.getElem_cons_succ, List.setIfInBounds_toArray, List.set_cons_zero, List.set_cons_succ]
        refine wpAnyH_take (i := 10) (v := ?_) rfl (by kernel_rfl) (by kernel_rfl) (by kernel_rfl) (fun _ _ _ h => h) (Or.inl ⟨by kernel_rfl, ?_⟩) hS ?_
        rotate_left
        · intro w' hS'
          have hq := hS'.1
          have hq2 := hS'.2
          clear hS'
          first | (go_simp; done) | (go_simp; with_reducible rfl)
        try simp only [Act.put, List.getElem_toArray, List.getElem_cons_zero, List.getElem_cons_succ, List.setIfInBounds_toArray, List.set_cons_zero, List.set_cons_succ]
        refine wpAnyH_ready (rs := [11]) (by kernel_rfl) (by simp) ?_
        refine AllReadyH.cons rfl (fun K hK => ?_) AllReadyH.nil
        go_simp
        obtain ⟨gs1, gs2, gs3⟩ := grows_set hgr5.out (by decide) (q.len + x.len) hc5 (w2.heap.size + 1 + 1 + 1)
        refine hK.out _ _ ?_ (fun hS => ?_)
        · exact ⟨fun b o hb hne => World.cell?_of_block (a := ⟨b, o, none⟩) (Below.heap_setCell W5 ⟨g, u.length * 2 + 1, none⟩ (.int .i64 (q.len + x.len)) b hne), trivial⟩
        clear hK K
        try simp only [Act.put, List.getElem_toArray, List.getElem_cons_zero, List.getElem_cons_succ, List.setIfInBounds_toArray, List.set_cons_zero, List.set_cons_succ]
        refine wpAnyH_done (by kernel_rfl) ?_ _
        generalize W5.setCell ⟨g, u.length * 2 + 1, none⟩ (.int .i64 (q.len + x.len)) = W6 at *
        gi_wp2
        refine ⟨((hkf5 _).trans gs3).trans (keepsFrom_grown (grown_drew W6)), (hkw5.trans gs2).trans (keepsW_grown (grown_drew W6) (Nat.le_trans hBs5 gs2.low.size) (heap_lt gs1.2.1) (heap_lt gs1.2.2)), ?_⟩
        show Grows w w.heap.size w1.heap.size 25 (w2.heap.size + 1) (w2.heap.size + 1 + 1) [.int .i64 0] [.int .i64 T] (fun y => y) (jn (pre ++ [x])) _
        rw [hjs.out, hstep.out]
        exact grows_own (f := fun y => y) (B := w.heap.size) (Nat.le_refl _) (Nat.le_refl _) _ W6 _ none gs1 (grown_drew W6) (fun r e => by cases e)
      · have hj' : (q.pos + q.len == x.pos) = false := by simpa using hj
        gi_wp2
        refine region_round (S := fun w' => (∀ b o, b < W.heap.size → w'.cell? ⟨b, o, none⟩ = W.cell? ⟨b, o, none⟩) ∧ W.grownBy w' none) (by kernel_rfl) (by kernel_rfl) (by rintro ⟨a0, w0, h⟩; have h' : Exit.outgrown = Exit.normal := h.1; cases h') ⟨fun _ _ _ => rfl, grown_drew W⟩ (fun hS => ?_)
        refine wpAnyH_take (i := 0) (v := ?_) rfl (by kernel_rfl) (by kernel_rfl) (by kernel_rfl) (fun _ _ _ h => h) (Or.inl ⟨by kernel_rfl, ?_⟩) hS ?_
        rotate_left
        · intro w' hS'
          have hq := hS'.1
          have hq2 := hS'.2
          clear hS'
          first | (go_simp; done) | (go_simp; with_reducible rfl)
        try simp only [Act.put, List.getElem_toArray, List.getElem_cons_zero, List.getElem_cons_succ, List.setIfInBounds_toArray, List.set_cons_zero, List.set_cons_succ]
        refine wpAnyH_take (i := 1) (v := ?_) rfl (by kernel_rfl) (by kernel_rfl) (by kernel_rfl) (fun _ _ _ h => h) (Or.inl ⟨by kernel_rfl, ?_⟩) hS ?_
        rotate_left
        · intro w' hS'
          have hq := hS'.1
          have hq2 := hS'.2
          clear hS'
          first | (go_simp; done) | (go_simp; with_reducible rfl)
        try simp only [Act.put, List.getElem_toArray, List.getElem_cons_zero, List.getElem_cons_succ, List.setIfInBounds_toArray, List.set_cons_zero, List.set_cons_succ]
        refine wpAnyH_take (i := 2) (v := ?_) rfl (by kernel_rfl) (by kernel_rfl) (by kernel_rfl) (fun _ _ _ h => h) (Or.inl ⟨by kernel_rfl, ?_⟩) hS ?_
        rotate_left
        · intro w' hS'
          have hq := hS'.1
          have hq2 := hS'.2
          clear hS'
          first | (go_simp; done) | (go_simp; with_reducible rfl)
        try simp only [Act.put, List.getElem_toArray, List.getElem_cons_zero, List.getElem_cons_succ, List.setIfInBounds_toArray, List.set_cons_zero, List.set_cons_succ]
        refine wpAnyH_take (i := 3) (v := ?_) rfl (by kernel_rfl) (by kernel_rfl) (by kernel_rfl) (fun _ _ _ h => h) (Or.inl ⟨by kernel_rfl, ?_⟩) hS ?_
        rotate_left
        · intro w' hS'
          have hq := hS'.1
          have hq2 := hS'.2
          clear hS'
          first | (go_simp; done) | (go_simp; with_reducible rfl)
        try simp only [Act.put, List.getElem_toArray, List.getElem_cons_zero, List.getElem_cons_succ, List.setIfInBounds_toArray, List.set_cons_zero, List.set_cons_succ]
        refine wpAnyH_take (i := 4) (v := ?_) rfl (by kernel_rfl) (by kernel_rfl) (by kernel_rfl) (fun _ _ _ h => h) (Or.inl ⟨by kernel_rfl, ?_⟩) hS ?_
        rotate_left
        · intro w' hS'
          have hq := hS'.1
          have hq2 := hS'.2
          clear hS'
          first | (go_simp; done) | (go_simp; with_reducible rfl)
        try simp only [Act.put, List.getElem_toArray, List.getElem_cons_zero, List.getElem_cons_succ, List.setIfInBounds_toArray, List.set_cons_zero, List.set_cons_succ]
        refine wpAnyH_take (i := 5) (v := ?_) rfl (by kernel_rfl) (by kernel_rfl) (by kernel_rfl) (fun _ _ _ h => h) (Or.inl ⟨by kernel_rfl, ?_⟩) hS ?_
        rotate_left
        · intro w' hS'
          have hq := hS'.1
          have hq2 := hS'.2
          clear hS'
          first | (go_simp; done) | (go_simp; with_reducible rfl)
        try simp only [Act.put, List.getElem_toArray, List.getElem_cons_zero, List.getElem_cons_succ, List.setIfInBounds_toArray, List.set_cons_zero, List.set_cons_succ]
        refine wpAnyH_take (i := 6) (v := ?_) rfl (by kernel_rfl) (by kernel_rfl) (by kernel_rfl) (fun _ _ _ h => h) (Or.inl ⟨by kernel_rfl, ?_⟩) hS ?_
        rotate_left
        · intro w' hS'
          have hq := hS'.1
          have hq2 := hS'.2
          clear hS'
          first | (go_simp; done) | (go_simp; with_reducible rfl)
        try simp only [Act.put, List.getElem_toArray, List.getElem_cons_zero, List.getElem_cons_succ, List.setIfInBounds_toArray, List.set_cons_zero, List.set_cons_succ]
        refine wpAnyH_take (i := 7) (v := ?_) rfl (by kernel_rfl) (by kernel_rfl) (by kernel_rfl) (fun _ _ _ h => h) (Or.inl ⟨by kernel_rfl, ?_⟩) hS ?_
        rotate_left
        · intro w' hS'
          have hq := hS'.1
          have hq2 := hS'.2
          clear hS'
          first | (go_simp; done) | (go_simp; with_reducible rfl)
        try simp only [Act.put, List.getElem_toArray, List.getElem_cons_zero, List.getElem_cons_succ, List.setIfInBounds_toArray, List.set_cons_zero, List.set_cons_succ]
        refine wpAnyH_take (i := 9) (v := ?_) rfl (by kernel_rfl) (by kernel_rfl) (by kernel_rfl) (fun _ _ _ h => h) (Or.inl ⟨by kernel_rfl, ?_⟩) hS ?_
        rotate_left
        · intro w' hS'
          have hq := hS'.1
          have hq2 := hS'.2
          clear hS'
          first | (go_simp; done) | (go_simp; with_reducible rfl)
        try simp only [Act.put, List.getElem_toArray, List.getElem_cons_zero, List.getElem_cons_succ, List.setIfInBounds_toArray, List.set_cons_zero, List.set_cons_succ]
        refine wpAnyH_take (i := 10) (v := ?_) rfl (by kernel_rfl) (by kernel_rfl) (by kernel_rfl) (fun _ _ _ h => h) (Or.inl ⟨by kernel_rfl, ?_⟩) hS ?_
        rotate_left
        · intro w' hS'
          have hq := hS'.1
          have hq2 := hS'.2
          clear hS'
          first | (go_simp; done) | (go_simp; with_reducible rfl)
        try simp only [Act.put, List.getElem_toArray, List.getElem_cons_zero, List.getElem_cons_succ, List.setIfInBounds_toArray, List.set_cons_zero, List.set_cons_succ]
        refine wpAnyH_ready (rs := [8]) (by kernel_rfl) (by simp) ?_
        refine AllReadyH.cons rfl (fun K hK => ?_) AllReadyH.nil
        go_simp
        go_at_call 26
        refine (end_exact q.pos q.len _ y1 y2 y3).mono ?_
        rintro e9 w9 ⟨rfl, rfl⟩
        try dsimp only
        refine hK.out _ _ ?_ (fun hS => ?_)
        · exact ⟨fun b o hb => (Below.cell (p := ⟨b, o, none⟩) ((Below.refl W.heap.size _).alloc hS.2.size _) hb).trans (hS.1 b o hb), grown_alloc hS.2 _⟩
        clear hK K
        try simp only [Act.put, List.getElem_toArray, List.getElem_cons_zero, List.getElem_cons_succ, List.setIfInBounds_toArray, List.set_cons_zero, List.set_cons_succ]
        refine wpAnyH_take (i := 11) (v := ?_) rfl (by kernel_rfl) (by kernel_rfl) (by kernel_rfl) (fun _ _ _ h => h) (Or.inl ⟨by kernel_rfl, ?_⟩) hS ?_
        rotate_left
        · intro w' hS'
          have hq := hS'.1
          have hq2 := hS'.2
          clear hS'
          first | (go_simp; done) | (go_simp; with_reducible rfl)
        try simp only [Act.put, List.getElem_toArray, List.getElem_cons_zero, List.getElem_cons_succ, List.setIfInBounds_toArray, List.set_cons_zero, List.set_cons_succ]
        refine wpAnyH_take (i := 12) (v := ?_) rfl (by kernel_rfl) (by kernel_rfl) (by kernel_rfl) (fun _ _ _ h => h) (Or.inl ⟨by kernel_rfl, ?_⟩) hS ?_
        rotate_left
        · intro w' hS'
          have hq := hS'.1
          have hq2 := hS'.2
          clear hS'
          first | (go_simp; done) | (go_simp; with_reducible rfl)
        try simp only [Act.put, List.getElem_toArray, List.getElem_cons_zero, List.getElem_cons_succ, List.setIfInBounds_toArray, List.set_cons_zero, List.set_cons_succ]
        refine wpAnyH_done (by kernel_rfl) ?_ _
        refine exit_at (fun W5 => W.grownBy W5 none) hS.2 (fun W5 h5 => ?_)
        clear hS
        have hstep := Lib.hid (show jstep (u ++ [q]) x = u ++ [q] ++ [x] by rw [jstep_snoc, if_neg hj])
        obtain ⟨⟨⟨v5, hv5, hrow5, _⟩, hB5⟩, hF5, hT5⟩ := grows_own (f := fun y => y) (B := w.heap.size) (Nat.le_refl _) (Nat.le_refl _) (u ++ [q]) W W5 none hgr0.out h5 (fun r e => by cases e)
        replace hrow5 : W5.ownsRow w.heap.size 44 2 v5 (u ++ [q]).length (pcC (u ++ [q])) := hrow5
        have hq0 : W5.cell? ⟨W₀.heap.size, 0, none⟩ = some (.int .i64 x.pos) := (grown_cell h5 hp2).trans hp0
        have hq1 : W5.cell? ⟨W₀.heap.size, 1, none⟩ = some (.int .i64 x.len) := (grown_cell h5 hp2).trans hp1
        have hq2 : W₀.heap.size < W5.heap.size := Nat.lt_of_lt_of_le hp2 h5.size
        have e5 := (grown_cell (a := ⟨w1.heap.size, 0, none⟩) h5 hvl).trans hc
        rw [hv5.cell] at e5
        replace e5 := Option.some.inj e5
        subst e5
        have hc5 := hv5.cell
        have hvl5 := hv5.lt
        have hf5 := hv5.frozen
        have hBs5 := hB5.size
        have hkw5 : KeepsW w.heap.size (w2.heap.size + 1) (w2.heap.size + 1 + 1) W W5 := keepsW_grown h5 hBs (by omega) (by omega)
        have hkf5 : ∀ B, KeepsFrom B W W5 := fun B => keepsFrom_grown h5
        have Hrow5 := Lib.hid hrow5
        clear hc hf hp0 hp1 hrow hv hB
        rw [show (u ++ [q]).length = u.length + 1 by simp] at Hrow5
        clear r0 r1 rf rcap hj
        gi_wp2_with (gi_at_builtin; refine wpListIn_append_own_at _ rfl _ _ 25 rfl w.heap.size 44 i44 _ 2 16 Try.underlying25 hi44 hz0 hz1 hz2 rfl (by decide) _ _ _ rfl (Hrow5.out.alloc _) ⟨W5.heap.size, 0, none⟩ 1 1 [.int .i64 x.pos, .int .i64 x.len] rfl rfl (cells_two_new _ _ _ _) (by simp [Value.oneCell']) (by unfold maxLen; omega) (by omega) (by simp; omega) ?_; intro v' w4 hown' hgrow _ hat; obtain ⟨g', cap', rfl⟩ := ownsRow_succ hown'; obtain ⟨hv1, hv2, hr2, hk2, hb2⟩ := hv5.appended (by decide) Hrow5.out hBs5 hs1 hown' hgrow; have hc1 := hv1.cell; have hf1 := hv1.frozen)
        have hkw := keepsW_append hv5 (by decide) Hrow5.out hBs5 hs1 hown' hgrow hF5 hT5 (by omega) (by omega)
        refine ⟨(hkf5 _).trans (hk2.from _), hkw5.trans hkw, ?_⟩
        show Grows w w.heap.size w1.heap.size 25 (w2.heap.size + 1) (w2.heap.size + 1 + 1) [.int .i64 0] [.int .i64 T] (fun y => y) (jn (pre ++ [x])) _
        rw [hjs.out, hstep.out]
        refine ⟨⟨⟨_, hv2, ?_, trivial⟩, hB5.trans hb2⟩, hkw.f.trans hF5, hkw.t.trans hT5⟩
        show World.ownsRow _ _ _ _ _ ((u ++ [q]) ++ [x]).length (pcC ((u ++ [q]) ++ [x]))
        rw [pcC_snoc, List.length_append]
        simpa using hr2
  case done =>
    rintro D W hD ⟨⟨⟨v, hv, hrow, _⟩, hB⟩, hF, hT⟩ hK
    have hc := hv.cell
    replace hrow : W.ownsRow w.heap.size 44 2 v (jn L).length (pcC (jn L)) := hrow
    have hfin : ∀ (A' : Option Addr) (cap : Nat), v = .slice A' (jn L).length cap → Sl pcT (W.putObj D (.deferred none)) (low (W.putObj D (.deferred none)).heap.size) A' (jn L).length (jn L) := fun A' cap e => by
      subst e
      exact (own_of_pcs (ownsRow_putObj hrow _ hK rfl)).sl
    have hkk := hB.trans (belowK_b (w := w) (Nat.le_refl _) W D _ (.deferred none) (by omega) hK rfl rfl)
    rcases hrow.2 with ⟨rfl, h0⟩ | ⟨g, cap, cur, rfl, h1, h2, h3, h4, h5, h6⟩
    · gi_wp2
      refine ⟨by simp, .inl ⟨_, _, rfl, run_takeDeferred hK, ?_⟩⟩
      refine ⟨.tuple #[.slice none 0 0, .int .i64 0], by simp [results, Try.results22, go_sem], none, ?_, ?_, hkk⟩
      · rw [hT0.out, hL.out, h0]
      · rw [hT0.out, hL.out]; exact hfin none 0 (by rw [h0])
    · gi_wp2
      refine ⟨by simp, .inl ⟨_, _, rfl, run_takeDeferred hK, ?_⟩⟩
      refine ⟨.tuple #[.slice (some ⟨g, 0, none⟩) (jn L).length (jn L).length, .int .i64 0], by simp [results, Try.results22, go_sem], some ⟨g, 0, none⟩, ?_, ?_, hkk⟩
      · rw [hT0.out, hL.out]
      · rw [hT0.out, hL.out]; exact hfin _ cap rfl
theorem join_bad (A : Option Addr) (n c : Nat) (l : List Pc) (w : World) (hl : Sl pcT w (low w.heap.size) A n l) (h64 : ∀ p ∈ l, i64 p.pos ∧ i64 p.len) (hn : n ≤ 1000) (h0 : chk l 9223372036854775807 ≠ 0) :
    Calls Try.prog 22 #[.slice A n c] w fun e w' => e = .returned (.tuple #[.slice none 0 0, .int .i64 (chk l 9223372036854775807)]) ∧ Kept w w' := by
  have hC := check_any A n c l 9223372036854775807 w hl h64 max64 hn
  obtain ⟨e0, he⟩ : ∃ e, chk l 9223372036854775807 = e := ⟨_, rfl⟩
  rw [he] at hC h0 ⊢
  have h0' : (e0 != 0) = true := by simpa using h0
  clear he
  refine callsIn_wide (n := 4).1 (callsIn_of_wp_marks Try.func22 rfl trivial ?_ rfl)
  (simp only [Try.ntmps22, List.size_toArray, List.length_cons, List.length_nil, Nat.reduceAdd, Nat.reduceSub, Array.replicate_succ, Array.replicate_zero, List.push_toArray, List.append_toArray, List.nil_append, List.cons_append])
  gi_wp2_with (refine ⟨trivial, ?_⟩; gi_at_call 15; refine (callsIn_wide.2 hC).mono ?_; rintro e w1 ⟨rfl, hk1⟩)
  exact ⟨.tuple #[.slice none 0 0, .int .i64 e0], by simp [results, Try.results22, go_sem], rfl, hk1⟩
end Go.Proofs.Ytdkinfglpnajmaa
