/- Of, its parts. -/
import Derived.Test.YtjgncofhobhjdaaDoorChecked
import Derived.Deep.RegionHeld3
import Derived.Deep.DrawnRows
import Derived.Deep.DeepCutAuto
import Derived.Deep.LoopGhost
import Derived.Outline
import Derived.Handy
import Derived.OwnWalk
import Derived.BigQuiet
import Derived.Test.YtjgncofhobhjdaaDoorN12
import Derived.Deep.RegionLaw
import Derived.Deep.CutBlock
import Derived.Laws.MakeOwn
set_option linter.unusedVariables false
set_option linter.unusedSimpArgs false
set_option linter.unusedSectionVars false
/- A configuration in memory whose rows are all the call's own and lie apart: what may be written in place. No condition. -/
namespace Go.Proofs.YtjgncofhobhjdaaDoor
open Go.RowKit

/-- a setting, and the values that lead to its two rows -/
structure LA where
  a : Alt
  X : Value
  E : Value
/-- an interface: its settings, and the value that leads to their row -/
structure LF where
  alts : List LA
  v : Value
def LA.cells (p : LA) : List Value := p.a.d.cells ++ [p.X, p.E]
def laT : Ty LA := Ty.flat 9 LA.cells (fun p => p.a.d.ok) (fun _ => rfl)
def lfT : Ty LF := Ty.flat 1 (fun y => [y.v]) (fun _ => True) (fun _ => rfl)
theorem flat_la : Flat laT := fun h => h
theorem flat_lf : Flat lfT := fun h => h
def LA.rows (base : Nat) (w : World) (p : LA) : Prop := Own u8T 5 base w p.X p.a.extra.length p.a.extra ∧ Own epT 59 base w p.E p.a.eps.length p.a.eps
def LA.apart (p q : LA) : Prop := ∀ g, (p.X.ownBlock = some g → q.X.ownBlock ≠ some g) ∧ (p.E.ownBlock = some g → q.E.ownBlock ≠ some g)
def LF.rows (base : Nat) (w : World) (y : LF) : Prop := Own laT 56 base w y.v y.alts.length y.alts ∧ ∀ p ∈ y.alts, p.rows base w
def LF.apart (y z : LF) : Prop := ∀ g, y.v.ownBlock = some g → z.v.ownBlock ≠ some g
section
variable {base b1 b2 : Nat} {w w' w1 w2 : World} {p q : LA} {y z : LF}
theorem LA.rows.kept (h : p.rows base w) (hk : Kept w w') : p.rows base w' := ⟨h.1.kept hk, h.2.kept hk⟩
theorem LA.rows.lower (h : p.rows base w) (hb : b1 ≤ base) : p.rows b1 w := ⟨h.1.lower hb, h.2.lower hb⟩
theorem LF.rows.kept (h : y.rows base w) (hk : Kept w w') : y.rows base w' := ⟨h.1.kept hk, fun p hp => (h.2 p hp).kept hk⟩
theorem LF.rows.lower (h : y.rows base w) (hb : b1 ≤ base) : y.rows b1 w := ⟨h.1.lower hb, fun p hp => (h.2 p hp).lower hb⟩
theorem LA.rows.from_ (h : p.rows base w) (hf : From base w w') : p.rows base w' := ⟨h.1.fromF flat_u8 hf, h.2.fromF flat_ep hf⟩
theorem LF.rows.from_ (h : y.rows base w) (hf : From base w w') : y.rows base w' := ⟨h.1.fromF flat_la hf, fun p hp => (h.2 p hp).from_ hf⟩
theorem LA.apart_of (hq : q.rows b1 w1) (hp : p.rows b2 w2) (hb : w1.heap.size ≤ b2) : q.apart p := fun g =>
  ⟨fun e e' => absurd (hq.1.lt e).2 (by have := (hp.1.lt e').1; omega), fun e e' => absurd (hq.2.lt e).2 (by have := (hp.2.lt e').1; omega)⟩
theorem LF.apart_of (hq : z.rows b1 w1) (hp : y.rows b2 w2) (hb : w1.heap.size ≤ b2) : z.apart y := fun g e e' => absurd (hq.1.lt e).2 (by have := (hp.1.lt e').1; omega)
/-- another row of its kind has grown: of settings -/
theorem LA.rows.grownA (h : p.rows base w) {v : Value} {n : Nat} {xs : List LA} (ho : Own laT 56 b1 w v n xs) (hg : w.grownBy w' v.ownBlock) : p.rows base w' :=
  ⟨h.1.grownF flat_u8 hg (rows_apart h.1 ho (by decide)), h.2.grownF flat_ep hg (rows_apart h.2 ho (by decide))⟩
theorem LA.rows.grownI (h : p.rows base w) {v : Value} {n : Nat} {xs : List LF} (ho : Own lfT 50 b1 w v n xs) (hg : w.grownBy w' v.ownBlock) : p.rows base w' :=
  ⟨h.1.grownF flat_u8 hg (rows_apart h.1 ho (by decide)), h.2.grownF flat_ep hg (rows_apart h.2 ho (by decide))⟩
theorem LF.rows.grownI (h : y.rows base w) {v : Value} {n : Nat} {xs : List LF} (ho : Own lfT 50 b1 w v n xs) (hg : w.grownBy w' v.ownBlock) : y.rows base w' :=
  ⟨h.1.grownF flat_la hg (rows_apart h.1 ho (by decide)), fun p hp => (h.2 p hp).grownI ho hg⟩
end
/-- all the rows of a configuration -/
structure LIs (base : Nat) (w : World) (v : Value) (L : List LF) : Prop where
  own : Own lfT 50 base w v L.length L
  rows : ∀ y ∈ L, y.rows base w
  apI : L.Pairwise LF.apart
  apA : (L.flatMap LF.alts).Pairwise LA.apart
def plainL (L : List LF) : List (List Alt) := L.map fun y => y.alts.map LA.a
theorem la_alt {base : Nat} {w : World} {p : LA} (h : p.rows base w) (hd : p.a.d.ok) : altT.rel w (fun b => base ≤ b ∧ b < w.heap.size) p.a p.cells := by
  obtain ⟨X, cx, hX, x1, x2⟩ := h.1.isSlice
  obtain ⟨E, ce, hE, e1, e2⟩ := h.2.isSlice
  have h1 := h.1
  have h2 := h.2
  rw [hX] at h1
  rw [hE] at h2
  exact ⟨X, cx, E, ce, by unfold LA.cells Alt.cells; rw [hX, hE], hd, x1, x2, e1, e2, own_flat_new flat_u8 h1, own_flat_new flat_ep h2⟩
theorem lf_if {base : Nat} {w : World} {y : LF} (h : y.rows base w) : ifT.rel w (fun b => base ≤ b ∧ b < w.heap.size) (y.alts.map LA.a) [y.v] := by
  obtain ⟨A, c, hA, a1, a2⟩ := h.1.isSlice
  have h1 := h.1
  rw [hA] at h1
  have h2 := own_flat_new flat_la h1
  refine ⟨A, c, by rw [hA, List.length_map], by rw [List.length_map]; exact a1, a2, by rw [List.length_map, h2.1], fun j x hx => ?_⟩
  rw [List.getElem?_map] at hx
  obtain ⟨p, hp, rfl⟩ := Option.map_eq_some_iff.1 hx
  obtain ⟨b, off, cs, e, hb, ⟨rfl, hd⟩, hc⟩ := h2.2 j p hp
  exact ⟨b, off, p.cells, e, hb, la_alt (h.2 p (List.mem_of_getElem? hp)) hd, hc⟩
/-- read as data -/
theorem LIs.sl {base : Nat} {w : World} {A : Option Addr} {n cap : Nat} {L : List LF} (h : LIs base w (.slice A n cap) L) (hn : L.length = n) : Sl ifT w (fun b => base ≤ b ∧ b < w.heap.size) A n (plainL L) := by
  have h1 := h.own
  rw [hn] at h1
  have h2 := own_flat_new flat_lf h1
  refine ⟨by unfold plainL; rw [List.length_map, h2.1], fun j x hx => ?_⟩
  unfold plainL at hx
  rw [List.getElem?_map] at hx
  obtain ⟨y, hy, rfl⟩ := Option.map_eq_some_iff.1 hx
  obtain ⟨b, off, cs, e, hb, ⟨rfl, _⟩, hc⟩ := h2.2 j y hy
  exact ⟨b, off, [y.v], e, hb, lf_if (h.rows y (List.mem_of_getElem? hy)), hc⟩
theorem LIs.kept {base : Nat} {w w' : World} {v : Value} {L : List LF} (h : LIs base w v L) (hk : Kept w w') : LIs base w' v L := ⟨h.own.kept hk, fun y hy => (h.rows y hy).kept hk, h.apI, h.apA⟩
theorem LIs.from_ {base : Nat} {w w' : World} {v : Value} {L : List LF} (h : LIs base w v L) (hf : From base w w') : LIs base w' v L := ⟨h.own.fromF flat_lf hf, fun y hy => (h.rows y hy).from_ hf, h.apI, h.apA⟩
/-- what holds between the steps of the inner loop -/
structure GI (w W0 : World) (OB TB YB : Nat) (oc tc : Array Value) (v : Value) (n : Nat) (xs : List LA) (X : World) : Prop where
  out : X.heap[OB]? = some (.cells oc 32 (0, 0))
  res : X.heap[TB]? = some (.cells tc 32 (0, 0))
  y : X.heap[YB]? = some (.cells #[v] 50 (0, 0))
  own : Own laT 56 (YB + 1) X v n xs
  rows : ∀ p ∈ xs, p.rows (YB + 1) X
  ap : xs.Pairwise LA.apart
  kept : Kept w X
  fr : From (OB + 1) W0 X
  low : OB < W0.heap.size ∧ TB < W0.heap.size ∧ W0.heap.size ≤ YB ∧ w.heap.size ≤ OB ∧ w.heap.size ≤ TB ∧ TB ≠ OB
section
variable {w W0 X Y : World} {OB TB YB n n' : Nat} {oc tc : Array Value} {v v' : Value} {xs : List LA} {p : LA}
theorem GI.keep (h : GI w W0 OB TB YB oc tc v n xs X) (hk : Kept X Y) : GI w W0 OB TB YB oc tc v n xs Y :=
  ⟨heap_kept hk h.out, heap_kept hk h.res, heap_kept hk h.y, h.own.kept hk, fun p hp => (h.rows p hp).kept hk, h.ap, h.kept.trans' hk, h.fr.kept' _ hk, h.low⟩
theorem GI.size (h : GI w W0 OB TB YB oc tc v n xs X) : YB < X.heap.size := heap_lt h.y
/-- the row has grown by a setting, and its header is stored -/
theorem GI.grow (h : GI w W0 OB TB YB oc tc v n xs X) (hg : X.grownBy Y v.ownBlock) (ho : Own laT 56 (YB + 1) Y v' n' (xs ++ [p])) (hp : p.rows (YB + 1) X) (hap : ∀ q ∈ xs, q.apart p) :
    GI w W0 OB TB YB oc tc v' n' (xs ++ [p]) (Y.setCell ⟨YB, 0, none⟩ v') := by
  obtain ⟨l1, l2, l3, l4, l5, l6⟩ := h.low
  have hy := heap_grown hg h.y (fun e => h.own.not_at (Nat.lt_succ_self YB) e.symm)
  have hb : Below w.heap.size w Y := h.kept.trans (((Below.refl _ _).grown hg h.kept.size (fun k hk => by have := (h.own.lt hk).1; omega)))
  have hfs : From (YB + 1) Y (Y.setCell ⟨YB, 0, none⟩ v') := From.set _ (Nat.lt_succ_self YB)
  refine ⟨(Below.heap_setCell _ _ _ _ (by show OB ≠ YB; omega)).trans (heap_grown hg h.out (fun e => h.own.not_at (by omega) e.symm)), (Below.heap_setCell _ _ _ _ (by show TB ≠ YB; omega)).trans (heap_grown hg h.res (fun e => h.own.not_at (by omega) e.symm)), heap_store hy _, ho.fromF flat_la hfs, ?_, ?_, hb.setCell (by show w.heap.size ≤ YB; omega) _, ?_, h.low⟩
  · intro q hq
    rcases List.mem_append.1 hq with hq | hq
    · exact ((h.rows q hq).grownA h.own hg).from_ hfs
    · obtain rfl : q = p := by simpa using hq
      exact (hp.grownA h.own hg).from_ hfs
  · rw [List.pairwise_append]
    exact ⟨h.ap, List.pairwise_singleton _ _, fun q hq r hr => by obtain rfl : r = p := by simpa using hr
                                                                  exact hap q hq⟩
  · exact From.set' _ _ (From.grown hg _ h.fr (fun b e => by have := (h.own.lt e).1; omega)) (.inr l3)
end
/-- what holds between the steps of the outer loop -/
structure GO (w : World) (OB TB : Nat) (oc tc : Array Value) (v : Value) (n : Nat) (xs : List LF) (X : World) : Prop where
  out : X.heap[OB]? = some (.cells oc 32 (0, 0))
  res : X.heap[TB]? = some (.cells tc 32 (0, 0))
  own : Own lfT 50 (OB + 1) X v n xs
  rows : ∀ y ∈ xs, y.rows (OB + 1) X
  apI : xs.Pairwise LF.apart
  apA : (xs.flatMap LF.alts).Pairwise LA.apart
  kept : Kept w X
  low : w.heap.size ≤ OB ∧ w.heap.size ≤ TB ∧ TB < OB
section
variable {w W0 X Y : World} {OB TB YB n n' m : Nat} {oc oc' tc : Array Value} {v v' u : Value} {xs : List LF} {y : LF} {l : List LA}
theorem GO.keep (h : GO w OB TB oc tc v n xs X) (hk : Kept X Y) : GO w OB TB oc tc v n xs Y :=
  ⟨heap_kept hk h.out, heap_kept hk h.res, h.own.kept hk, fun y hy => (h.rows y hy).kept hk, h.apI, h.apA, h.kept.trans' hk, h.low⟩
theorem GO.next (h : GO w OB TB oc tc v n xs W0) (hi : GI w W0 OB TB YB oc' tc u m l X) : GO w OB TB oc' tc v n xs X :=
  ⟨hi.out, hi.res, h.own.fromF flat_lf hi.fr, fun y hy => (h.rows y hy).from_ hi.fr, h.apI, h.apA, hi.kept, h.low⟩
/-- the row has grown by an interface, and its header is stored -/
theorem GO.grow (h : GO w OB TB oc tc v n xs X) (hg : X.grownBy Y v.ownBlock) (ho : Own lfT 50 (OB + 1) Y v' n' (xs ++ [y])) (hy : y.rows (OB + 1) X) (hyp : y.alts.Pairwise LA.apart)
    (hapI : ∀ z ∈ xs, z.apart y) (hapA : ∀ z ∈ xs, ∀ p ∈ z.alts, ∀ q ∈ y.alts, p.apart q) :
    GO w OB TB (oc.setIfInBounds 7 v') tc v' n' (xs ++ [y]) (Y.setCell ⟨OB, 7, none⟩ v') := by
  obtain ⟨l1, l2, l3⟩ := h.low
  have hb : Below w.heap.size w Y := h.kept.trans (((Below.refl _ _).grown hg h.kept.size (fun k hk => by have := (h.own.lt hk).1; omega)))
  have hfs : From (OB + 1) Y (Y.setCell ⟨OB, 7, none⟩ v') := From.set _ (Nat.lt_succ_self OB)
  refine ⟨heap_store (heap_grown hg h.out (fun e => h.own.not_at (Nat.lt_succ_self OB) e.symm)) _, (Below.heap_setCell _ _ _ _ (by show TB ≠ OB; omega)).trans (heap_grown hg h.res (fun e => h.own.not_at (by omega) e.symm)), ho.fromF flat_lf hfs, ?_, ?_, ?_, hb.setCell (by show w.heap.size ≤ OB; omega) _, h.low⟩
  · intro z hz
    rcases List.mem_append.1 hz with hz | hz
    · exact ((h.rows z hz).grownI h.own hg).from_ hfs
    · obtain rfl : z = y := by simpa using hz
      exact (hy.grownI h.own hg).from_ hfs
  · rw [List.pairwise_append]
    exact ⟨h.apI, List.pairwise_singleton _ _, fun q hq r hr => by obtain rfl : r = y := by simpa using hr
                                                                   exact hapI q hq⟩
  · rw [List.flatMap_append, List.pairwise_append]
    refine ⟨h.apA, by simpa using hyp, fun p hp q hq => ?_⟩
    obtain ⟨z, hz, hpz⟩ := List.mem_flatMap.1 hp
    exact hapA z hz p hpz q (by simpa using hq)
end
end Go.Proofs.YtjgncofhobhjdaaDoor
/- Of: the vendors' descriptors of a setting. Printed by gen_yj.py. -/
namespace Go.Proofs.YtjgncofhobhjdaaDoor
open Go.RowKit
attribute [local go_sem ↓] Go.wp_at_zero Go.wp_at_succ

theorem made_at {Z : Array Value} {N j : Nat} (hj : j < N) {v : Value} (hv : Z[j % Z.size]! = v) : (madeCells Z N)[j]? = some v := by
  unfold madeCells
  rw [Array.getElem?_map, Array.getElem?_range, if_pos hj, ← hv]; rfl
theorem mkB (w : World) (n : Nat) (hn : n ≤ 100000) : (Instr.makeSlice 34 (.int .i64 (n : Int)) (.int .i64 (n : Int))).run Tryd.prog w = .ok (.slice (some ⟨w.heap.size, 0, none⟩) n n) (w.alloc (.cells (madeCells #[.int .u8 0] n) 5)) := by
  obtain ⟨i5, hi5, hz50, hz51, hz52⟩ := info_parts info5
  have h := run_makeSlice w 34 5 i5 (.int .u8 0) Tryd.underlying34 hi5 hz50 .i64 .i64 (n : Int) (n : Int) (by omega) (Int.le_refl _) (by rw [hz51]; omega) (by rw [hz52]; omega) (by omega)
  rw [hz51, Int.toNat_natCast, Nat.mul_one] at h
  exact h
theorem made_two (n : Nat) (a b : Int) (hn : 2 ≤ n) : ((madeCells #[.int .u8 0] n).setIfInBounds 0 (.int .u8 a)).setIfInBounds 1 (.int .u8 b) = ((a :: b :: List.replicate (n - 2) 0).map (Value.int .u8)).toArray := by
  apply Array.ext_getElem?
  intro j
  have hs : (madeCells #[.int .u8 0] n).size = n := by simp [madeCells]
  conv => rhs; rw [List.getElem?_toArray, List.getElem?_map]
  rw [Array.getElem?_setIfInBounds, Array.getElem?_setIfInBounds, Array.size_setIfInBounds, hs]
  rcases j with _ | _ | j
  · simp; omega
  · simp; omega
  · rw [if_neg (by omega), if_neg (by omega)]
    by_cases hj : j + 2 < n
    · rw [made_at (v := .int .u8 0) hj (by simp [Nat.mod_one])]
      simp [List.getElem?_replicate]; omega
    · rw [Array.getElem?_eq_none (by rw [hs]; omega)]
      simp [List.getElem?_replicate]; omega
noncomputable def code19 : Code := (Tryd.f14.body.bind (findR 19)).getD .skip
set_option maxRecDepth 1000000 in
set_option maxHeartbeats 16000000 in
theorem xs_loop {u0 u1 u2 u3 u4 u5 u6 u8 u11 u12 u13 u14 u15 u16 u17 u18 u19 u20 u21 u22 u23 u24 u25 u26 u27 u28 u29 u30 u31 u32 u33 u34 u35 u36 u37 u38 u39 u40 u41 u42 u43 u44 u45 u46 u47 u48 u49 u50 u51 u52 u53 u54 u55 u56 u57 u58 u59 u60 u61 u62 u63 u64 u65 u66 u67 u68 u69 u70 u71 u72 u73 u74 u75 u76 u77 u78 u79 u80 u81 u82 u83 u84 u85 u86 u87 u88 u89 u90 u91 u92 u93 u94 u95 u96 u97 u98 u99 u100 u101 u102 u103 u104 u105 u106 u107 u108 u109 u110 u111 u112 u113 u114 u115 u116 u117 u118 u119 u120 u121 u122 u123 u124 u125 u126 u127 u128 u129 u130 u131 u132 u133 u134 u135 u136 u137 u138 u139 u140 u141 u142 u143 u144 u145 u146 u147 u148 u149 u150 u151 u152 u153 u154 u155 u156 u157 u158 u159 u160 u161 u162 u163 u164 u165 u166 u167 u168 u169 u170 u171 u172 u173 u174 u175 u176 u177 u178 u179 u180 u181 u182 u183 u184 u185 u186 u187 u188 u189 u190 : Value} {AB m cm b2 off2 j nx cx : Nat} {q0 q1 q2 q3 q4 q5 q6 : Value} {q8 v : Value} {xs : List Int} {X : Option Addr} {es : List EpD} {wj wr : World} (hai : AI wj AB #[q0, q1, q2, q3, q4, q5, q6, .slice none 0 0, q8] (.slice none 0 0) v [] es wr)
    (hb2 : b2 < wj.heap.size) (y2 : wj.cell? ⟨b2, off2 + j * 4 + 2, none⟩ = some (.slice X nx cx)) (hq5 : Sl u8T wj (low wj.heap.size) X nx xs) (hnx : nx ≤ 3) (hcx1 : nx ≤ cx) (hcx2 : cx ≤ maxLen)
    (hj0 : (0 : Int) ≤ (j : Int)) (hjm : (j : Int) < (m : Int))
    (Q : Exit → Act → World → Prop) (K K2 : Act → World → Prop) (hK : ∀ a w', Code.wp Tryd.prog (restC code19) (Exit.then K2 Q) a w' → K a w')
    (hK2 : ∀ (s11 s12 s90 s91 s92 s93 s94 s95 s96 s97 s98 s99 s100 s101 s102 s103 s104 s105 s106 s107 s108 s109 s110 s111 s112 s113 s114 s115 s116 s117 s118 s119 s120 s121 s122 s123 s124 s125 s126 : Value) (v' : Value) (w' : World), AI wj AB #[q0, q1, q2, q3, q4, q5, q6, v', q8] v' v (ofExtra xs) es w' → K2 ⟨#[u0, u1, u2, u3, u4, u5, u6, .slice (some ⟨b2, off2, none⟩) m cm, u8, .int .i64 j, .pointer (some ⟨AB, 0, none⟩), s11, s12, u13, u14, u15, u16, u17, u18, u19, u20, u21, u22, u23, u24, u25, u26, u27, u28, u29, u30, u31, u32, u33, u34, u35, u36, u37, u38, u39, u40, u41, u42, u43, u44, u45, u46, u47, u48, u49, u50, u51, u52, u53, u54, u55, u56, u57, u58, u59, u60, u61, u62, u63, u64, u65, u66, u67, u68, u69, u70, u71, u72, u73, u74, u75, u76, u77, u78, u79, u80, u81, u82, u83, u84, u85, u86, u87, u88, u89, s90, s91, s92, s93, s94, s95, s96, s97, s98, s99, s100, s101, s102, s103, s104, s105, s106, s107, s108, s109, s110, s111, s112, s113, s114, s115, s116, s117, s118, s119, s120, s121, s122, s123, s124, s125, s126, u127, u128, u129, u130, u131, u132, u133, u134, u135, u136, u137, u138, u139, u140, u141, u142, u143, u144, u145, u146, u147, u148, u149, u150, u151, u152, u153, u154, u155, u156, u157, u158, u159, u160, u161, u162, u163, u164, u165, u166, u167, u168, u169, u170, u171, u172, u173, u174, u175, u176, u177, u178, u179, u180, u181, u182, u183, u184, u185, u186, u187, u188, u189, u190], []⟩ w') :
    Code.wp Tryd.prog (headC code19) (Exit.then K (Exit.then K2 Q)) ⟨#[u0, u1, u2, u3, u4, u5, u6, .slice (some ⟨b2, off2, none⟩) m cm, u8, .int .i64 j, .pointer (some ⟨AB, 0, none⟩), u11, u12, u13, u14, u15, u16, u17, u18, u19, u20, u21, u22, u23, u24, u25, u26, u27, u28, u29, u30, u31, u32, u33, u34, u35, u36, u37, u38, u39, u40, u41, u42, u43, u44, u45, u46, u47, u48, u49, u50, u51, u52, u53, u54, u55, u56, u57, u58, u59, u60, u61, u62, u63, u64, u65, u66, u67, u68, u69, u70, u71, u72, u73, u74, u75, u76, u77, u78, u79, u80, u81, u82, u83, u84, u85, u86, u87, u88, u89, u90, u91, u92, u93, u94, u95, u96, u97, u98, u99, u100, u101, u102, u103, u104, u105, u106, u107, u108, u109, u110, u111, u112, u113, u114, u115, u116, u117, u118, u119, u120, u121, u122, u123, u124, u125, u126, u127, u128, u129, u130, u131, u132, u133, u134, u135, u136, u137, u138, u139, u140, u141, u142, u143, u144, u145, u146, u147, u148, u149, u150, u151, u152, u153, u154, u155, u156, u157, u158, u159, u160, u161, u162, u163, u164, u165, u166, u167, u168, u169, u170, u171, u172, u173, u174, u175, u176, u177, u178, u179, u180, u181, u182, u183, u184, u185, u186, u187, u188, u189, u190], []⟩ wr := by
  unfold maxLen at hcx2
  have hbl3 : b2 < AB := by rw [← hai.low]; exact hb2
  have hai0 := hai
  have hX : ∀ k z, xs[k]? = some z → (xs.mapIdx fun k z => ofX k z)[k]? = some (ofX k z) := fun k z h => by rw [List.getElem?_mapIdx, h]; rfl
  obtain ⟨XL, hXL⟩ : ∃ XL, (xs.mapIdx fun k z => ofX k z) = XL := ⟨_, rfl⟩
  have hXn : XL.length = nx := by rw [← hXL, List.length_mapIdx]; exact hq5.1
  rw [hXL] at hX
  have hof : ofExtra xs = XL.flatten := by unfold ofExtra; rw [hXL]
  rw [hof] at hK2
  have HAI := hide hai
  have Hq5 := hide hq5
  have HX := hide hX
  have HXn := hide hXn
  have HK := hide hK
  have HK2 := hide hK2
  clear hai hai0 hq5 hX hXn hXL hof hK2
  conv => arg 2; whnf
  conv at hK => enter [a, w', 1, 2]; whnf
  clear HK
  go_wp2_with fail

  go_loopg [11] nx (fun g s11 wx => ∃ (k : Nat) (u : Value), k + g = nx ∧ s11 = .int .i64 k ∧ AI wj AB #[q0, q1, q2, q3, q4, q5, q6, u, q8] u v (XL.take k).flatten es wx ∧ (XL.take k).flatten.length ≤ 40 * k)
  case atStart => exact ⟨0, .slice none 0 0, by omega, rfl, HAI.out, by simp⟩
  case round =>
    clear HAI
    obtain ⟨k, u, hk, rfl, hai, hlx⟩ := hrel
    have Hk := hide hk
    obtain ⟨Au, cu, rfl, hu1, hu2⟩ := hai.ou.isSlice
    have HAI := hide hai
    have hbw := Nat.lt_of_lt_of_le hb2 hai.kept.size
    have y2' := (hai.kept.cell (p := ⟨b2, off2 + j * 4 + 2, none⟩) hb2).trans y2
    clear hk hai
    by_cases hlk : k < nx
    case neg =>
      have hge : (nx : Int) ≤ (k : Int) := by omega
      have hkn : k = nx := by have := Hk.out; omega
      have htk : XL.take k = XL := List.take_of_length_le (by rw [HXn.out]; omega)
      have Hai := hide (htk ▸ HAI.out)
      clear hkn htk hlx HAI
      go_wp2_with fail
      exact HK2.out _ _ _ _ _ _ _ _ _ _ _ _ _ _ _ _ _ _ _ _ _ _ _ _ _ _ _ _ _ _ _ _ _ _ _ _ _ _ _ _ _  Hai.out
    case pos =>
    have hq5 : Sl u8T wr (low wr.heap.size) X nx xs := Hq5.out.keep (fun b hb => Nat.lt_of_lt_of_le hb HAI.out.kept.size) (fun b o hb => HAI.out.kept.cell (p := ⟨b, o, none⟩) hb)
    obtain ⟨bx, ox, rfl, hbx, hcx⟩ := sl_bytes hq5 (by omega)
    have x0 := hcx k hlk
    have hz8 := sl_byte8 hq5 k
    obtain ⟨zz, hzz⟩ : ∃ zz, byteAt xs k = zz := ⟨_, rfl⟩
    rw [hzz] at x0 hz8
    have hXk : XL[k]? = some (ofX k zz) := by
      refine HX.out k zz ?_
      rw [← hzz]
      unfold byteAt
      rw [List.getD_eq_getElem?_getD, List.getElem?_eq_getElem (by rw [hq5.1]; exact hlk)]
      rfl
    obtain ⟨z0, z1⟩ := hz8
    obtain ⟨n2, hn2⟩ : ∃ n2 : Nat, n2 = 2 + (zz % 30).toNat := ⟨_, rfl⟩
    have hn2b : 2 ≤ n2 ∧ n2 ≤ 31 := by omega
    obtain ⟨hn2l, hn2h⟩ := hn2b
    have hz1 : IntKind.i64.wrap zz = zz := by rw [IntKind.wrap_i64]; omega
    have hz2 : zz.tmod 30 = zz % 30 := Int.tmod_eq_emod_of_nonneg z0
    have hz3 : IntKind.i64.wrap (2 + zz % 30) = ((n2 : Nat) : Int) := by rw [IntKind.wrap_i64]; omega
    have hz4 : (n2 : Int) % 256 = (n2 : Int) := by omega
    have hz5 : IntKind.i64.wrap (32 + (k : Int)) = 32 + (k : Int) := by rw [IntKind.wrap_i64]; omega
    have hz6 : (32 + (k : Int)) % 256 = 32 + (k : Int) := by omega
    have hk0 : (0 : Int) ≤ (k : Int) := by omega
    have hlk' : (k : Int) < (nx : Int) := by omega
    have hwk : IntKind.i64.wrap ((k : Int) + 1) = ((k + 1 : Nat) : Int) := by rw [IntKind.wrap_i64]; omega
    have hmk := fun W' => mkB W' n2 (by omega)
    have hoX : ofX k zz = (n2 : Int) :: (32 + (k : Int)) :: List.replicate (n2 - 2) 0 := by
      unfold ofX
      rw [show (zz % 30).toNat = n2 - 2 by omega, show 2 + zz % 30 = (n2 : Int) by omega]
    have hu8 : ∀ z ∈ ofX k zz, u8k z := by
      rw [hoX]
      intro z hz
      simp only [List.mem_cons, List.mem_replicate] at hz
      unfold u8k
      rcases hz with rfl | rfl | ⟨_, rfl⟩ <;> omega
    have hXf : (XL.take (k + 1)).flatten = (XL.take k).flatten ++ ofX k zz := by
      obtain ⟨g1, g2⟩ := List.getElem?_eq_some_iff.1 hXk
      rw [List.take_succ_eq_append_getElem g1, g2, List.flatten_append]
      simp
    have hXl : (ofX k zz).length = n2 := by rw [hoX]; simp; omega
    have HoX := hide hoX
    have HXf := hide hXf
    have HXl := hide hXl
    have Hu8 := hide hu8
    clear hq5 hcx hXk hoX hXf hXl hn2 hzz hu8
    go_upto_region 23 with (fail)
    refine wp_at (fun V => V.heap[wr.heap.size]? = some (.cells (madeCells #[.int .u8 0] n2) 5 (0, 0)) ∧ Kept wr V) ⟨heap_at _ rfl, by go_grown⟩ (fun V2 hV2 => ?_)
    obtain ⟨hG, hkG⟩ := hV2
    have hc0 := cell_heap hG (o := 0) (made_at (v := .int .u8 0) (by omega) (by simp))
    have hc1 := cell_heap hG (o := 1) (made_at (v := .int .u8 0) (by omega) (by simp))
    have hf0 := frozen_heap hG (o := 0)
    have hf1 := frozen_heap hG (o := 1)
    have lG := heap_lt hG
    have hn20 : (0 : Int) < (n2 : Int) := by omega
    have hn21 : (1 : Int) < (n2 : Int) := by omega
    have hn22 : 0 < n2 := by omega
    have HG := hide hG
    have HkG := hide hkG
    obtain ⟨G, hGd⟩ : ∃ G, wr.heap.size = G := ⟨_, rfl⟩
    have HGd := hide hGd
    simp only [hGd] at hc0 hc1 hf0 hf1 lG HG ⊢
    clear hG hkG hGd x0 hmk y2'
    go_upto_region 24 with (fail)
    clear hz1 hz2 hz3 hz4 hz5 hz6 z0 z1 hc0 hc1 hf0 hf1 lG hn20 hn21 hn22 hk0
    have hw : ∃ ex : List Int, (XL.take k).flatten = ex ∧ ex.length ≤ 40 * k := ⟨_, rfl, hlx⟩
    obtain ⟨ex, hex, hlx2⟩ := hw
    have Hex := hide hex
    have hai := HAI.out
    rw [hex] at hai hlx hu1
    have hok := hai.ou
    clear hex
    obtain ⟨lex, hlex⟩ : ∃ lex, ex.length = lex := ⟨_, rfl⟩
    have Hlex := hide hlex
    rw [hlex] at hok hlx hu1 hlx2
    refine wp_at (fun Y => Y.heap[G]? = some (.cells ((ofX k zz).map (Value.int .u8)).toArray 5 (0, 0)) ∧ AI wj AB #[q0, q1, q2, q3, q4, q5, q6, .slice Au lex cu, q8] (.slice Au lex cu) v ex es Y) ?_ (fun V3 hV3 => ?_)
    · have hgk : wr.heap.size ≤ G := by rw [HGd.out]; exact Nat.le_refl _
      refine ⟨?_, ?_⟩
      · rw [HoX.out, ← made_two n2 _ _ hn2l]
        exact heap_store (heap_store HG.out _) _
      · rw [hlex] at hai
        exact hai.keep ((HkG.out.setCell hgk _).setCell hgk _)
    clear HG HkG HAI hai
    obtain ⟨hG3, hai3⟩ := hV3
    have hGne : ∀ g, (Value.slice Au lex cu).ownBlock = some g → g ≠ G := fun g e => by have h1 := (hok.lt e).2; have h2 := HGd.out; omega
    have hlx3 : lex + n2 ≤ 1000000 := by have := Hk.out; omega
    refine xs24 (w0 := wr) hai3 Hlex.out hG3 HXl.out Hu8.out hGne hlx3 _ ?_
    rintro s122 s123 s124 s125 s126 v7 w7 hfin
    have Hfin := hide hfin
    have Hrl : Hid (lex + n2 ≤ 40 * (k + 1)) := hide (by omega)
    clear hfin hG3 hai3 hGne hok hlx hlx2 hlx3 hlex hu1 hu2
    go_wp2_with fail
    go_roundg (gk - 1)
    case measure => have := Hk.out; omega
    case rel =>
      have h1 : k + 1 + (gk - 1) = nx := by have := Hk.out; omega
      have h2 : (XL.take (k + 1)).flatten.length ≤ 40 * (k + 1) := by
        rw [HXf.out, Hex.out, List.length_append, Hlex.out, HXl.out]
        have := Hrl.out
        omega
      exact ⟨k + 1, v7, h1, by first | rfl | go_num, by rw [HXf.out, Hex.out]; exact Hfin.out, h2⟩
end Go.Proofs.YtjgncofhobhjdaaDoor
/- Of: the endpoints of a setting. Printed by gen_yj.py. -/
namespace Go.Proofs.YtjgncofhobhjdaaDoor
open Go.RowKit
attribute [local go_sem ↓] Go.wp_at_zero Go.wp_at_succ

noncomputable def code25 : Code := (Tryd.f14.body.bind (findR 25)).getD .skip
set_option maxRecDepth 1000000 in
set_option maxHeartbeats 16000000 in
theorem ep_loop {u0 u1 u2 u3 u4 u5 u8 u11 u12 u13 u14 u15 u16 u17 u18 u19 u20 u21 u22 u23 u24 u25 u26 u27 u28 u29 u30 u31 u32 u33 u34 u35 u36 u37 u38 u39 u40 u41 u42 u43 u44 u45 u46 u47 u48 u49 u50 u51 u52 u53 u54 u55 u56 u57 u58 u59 u60 u61 u62 u63 u64 u65 u66 u67 u68 u69 u70 u71 u72 u73 u74 u75 u76 u77 u78 u79 u80 u81 u82 u83 u84 u85 u86 u87 u88 u89 u90 u91 u92 u93 u94 u95 u96 u97 u98 u99 u100 u101 u102 u103 u104 u105 u106 u107 u108 u109 u110 u111 u112 u113 u114 u115 u116 u117 u118 u119 u120 u121 u122 u123 u124 u125 u126 u127 u128 u129 u130 u131 u132 u133 u134 u135 u136 u137 u138 u139 u140 u141 u142 u143 u144 u145 u146 u147 u148 u149 u150 u151 u152 u153 u154 u155 u156 u157 u158 u159 u160 u161 u162 u163 u164 u165 u166 u167 u168 u169 u170 u171 u172 u173 u174 u175 u176 u177 u178 u179 u180 u181 u182 u183 u184 u185 u186 u187 u188 u189 u190 : Value} {i AB m cm b2 off2 j ne ce : Nat} {q0 q1 q2 q3 q4 q5 q6 : Value} {q7 u : Value} {xs : List PE} {E : Option Addr} {ex : List Int} {wj wr : World} (hai : AI wj AB #[q0, q1, q2, q3, q4, q5, q6, q7, .slice none 0 0] u (.slice none 0 0) ex [] wr)
    (hb2 : b2 < wj.heap.size) (y3 : wj.cell? ⟨b2, off2 + j * 4 + 3, none⟩ = some (.slice E ne ce)) (hq6 : Sl peT wj (low wj.heap.size) E ne xs) (hne : ne ≤ 4) (hi6 : i ≤ 6)
    (hj0 : (0 : Int) ≤ (j : Int)) (hjm : (j : Int) < (m : Int))
    (Q : Exit → Act → World → Prop) (K K2 : Act → World → Prop) (hK : ∀ a w', Code.wp Tryd.prog (restC code25) (Exit.then K2 Q) a w' → K a w')
    (hK2 : ∀ (s13 s127 s128 s129 s130 s131 s132 s133 s134 s135 s136 s137 s138 s139 s140 s141 s142 s143 s144 s145 s146 s147 s148 s149 s150 s151 s152 : Value) (v' : Value) (w' : World), AI wj AB #[q0, q1, q2, q3, q4, q5, q6, q7, v'] u v' ex (xs.mapIdx fun k e => ofEp i k e) w' → K2 ⟨#[u0, u1, u2, u3, u4, u5, .int .i64 i, .slice (some ⟨b2, off2, none⟩) m cm, u8, .int .i64 j, .pointer (some ⟨AB, 0, none⟩), u11, u12, s13, u14, u15, u16, u17, u18, u19, u20, u21, u22, u23, u24, u25, u26, u27, u28, u29, u30, u31, u32, u33, u34, u35, u36, u37, u38, u39, u40, u41, u42, u43, u44, u45, u46, u47, u48, u49, u50, u51, u52, u53, u54, u55, u56, u57, u58, u59, u60, u61, u62, u63, u64, u65, u66, u67, u68, u69, u70, u71, u72, u73, u74, u75, u76, u77, u78, u79, u80, u81, u82, u83, u84, u85, u86, u87, u88, u89, u90, u91, u92, u93, u94, u95, u96, u97, u98, u99, u100, u101, u102, u103, u104, u105, u106, u107, u108, u109, u110, u111, u112, u113, u114, u115, u116, u117, u118, u119, u120, u121, u122, u123, u124, u125, u126, s127, s128, s129, s130, s131, s132, s133, s134, s135, s136, s137, s138, s139, s140, s141, s142, s143, s144, s145, s146, s147, s148, s149, s150, s151, s152, u153, u154, u155, u156, u157, u158, u159, u160, u161, u162, u163, u164, u165, u166, u167, u168, u169, u170, u171, u172, u173, u174, u175, u176, u177, u178, u179, u180, u181, u182, u183, u184, u185, u186, u187, u188, u189, u190], []⟩ w') :
    Code.wp Tryd.prog (headC code25) (Exit.then K (Exit.then K2 Q)) ⟨#[u0, u1, u2, u3, u4, u5, .int .i64 i, .slice (some ⟨b2, off2, none⟩) m cm, u8, .int .i64 j, .pointer (some ⟨AB, 0, none⟩), u11, u12, u13, u14, u15, u16, u17, u18, u19, u20, u21, u22, u23, u24, u25, u26, u27, u28, u29, u30, u31, u32, u33, u34, u35, u36, u37, u38, u39, u40, u41, u42, u43, u44, u45, u46, u47, u48, u49, u50, u51, u52, u53, u54, u55, u56, u57, u58, u59, u60, u61, u62, u63, u64, u65, u66, u67, u68, u69, u70, u71, u72, u73, u74, u75, u76, u77, u78, u79, u80, u81, u82, u83, u84, u85, u86, u87, u88, u89, u90, u91, u92, u93, u94, u95, u96, u97, u98, u99, u100, u101, u102, u103, u104, u105, u106, u107, u108, u109, u110, u111, u112, u113, u114, u115, u116, u117, u118, u119, u120, u121, u122, u123, u124, u125, u126, u127, u128, u129, u130, u131, u132, u133, u134, u135, u136, u137, u138, u139, u140, u141, u142, u143, u144, u145, u146, u147, u148, u149, u150, u151, u152, u153, u154, u155, u156, u157, u158, u159, u160, u161, u162, u163, u164, u165, u166, u167, u168, u169, u170, u171, u172, u173, u174, u175, u176, u177, u178, u179, u180, u181, u182, u183, u184, u185, u186, u187, u188, u189, u190], []⟩ wr := by
  obtain ⟨EL, hEL⟩ : ∃ EL, (xs.mapIdx fun k e => ofEp i k e) = EL := ⟨_, rfl⟩
  have hEn : EL.length = ne := by rw [← hEL, List.length_mapIdx]; exact hq6.1
  have hE : ∀ k e, xs[k]? = some e → EL[k]? = some (ofEp i k e) := fun k e h => by rw [← hEL, List.getElem?_mapIdx, h]; rfl
  rw [hEL] at hK2
  have HAI2 := hide hai
  have Hq6 := hide hq6
  have HE := hide hE
  have HEn := hide hEn
  have HK := hide hK
  have HK2 := hide hK2
  clear hai hq6 hE hEn hEL hK2
  conv => arg 2; whnf
  conv at hK => enter [a, w', 1, 2]; whnf
  clear HK
  go_wp2_with fail

  go_loopg [13] ne (fun g s13 wx => ∃ (p : Nat) (v2 : Value), p + g = ne ∧ s13 = .int .i64 p ∧ AI wj AB #[q0, q1, q2, q3, q4, q5, q6, q7, v2] u v2 ex (EL.take p) wx)
  case atStart => exact ⟨0, .slice none 0 0, by omega, rfl, HAI2.out⟩
  case round =>
    clear HAI2
    obtain ⟨p, v2, hp, rfl, hai⟩ := hrel
    have Hp := hide hp
    have hell : (EL.take p).length = p := by rw [List.length_take, HEn.out]; omega
    have hoe := hai.oe
    rw [hell] at hoe
    obtain ⟨Av, cv2, rfl, hv1, hv2⟩ := hoe.isSlice
    have HAI := hide hai
    have Hoe := hide hoe
    have Hell := hide hell
    have hbw := Nat.lt_of_lt_of_le hb2 hai.kept.size
    have y3' := (hai.kept.cell (p := ⟨b2, off2 + j * 4 + 3, none⟩) hb2).trans y3
    have lA := heap_lt hai.ab
    have a8 := cell_heap hai.ab (o := 8) rfl
    clear hp hai hoe hell
    by_cases hlp : p < ne
    case neg =>
      have hge : (ne : Int) ≤ (p : Int) := by omega
      have hpn : p = ne := by have := Hp.out; omega
      have htk : EL.take p = EL := List.take_of_length_le (by rw [HEn.out]; omega)
      have Hai := hide (htk ▸ HAI.out)
      clear hpn htk HAI a8
      go_wp2_with fail
      exact HK2.out _ _ _ _ _ _ _ _ _ _ _ _ _ _ _ _ _ _ _ _ _ _ _ _ _ _ _ _ _  Hai.out
    case pos =>
    obtain ⟨e, be, offe, cse, hee, rfl, hbe, hrel', hce⟩ := Hq6.out.at hlp
    obtain ⟨rfl, heok⟩ : cse = e.cells ∧ e.ok := hrel'
    have hELp : EL[p]? = some (ofEp i p e) := HE.out p e hee
    have hstp : EL.take (p + 1) = EL.take p ++ [ofEp i p e] := by
      obtain ⟨g1, g2⟩ := List.getElem?_eq_some_iff.1 hELp
      rw [List.take_succ_eq_append_getElem g1, g2]
    have heo := ofEp_u8 i p e heok
    have hcall := fun w' => endpoint_any i p e w' heok (by omega) (by omega)
    obtain ⟨ep, hep⟩ : ∃ ep, ofEp i p e = ep := ⟨_, rfl⟩
    rw [hep] at hstp heo
    simp only [hep] at hcall
    unfold EpD.cells at hcall
    have hbe' := Nat.lt_of_lt_of_le hbe HAI.out.kept.size
    have y := fun (o : Nat) v (hv : e.cells[o]? = some v) => (HAI.out.kept.cell (p := ⟨be, offe + p * 3 + o, none⟩) hbe).trans (hce o v hv)
    have z0 := y 0 _ rfl
    rw [Nat.add_zero] at z0
    have z1 := y 1 _ rfl
    have z2 := y 2 _ rfl
    have hp0 : (0 : Int) ≤ (p : Int) := by omega
    have hlp' : (p : Int) < (ne : Int) := by omega
    have hwp : IntKind.i64.wrap ((p : Int) + 1) = ((p + 1 : Nat) : Int) := by rw [IntKind.wrap_i64]; omega
    have Hstp := hide hstp
    have Heo := hide heo
    have hABr : AB + 1 ≤ wr.heap.size := lA
    have hp4 : p ≤ 4 := by omega
    clear y hce hee hELp hstp heo hep
    go_upto_region 28 with (fail)
    have hai := HAI.out
    have hxs := Hell.out
    refine eps28 (R := fun _ _ => True) (ep := ep) (e := e) (xs := EL.take p) hai hxs y3' hbw hbe' z0 z1 z2 hj0 hjm hp0 hlp' hp4 Heo.out hcall _ ?_
    rintro s137 s138 s139 s140 s141 s142 s143 s144 s145 s146 s147 s148 s149 s150 s151 s152 v7 w7 hai7
    rw [← Hstp.out] at hai7
    have Hai7 := hide hai7
    clear hai hxs hai7 hcall z0 z1 z2 hbe' a8 y3' hbw lA hABr
    go_wp2_with fail
    go_roundg (gk - 1)
    case measure => have := Hp.out; omega
    case rel => exact ⟨p + 1, _, by have := Hp.out; omega, by first | rfl | go_num, Hai7.out⟩
end Go.Proofs.YtjgncofhobhjdaaDoor
/- Of: a setting is made and put behind an interface's. Printed by gen_ym.py. -/
namespace Go.Proofs.YtjgncofhobhjdaaDoor
open Go.RowKit
attribute [local go_sem ↓] Go.wp_at_zero Go.wp_at_succ

theorem since_new {W : World} (o : Obj) : (∀ b i, b < W.heap.size → (W.drew.alloc o).cell? ⟨b, i, none⟩ = W.cell? ⟨b, i, none⟩) ∧ Below W.heap.size W (W.drew.alloc o) := ⟨fun b i h => World.cell?_alloc_lt _ _ _ h, ((Below.refl _ _).drew).alloc (Nat.le_refl _) o⟩
noncomputable def code18 : Code := (Tryd.f14.body.bind (findR 18)).getD .skip
set_option maxRecDepth 1000000 in
set_option maxHeartbeats 16000000 in
theorem alt_piece {u0 u1 u2 u3 u4 u10 u11 u12 u13 u14 u15 u16 u17 u18 u19 u20 u21 u22 u23 u24 u25 u26 u27 u28 u29 u30 u31 u32 u33 u34 u35 u36 u37 u38 u39 u40 u41 u42 u43 u44 u45 u46 u47 u48 u49 u50 u51 u52 u53 u54 u55 u56 u57 u58 u59 u60 u61 u62 u63 u64 u65 u66 u67 u68 u69 u70 u71 u72 u73 u74 u75 u76 u77 u78 u79 u80 u81 u82 u83 u84 u85 u86 u87 u88 u89 u90 u91 u92 u93 u94 u95 u96 u97 u98 u99 u100 u101 u102 u103 u104 u105 u106 u107 u108 u109 u110 u111 u112 u113 u114 u115 u116 u117 u118 u119 u120 u121 u122 u123 u124 u125 u126 u127 u128 u129 u130 u131 u132 u133 u134 u135 u136 u137 u138 u139 u140 u141 u142 u143 u144 u145 u146 u147 u148 u149 u150 u151 u152 u153 u154 u155 u156 u157 u158 u159 u160 u161 u162 u163 u164 u165 u166 u167 u168 u169 u170 u171 u172 u173 u174 u175 u176 u177 u178 u179 u180 u181 u182 u183 u184 u185 u186 u187 u188 u189 u190 : Value} {i j tt m cm b2 off2 YB OB TB cx ce : Nat} {a : PA} {X E : Option Addr} {v3 : Value} {oc tc : Array Value} {xs : List LA} {w W0 wr : World} (hgi : GI w W0 OB TB YB oc tc v3 j xs wr)
    (hb2 : b2 < wr.heap.size) (hcells : ∀ (o : Nat) v, (a.cells X cx E ce)[o]? = some v → wr.cell? ⟨b2, off2 + j * 4 + o, none⟩ = some v) (q1 : a.extra.length ≤ cx) (q2 : cx ≤ maxLen) (q5 : Sl u8T wr (low wr.heap.size) X a.extra.length a.extra) (q6 : Sl peT wr (low wr.heap.size) E a.eps.length a.eps)
    (ha1 : a.ok) (ha2 : a.eps.length ≤ 4) (ha3 : a.extra.length ≤ 3) (hi6 : i ≤ 6) (hj4 : j ≤ 4) (htt : tt ≤ 100000) (hjm : (j : Int) < (m : Int))
    (Q : Exit → Act → World → Prop) (K : Act → World → Prop) (hK : ∀ a w', Code.wp Tryd.prog (restC code18) Q a w' → K a w')
    (hQ : ∀ (s10 s11 s12 s13 s61 s62 s63 s64 s65 s66 s67 s68 s69 s70 s71 s72 s73 s74 s75 s76 s77 s78 s79 s80 s81 s82 s83 s84 s85 s86 s87 s88 s89 s90 s91 s92 s93 s94 s95 s96 s97 s98 s99 s100 s101 s102 s103 s104 s105 s106 s107 s108 s109 s110 s111 s112 s113 s114 s115 s116 s117 s118 s119 s120 s121 s122 s123 s124 s125 s126 s127 s128 s129 s130 s131 s132 s133 s134 s135 s136 s137 s138 s139 s140 s141 s142 s143 s144 s145 s146 s147 s148 s149 s150 s151 s152 s153 s154 s155 s156 s157 s158 s159 s160 s161 s162 s163 s164 s165 s166 s167 s168 s169 s170 s171 s172 s173 s174 s175 : Value) (p : LA) (v' : Value) (w' : World), p.a = ofAlt i j a → GI w W0 OB TB YB oc tc v' (j + 1) (xs ++ [p]) w' → Below YB wr w' → Q .normal ⟨#[u0, u1, u2, u3, u4, .int .i64 ((tt + altSize (ofAlt i j a) : Nat) : Int), .int .i64 i, .slice (some ⟨b2, off2, none⟩) m cm, .pointer (some ⟨YB, 0, none⟩), .int .i64 j, s10, s11, s12, s13, u14, u15, u16, u17, u18, u19, u20, u21, u22, u23, u24, u25, u26, u27, u28, u29, u30, u31, u32, u33, u34, u35, u36, u37, u38, u39, u40, u41, u42, u43, u44, u45, u46, u47, u48, u49, u50, u51, u52, u53, u54, u55, u56, u57, u58, u59, u60, s61, s62, s63, s64, s65, s66, s67, s68, s69, s70, s71, s72, s73, s74, s75, s76, s77, s78, s79, s80, s81, s82, s83, s84, s85, s86, s87, s88, s89, s90, s91, s92, s93, s94, s95, s96, s97, s98, s99, s100, s101, s102, s103, s104, s105, s106, s107, s108, s109, s110, s111, s112, s113, s114, s115, s116, s117, s118, s119, s120, s121, s122, s123, s124, s125, s126, s127, s128, s129, s130, s131, s132, s133, s134, s135, s136, s137, s138, s139, s140, s141, s142, s143, s144, s145, s146, s147, s148, s149, s150, s151, s152, s153, s154, s155, s156, s157, s158, s159, s160, s161, s162, s163, s164, s165, s166, s167, s168, s169, s170, s171, s172, s173, s174, s175, u176, u177, u178, u179, u180, u181, u182, u183, u184, u185, u186, u187, u188, u189, u190], []⟩ w') :
    Code.wp Tryd.prog (headC code18) (Exit.then K Q) ⟨#[u0, u1, u2, u3, u4, .int .i64 ((tt : Nat) : Int), .int .i64 i, .slice (some ⟨b2, off2, none⟩) m cm, .pointer (some ⟨YB, 0, none⟩), .int .i64 j, u10, u11, u12, u13, u14, u15, u16, u17, u18, u19, u20, u21, u22, u23, u24, u25, u26, u27, u28, u29, u30, u31, u32, u33, u34, u35, u36, u37, u38, u39, u40, u41, u42, u43, u44, u45, u46, u47, u48, u49, u50, u51, u52, u53, u54, u55, u56, u57, u58, u59, u60, u61, u62, u63, u64, u65, u66, u67, u68, u69, u70, u71, u72, u73, u74, u75, u76, u77, u78, u79, u80, u81, u82, u83, u84, u85, u86, u87, u88, u89, u90, u91, u92, u93, u94, u95, u96, u97, u98, u99, u100, u101, u102, u103, u104, u105, u106, u107, u108, u109, u110, u111, u112, u113, u114, u115, u116, u117, u118, u119, u120, u121, u122, u123, u124, u125, u126, u127, u128, u129, u130, u131, u132, u133, u134, u135, u136, u137, u138, u139, u140, u141, u142, u143, u144, u145, u146, u147, u148, u149, u150, u151, u152, u153, u154, u155, u156, u157, u158, u159, u160, u161, u162, u163, u164, u165, u166, u167, u168, u169, u170, u171, u172, u173, u174, u175, u176, u177, u178, u179, u180, u181, u182, u183, u184, u185, u186, u187, u188, u189, u190], []⟩ wr := by
  obtain ⟨iA, hiA, hA0, hA1, hA2⟩ := info_parts infoAlt
  obtain ⟨Ay, cy, rfl, hy1, hy2⟩ := hgi.own.isSlice
  have y0 := hcells 0 _ rfl
  rw [Nat.add_zero] at y0
  have y1 := hcells 1 _ rfl
  have y2 := hcells 2 _ rfl
  have y3 := hcells 3 _ rfl
  have hj0 : (0 : Int) ≤ (j : Int) := by omega
  obtain ⟨⟨c0, c1⟩, ⟨t0, t1⟩, _⟩ := id ha1
  obtain ⟨K2, hK2⟩ : ∃ K2, a.cls / 2 = K2 := ⟨_, rfl⟩
  obtain ⟨K5, hK5⟩ : ∃ K5, a.cls % 5 = K5 := ⟨_, rfl⟩
  obtain ⟨K8, hK8⟩ : ∃ K8, a.text % 8 = K8 := ⟨_, rfl⟩
  have s1 : a.cls.tdiv 2 = K2 := by rw [Int.tdiv_eq_ediv_of_nonneg c0]; exact hK2
  have s1b : IntKind.u8.wrap K2 = K2 := by rw [IntKind.wrap_u8]; omega
  have s2 : a.cls.tmod 5 = K5 := by rw [Int.tmod_eq_emod_of_nonneg c0]; exact hK5
  have s3 : a.text.tmod 8 = K8 := by rw [Int.tmod_eq_emod_of_nonneg t0]; exact hK8
  have s4 : IntKind.u8.wrap (i : Int) = (i : Int) := by rw [IntKind.wrap_u8]; omega
  have s5 : IntKind.u8.wrap (j : Int) = (j : Int) := by rw [IntKind.wrap_u8]; omega
  have s6 : (i : Int) % 256 = (i : Int) := by omega
  have s7 : (j : Int) % 256 = (j : Int) := by omega
  have hofd : ofAlt i j a = ⟨⟨i, j, ((a.eps.length : Nat) : Int), a.cls, K2, K5, K8⟩, ofExtra a.extra, a.eps.mapIdx fun k e => ofEp i k e⟩ := by rw [← hK2, ← hK5, ← hK8]; rfl
  have hdok : (⟨i, j, ((a.eps.length : Nat) : Int), a.cls, K2, K5, K8⟩ : IfD).ok := ⟨⟨by show (0 : Int) ≤ (i : Int); omega, by show (i : Int) < 256; omega⟩, ⟨by show (0 : Int) ≤ (j : Int); omega, by show (j : Int) < 256; omega⟩, ⟨by show (0 : Int) ≤ ((a.eps.length : Nat) : Int); omega, by show ((a.eps.length : Nat) : Int) < 256; omega⟩, ⟨c0, c1⟩, ⟨by show (0 : Int) ≤ K2; omega, by show K2 < 256; omega⟩, ⟨by show (0 : Int) ≤ K5; omega, by show K5 < 256; omega⟩, ⟨by show (0 : Int) ≤ K8; omega, by show K8 < 256; omega⟩⟩
  have hexl := ofExtra_len (l := a.extra) ha3 ha1.2.2.1
  have hepl : (a.eps.mapIdx fun k e => ofEp i k e).length = a.eps.length := List.length_mapIdx
  have hYl := hgi.size
  have Hofd := hide hofd
  have Hdok := hide hdok
  have HGI := hide hgi
  have HK := hide hK
  have HQ := hide hQ
  clear hcells hK2 hK5 hK8 hofd hdok hgi hQ ha1
  conv => arg 2; whnf
  conv at hK => enter [a, w', 1, 2]; whnf
  clear HK
  go_region_held3 (fun w' => (∀ b o, b < wr.heap.size → w'.cell? ⟨b, o, none⟩ = wr.cell? ⟨b, o, none⟩) ∧ Below wr.heap.size wr w') (first | assumption | exact since_start | exact since_new _ | exact since_alloc (by assumption) (Nat.le_refl _)) (fail)
  refine hK _ _ ?_
  clear hK
  go_upto_region 19 with (fail)
  refine wp_at (fun V => V.heap[wr.heap.size]? = some (.cells #[.int .u8 i, .int .u8 j, .int .u8 0, .int .u8 a.cls, .int .u8 K2, .int .u8 K5, .int .u8 K8, .slice none 0 0, .slice none 0 0] 56 (0, 0)) ∧ Kept wr V) ⟨(show (wr.alloc _).heap[_]? = _ from heap_at _ rfl), by go_grown⟩ (fun V hV => ?_)
  obtain ⟨hV1, hkV⟩ := hV
  obtain ⟨AB, hAB⟩ : ∃ AB, wr.heap.size = AB := ⟨_, rfl⟩
  rw [hAB] at hV1 hYl
  have HAB := hide hAB
  simp only [hAB]
  clear s1 s1b s2 s3 s4 s5 s6 s7 y0 y1 c0 c1 t0 t1
  refine xs_loop (AB := AB) (b2 := b2) (off2 := off2) (m := m) (cm := cm) (j := j) (wj := wr) ⟨hV1, Own.nil _ _ _ _, Own.nil _ _ _ _, hkV, hAB⟩ hb2 y2 q5 ha3 q1 q2 hj0 hjm _ _ _ ?_ ?_
  · assumption
  intro s11 s12 s90 s91 s92 s93 s94 s95 s96 s97 s98 s99 s100 s101 s102 s103 s104 s105 s106 s107 s108 s109 s110 s111 s112 s113 s114 s115 s116 s117 s118 s119 s120 s121 s122 s123 s124 s125 s126 u V2 hai
  obtain ⟨lx, hlx⟩ : ∃ lx, (ofExtra a.extra).length = lx := ⟨_, rfl⟩
  obtain ⟨Au, cu, rfl, hu1, hu2⟩ := hai.ou.isSlice
  rw [hlx] at hai hu1
  have Hai := hide hai
  clear hai y2 q5 q1 q2
  refine (show ∀ (a : Act) (w : World), Code.wp Tryd.prog _ _ a w → _ from by assumption) _ _ ?_
  go_upto_region 25 with (fail)
  refine ep_loop (AB := AB) (b2 := b2) (off2 := off2) (m := m) (cm := cm) (j := j) (i := i) (wj := wr) Hai.out hb2 y3 q6 ha2 hi6 hj0 hjm _ _ _ ?_ ?_
  · assumption
  intro s13 s127 s128 s129 s130 s131 s132 s133 s134 s135 s136 s137 s138 s139 s140 s141 s142 s143 s144 s145 s146 s147 s148 s149 s150 s151 s152 v V3 hai3
  refine (show ∀ (a : Act) (w : World), Code.wp Tryd.prog _ _ a w → _ from by assumption) _ _ ?_
  obtain ⟨le, hle⟩ : ∃ le, a.eps.length = le := ⟨_, rfl⟩
  obtain ⟨Av, cv, rfl, hv1, hv2⟩ := hai3.oe.isSlice
  rw [hepl, hle] at hai3 hv1
  have hab := hai3.ab
  have lA := heap_lt hab
  have a8 := cell_heap hab (o := 8) rfl
  have f2 := frozen_heap hab (o := 2)
  have a2 := cell_heap hab (o := 2) rfl
  have Hai3 := hide hai3
  have Hle := hide hle
  have Hlx := hide hlx
  have Hepl := hide hepl
  have Hab := hide hab
  clear hai3 y3 q6 hab Hai hlx hle hepl
  have hlxb : lx ≤ 93 := by rw [← Hlx.out]; exact hexl
  have hleb : le ≤ 4 := by rw [← Hle.out]; exact ha2
  have w2 : (le : Int) % 256 = (le : Int) := by rw [← Hle.out]; omega
  go_upto_region 30 with (fail)
  refine wp_at (fun Y => AI wr AB #[.int .u8 i, .int .u8 j, .int .u8 ((le : Nat) : Int), .int .u8 a.cls, .int .u8 K2, .int .u8 K5, .int .u8 K8, .slice Au lx cu, .slice Av le cv] (.slice Au lx cu) (.slice Av le cv) (ofExtra a.extra) (a.eps.mapIdx fun k e => ofEp i k e) Y) ?_ (fun V4 hai4 => ?_)
  · exact Hai3.out.set 2 _
  clear lA a8 f2 a2
  have hab := hai4.ab
  have lA := heap_lt hab
  have z0 := cell_heap hab (o := 0) rfl
  have z1 := cell_heap hab (o := 1) rfl
  have z2 := cell_heap hab (o := 2) rfl
  have z3 := cell_heap hab (o := 3) rfl
  have z4 := cell_heap hab (o := 4) rfl
  have z5 := cell_heap hab (o := 5) rfl
  have z6 := cell_heap hab (o := 6) rfl
  have z7 := cell_heap hab (o := 7) rfl
  have z8 := cell_heap hab (o := 8) rfl
  have fz := fun o => frozen_heap hab (o := o)
  have Hai4 := hide hai4
  clear hai4 hab
  have r1 : IntKind.i64.wrap (9 + (lx : Int)) = ((9 + lx : Nat) : Int) := by rw [IntKind.wrap_i64]; omega
  have r2 : IntKind.i64.wrap (7 * (le : Int)) = ((7 * le : Nat) : Int) := by rw [IntKind.wrap_i64]; omega
  have r3 : IntKind.i64.wrap (((9 + lx : Nat) : Int) + ((7 * le : Nat) : Int)) = ((9 + lx + 7 * le : Nat) : Int) := by rw [IntKind.wrap_i64]; omega
  have r4 : IntKind.i64.wrap (((tt : Nat) : Int) + ((9 + lx + 7 * le : Nat) : Int)) = ((tt + (9 + lx + 7 * le) : Nat) : Int) := by rw [IntKind.wrap_i64]; omega
  go_upto_region 31 with (fail)
  clear r1 r2 r3 r4
  have hgk := HGI.out.keep Hai4.out.kept
  have hy := hgk.y
  have ly := heap_lt hy
  have cy0 := cell_heap hy (o := 0) rfl
  have hown := hgk.own
  have hYle : YB + 1 ≤ V4.heap.size := ly
  obtain ⟨p, hp⟩ : ∃ p : LA, p = ⟨ofAlt i j a, .slice Au lx cu, .slice Av le cv⟩ := ⟨_, rfl⟩
  have hrel : ∀ W' F, laT.rel W' F p #[.int .u8 i, .int .u8 j, .int .u8 ((le : Nat) : Int), .int .u8 a.cls, .int .u8 K2, .int .u8 K5, .int .u8 K8, .slice Au lx cu, .slice Av le cv].toList := fun W' F => by
    rw [hp]
    refine ⟨?_, by rw [Hofd.out]; exact Hdok.out⟩
    unfold LA.cells IfD.cells
    rw [Hofd.out, Hle.out]
    rfl
  have hpr : p.rows (YB + 1) V4 := by
    rw [hp]
    refine ⟨?_, ?_⟩
    · show Own u8T _ _ _ _ (ofExtra a.extra).length (ofExtra a.extra)
      exact Hai4.out.ou.lower (by omega)
    · show Own epT _ _ _ _ (a.eps.mapIdx fun k e => ofEp i k e).length (a.eps.mapIdx fun k e => ofEp i k e)
      exact Hai4.out.oe.lower (by omega)
  have hap : ∀ q ∈ xs, q.apart p := fun q hq => LA.apart_of (b2 := AB + 1) (w2 := V4) (HGI.out.rows q hq) (by
    rw [hp]
    exact ⟨Hai4.out.ou, Hai4.out.oe⟩) (by rw [HAB.out]; omega)
  have Hgk := hide hgk
  have Hrel := hide hrel
  have Hpr := hide hpr
  have Hap := hide hap
  have Hp := hide hp
  have hjm2 : j + 1 ≤ 1000000 := by omega
  clear hgk hy hrel hpr hap hp
  go_wp2_with (at_builtin; refine wpList_append_el (T := laT) rfl (.tmp 171) (.tmp 173) 48 rfl (YB + 1) 56 iA _ 56 Tryd.underlying48 hiA hA0 hA1 hA2 rfl (by exact (by decide : 0 < 9)) _ j xs (by rfl) (hown.alloc _) V4.heap.size _ _ p (by rfl) (heap_at _ rfl) (Hrel.out _ _) (by simp [Value.oneCell']) (by unfold maxLen; omega) (by omega) (by simp; omega) ?_; intro g cap w9 hown9 hg9 hb9 hat9 hlt9; have hy9 := heap_grown hg9 (heap_past Hgk.out.y) (fun e => Hgk.out.own.not_at (Nat.lt_succ_self YB) e.symm); have cy9 := cell_heap hy9 (o := 0) rfl; have fy9 := frozen_heap hy9 (o := 0); have ly9 := heap_lt hy9)
  have hal : ∀ o, Kept V4 (V4.alloc o) := fun o => (Below.refl _ _).alloc (Nat.le_refl _) o
  have hfin := (Hgk.out.keep (hal _)).grow hg9 hown9 (Hpr.out.kept (hal _)) Hap.out
  have hsz : (tt : Int) + (9 + (lx : Int) + 7 * (le : Int)) = ((tt + altSize (ofAlt i j a) : Nat) : Int) := by
    rw [Hofd.out]
    unfold altSize
    simp only [Hlx.out, Hepl.out, Hle.out]
    omega
  rw [hsz]
  have hABw := HAB.out
  have hbel : Below YB wr (w9.setCell ⟨YB, 0, none⟩ (.slice (some ⟨g, 0, none⟩) (j + 1) cap)) := by
    have b1 : Below YB wr V4 := Hai4.out.kept.mono (by omega)
    have b2 : Below YB wr w9 := (b1.trans ((hal _).mono (by omega))).trans (hb9.mono (by omega))
    exact b2.setCell (p := ⟨YB, 0, none⟩) (Nat.le_refl _) _
  exact HQ.out _ _ _ _ _ _ _ _ _ _ _ _ _ _ _ _ _ _ _ _ _ _ _ _ _ _ _ _ _ _ _ _ _ _ _ _ _ _ _ _ _ _ _ _ _ _ _ _ _ _ _ _ _ _ _ _ _ _ _ _ _ _ _ _ _ _ _ _ _ _ _ _ _ _ _ _ _ _ _ _ _ _ _ _ _ _ _ _ _ _ _ _ _ _ _ _ _ _ _ _ _ _ _ _ _ _ _ _ _ _ _ _ _ _ _ _ _ _ _  p _ _ (by rw [Hp.out]) hfin hbel
end Go.Proofs.YtjgncofhobhjdaaDoor
