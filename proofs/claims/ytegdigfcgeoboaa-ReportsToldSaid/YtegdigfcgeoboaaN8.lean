/- The reader's field. -/
import Derived.Test.YtegdigfcgeoboaaChecked
import Derived.Deep.RegionHeld3
import Derived.Deep.DrawnRows
import Derived.Deep.DeepCutAuto
import Derived.Deep.LoopGhost
import Derived.Outline
import Derived.Handy
import Derived.OwnWalk
import Derived.BigQuiet
import Derived.Deep.RegionLaw
import Derived.Shelf.Spec.TrailingZeros
import Derived.Test.YtegdigfcgeoboaaRkK
import Derived.Test.YtegdigfcgeoboaaN2
import Derived.Test.YtegdigfcgeoboaaN6
set_option linter.unusedVariables false
set_option linter.unusedSimpArgs false
set_option linter.unusedSectionVars false
/- The reader's field: names for its parts; small lemmas. Printed by gen_f.py. -/
namespace Go.Proofs.Ytegdigfcgeoboaa
open Go.RowKit Go.Maps
attribute [local go_sem ↓] Go.wp_at_zero Go.wp_at_succ

noncomputable def codeM : Code := (Try.f60.body.bind (fromR 6)).getD .skip
noncomputable def opsM : Array Oper := opsOf (headC codeM)
noncomputable def codeP : Code := restC (restC codeM)
noncomputable def opsP : Array Oper := opsOf (headC codeP)
noncomputable def opsA : Array Oper := opsOf (headC (restC codeP))
theorem kept_drew_alloc (W : World) (o : Obj) : Kept W.drew ((W.alloc o).drew) := by
  have h : Kept W (W.alloc o) := (Below.refl _ _).alloc (Nat.le_refl _) o
  exact ⟨h.os, h.tape, h.output, h.size, h.block⟩
theorem kept_row {w w1 : World} (h : Kept w w1) {g : Nat} (hg : w.heap.size ≤ g) (cs : Array Value) : Kept w (w1.setRow g cs) := below_row h hg cs
theorem and1 {n : Int} (h0 : 0 ≤ n) (h1 : n < 4294967296) : (bits BinOp.and IntKind.u32 n 1 != 0) = (n % 2 == 1) := by
  have h := Go.Proofs.bits_and_u32_nat n.toNat 1 (by omega) (by omega)
  rw [Nat.and_one_is_mod, Int.toNat_of_nonneg h0] at h
  have e : bits BinOp.and IntKind.u32 n 1 = n % 2 := h.trans (by omega)
  rw [e]
  rcases Int.emod_two_eq n with h | h <;> rw [h] <;> rfl
theorem and_pow (m i : Nat) : m &&& 2 ^ i = if m / 2 ^ i % 2 = 1 then 2 ^ i else 0 := by
  apply Nat.eq_of_testBit_eq
  intro j
  rw [Nat.testBit_and, Nat.testBit_two_pow]
  by_cases hji : i = j
  · subst hji
    rw [Nat.testBit_eq_decide_div_mod_eq]
    by_cases hc : m / 2 ^ i % 2 = 1
    · rw [if_pos hc]; simp [hc, Nat.testBit_two_pow_self]
    · rw [if_neg hc]; simp [hc]
  · have e : decide (i = j) = false := by simp [hji]
    rw [e, Bool.and_false]
    split
    · rw [Nat.testBit_two_pow]; simp [hji]
    · simp
theorem andbit {n : Int} (h0 : 0 ≤ n) (h1 : n < 4294967296) (i : Nat) (hi : i ≤ 8) : bits BinOp.and IntKind.u32 n ((2 ^ i : Nat) : Int) = if n / ((2 ^ i : Nat) : Int) % 2 = 1 then ((2 ^ i : Nat) : Int) else 0 := by
  have hp : 2 ^ i ≤ 256 := Nat.pow_le_pow_right (by decide) hi
  have h := Go.Proofs.bits_and_u32_nat n.toNat (2 ^ i) (by omega) (by omega)
  rw [and_pow, Int.toNat_of_nonneg h0] at h
  rw [h]
  have e : n / ((2 ^ i : Nat) : Int) % 2 = ((n.toNat / 2 ^ i % 2 : Nat) : Int) := by
    conv => lhs; rw [← Int.toNat_of_nonneg h0]
    rfl
  rw [e]
  by_cases hc : n.toNat / 2 ^ i % 2 = 1
  · rw [if_pos hc, if_pos (by omega)]
  · rw [if_neg hc, if_neg (by omega)]; rfl
theorem and2 {n : Int} (h0 : 0 ≤ n) (h1 : n < 4294967296) : (bits BinOp.and IntKind.u32 n 2 == 0) = (n / 2 % 2 == 0) := by
  rw [show bits BinOp.and IntKind.u32 n 2 = _ from andbit h0 h1 1 (by decide)]
  show ((if n / 2 % 2 = 1 then (2 : Int) else 0) == 0) = (n / 2 % 2 == 0)
  rcases Int.emod_two_eq (n / 2) with h | h <;> rw [h] <;> rfl
theorem and4 {n : Int} (h0 : 0 ≤ n) (h1 : n < 4294967296) : (bits BinOp.and IntKind.u32 n 4 != 0) = (n / 4 % 2 == 1) := by
  rw [show bits BinOp.and IntKind.u32 n 4 = _ from andbit h0 h1 2 (by decide)]
  show ((if n / 4 % 2 = 1 then (4 : Int) else 0) != 0) = (n / 4 % 2 == 1)
  rcases Int.emod_two_eq (n / 4) with h | h <;> rw [h] <;> rfl
theorem sl_row {w w1 : World} {A : Option Addr} {n N G : Nat} {l : List Int} {cs : Array Value} (h : Sl u32T w1 (fun g => N ≤ g ∧ g < w1.heap.size ∧ g ≠ G) A n l) (hN : w.heap.size ≤ N) : Sl u32T (w1.setRow G cs) (fun g => w.heap.size ≤ g ∧ g < (w1.setRow G cs).heap.size ∧ g ≠ G) A n l :=
  h.keep (fun g hg => ⟨Nat.le_trans hN hg.1, by rw [size_setRow]; exact hg.2.1, hg.2.2⟩) (fun b o hb => World.cell?_of_block (a := ⟨b, o, none⟩) (by
    have hne := hb.2.2
    show (w1.heap.modify G _)[b]? = _
    rw [Array.getElem?_modify, if_neg (fun e => hne e.symm)]))
theorem of_drew' {w w1 : World} {B : Nat} (h : Below B w w1) : Below B w w1.drew := ⟨h.os, h.tape, h.output, h.size, h.block⟩
/-- the blocks that the reader writes were there at the beginning -/
def OldB (w : World) (vs vu vf vc : Value) : Prop := ∀ g, vs.ownBlock = some g ∨ vu.ownBlock = some g ∨ vf.ownBlock = some g ∨ vc.ownBlock = some g → g < w.heap.size
theorem Rd.old {w : World} {base R m : Nat} {vs vu vf vc : Value} {s : RS} (h : Rd w base R m vs vu vf vc s) : OldB w vs vu vf vc := by
  rintro g (e | e | e | e)
  · exact (h.st.lt e).2
  · exact (h.us.lt e).2
  · exact (h.fs.lt e).2
  · exact (h.cs.lt e).2
theorem OldB.busy {w : World} {R m : Nat} {vs vu vf vc : Value} (h : OldB w vs vu vf vc) (hR : R < w.heap.size) (hm : m < w.heap.size) {b : Nat} (hb : w.heap.size ≤ b) : Busy R m vs vu vf vc b := by
  refine ⟨by omega, by omega, fun e => ?_, fun e => ?_, fun e => ?_, fun e => ?_⟩
  · have := h b (.inl e); omega
  · have := h b (.inr (.inl e)); omega
  · have := h b (.inr (.inr (.inl e))); omega
  · have := h b (.inr (.inr (.inr e))); omega
/-- the bits behind a new field -/
theorem bitsF_put {l : List Fd} {f : Lit → Option Value} (h : bitsF l f) {F : Fd} (hk : 1 ≤ F.kind ∧ F.kind ≤ 3) (hr : u8k F.report) {n : Int} (hn : n = bitsS l F.kind F.report + F.size * F.count) : bitsF (l ++ [F]) (putF f (kL F.kind F.report) (.int .i64 n)) := by
  intro k r h1 h2
  unfold putF
  rw [kL_same ⟨by omega, by omega⟩ h2 ⟨by omega, by omega⟩ hr, bitsS_snoc]
  by_cases c : k = F.kind ∧ r = F.report
  · obtain ⟨rfl, rfl⟩ := c
    simp [hn]
  · have e : (k == F.kind && r == F.report) = false := by
      rw [Bool.and_eq_false_iff]
      by_cases e : k = F.kind
      · exact .inr (by simpa using fun e2 => c ⟨e, e2⟩)
      · exact .inl (by simpa using e)
    have e2 : (F.kind == k && F.report == r) = false := by
      rw [Bool.and_eq_false_iff] at e ⊢
      exact e.imp (fun h => by simpa using fun e => (by simpa using h : ¬ k = F.kind) e.symm) (fun h => by simpa using fun e => (by simpa using h : ¬ r = F.report) e.symm)
    rw [e, e2]
    simpa using h k r h1 h2
theorem info59 : (Try.prog.info? 59).map (fun i => (i.zero, i.size, i.bytes)) = some (some (.agg #[.int .u8 0, .int .u8 0, .int .i64 0, .slice none 0 0, .int .i64 0, .int .i64 0, .int .i64 0, .int .i64 0, .int .i64 0, .bool false, .bool false, .bool false, .bool false]), 13, 88) := by kernel_rfl
end Go.Proofs.Ytegdigfcgeoboaa
/- The reader's field: the append. Printed by gen_f.py. -/
namespace Go.Proofs.Ytegdigfcgeoboaa
open Go.RowKit Go.Maps
attribute [local go_sem ↓] Go.wp_at_zero Go.wp_at_succ

set_option maxRecDepth 1000000 in
set_option maxHeartbeats 16000000 in
theorem field_app {u1 u2 u3 u4 u5 u6 u7 u9 u10 u11 u12 u13 u14 u15 u16 u17 u18 u19 u20 u21 u22 u23 u24 u25 u26 u27 u28 u29 u30 u31 u32 u33 u34 u35 u36 u37 u38 u39 u40 u41 u42 u43 u44 u45 u46 u47 u48 u49 u50 u51 u52 u53 u54 u55 u56 u57 u58 u59 u60 u61 u62 u63 u64 u65 u66 u67 u68 u69 u70 u71 u72 u73 u74 u75 u76 u77 u78 u79 u80 u81 u82 u83 u84 u85 u86 u87 u88 u89 u90 u91 u92 u93 u94 u95 u96 u97 u98 u99 u100 u101 u102 u103 u104 u105 u106 u107 u108 u109 u110 u111 u112 u113 u114 u115 u116 u117 u118 u119 u120 u121 u122 u123 u124 u125 u126 u127 u128 u129 u130 u131 u132 u133 u134 u135 u136 u137 u138 u139 u140 u141 u142 u143 u144 u145 u146 u147 u148 u149 u150 u151 u152 u153 u154 u155 u156 u157 u158 u159 u160 u161 u162 u163 u164 u165 u166 u167 u168 u169 u170 u171 u172 u173 u174 u175 u176 u177 u178 u179 u180 u181 u182 u183 u184 u185 u186 u187 u188 : Value} {w W3 : World} {base R m G : Nat} {vs vu vf vc : Value} {s : RS} (k : Int) (x : It) (hM : RdM W3 base R m vs vu vf vc s (s.fields ++ [fieldOf s k x])) (hfr : Fr base R m w W3) (hb : base ≤ w.heap.size) (hold : OldB w vs vu vf vc)
    (hn : s.fields.length < 256) (hul : s.usages.length ≤ 512) (hP : fieldS s k x = (0, { s with fields := s.fields ++ [fieldOf s k x] })) {B : Int} {b1 b2 b4 : Bool} {A' : Option Addr} (hF : (fieldOf s k x).cells A' = [.int .u8 k, .int .u8 s.g.report, .int .i64 s.opn, .slice A' s.usages.length s.usages.length, .int .i64 s.g.lo, .int .i64 s.g.hi, .int .i64 s.g.size, .int .i64 s.g.count, .int .i64 B, .bool b1, .bool b2, .bool (decide (s.g.lo < 0)), .bool b4])
    (hG : W3.heap[G]? = some (.cells #[.int .u8 k, .int .u8 s.g.report, .int .i64 s.opn, .slice A' s.usages.length s.usages.length, .int .i64 s.g.lo, .int .i64 s.g.hi, .int .i64 s.g.size, .int .i64 s.g.count, .int .i64 B, .bool b1, .bool b2, .bool (decide (s.g.lo < 0)), .bool b4] 59 (0, 0))) (hGw : w.heap.size ≤ G) (hsl : Sl u32T W3 (fun g => w.heap.size ≤ g ∧ g < W3.heap.size ∧ g ≠ G) A' s.usages.length s.usages) :
    Code.wp Try.prog (restC codeP) (bodyPost Try.prog Try.f60 (Did base R m w (fieldS s k x))) ⟨#[.pointer (some ⟨R, 0, none⟩), u1, u2, u3, u4, u5, u6, u7, .pointer (some ⟨G, 0, none⟩), u9, u10, u11, u12, u13, u14, u15, u16, u17, u18, u19, u20, u21, u22, u23, u24, u25, u26, u27, u28, u29, u30, u31, u32, u33, u34, u35, u36, u37, u38, u39, u40, u41, u42, u43, u44, u45, u46, u47, u48, u49, u50, u51, u52, u53, u54, u55, u56, u57, u58, u59, u60, u61, u62, u63, u64, u65, u66, u67, u68, u69, u70, u71, u72, u73, u74, u75, u76, u77, u78, u79, u80, u81, u82, u83, u84, u85, u86, u87, u88, u89, u90, u91, u92, u93, u94, u95, u96, u97, u98, u99, u100, u101, u102, u103, u104, u105, u106, u107, u108, u109, u110, u111, u112, u113, u114, u115, u116, u117, u118, u119, u120, u121, u122, u123, u124, u125, u126, u127, u128, u129, u130, u131, u132, u133, u134, u135, u136, u137, u138, u139, u140, u141, u142, u143, u144, u145, u146, u147, u148, u149, u150, u151, u152, u153, u154, u155, u156, u157, u158, u159, u160, u161, u162, u163, u164, u165, u166, u167, u168, u169, u170, u171, u172, u173, u174, u175, u176, u177, u178, u179, u180, u181, u182, u183, u184, u185, u186, u187, u188], []⟩ W3 := by
  conv => arg 2; whnf
  rw [hP]
  have hRl := heap_lt hM.box
  have hGl := heap_lt hG
  have hnR : ¬ vf.ownBlock = some R := hM.fs.not_at hM.low.1
  have hnG : ¬ vf.ownBlock = some G := fun e => by have := hold G (.inr (.inr (.inl e))); omega
  have c12 : W3.cell? ⟨R, 12, none⟩ = some vf := cell_heap hM.box (o := 12) rfl
  have g0 := cell_heap hG (o := 0) rfl
  have g1 := cell_heap hG (o := 1) rfl
  have g2 := cell_heap hG (o := 2) rfl
  have g3 := cell_heap hG (o := 3) rfl
  have g4 := cell_heap hG (o := 4) rfl
  have g5 := cell_heap hG (o := 5) rfl
  have g6 := cell_heap hG (o := 6) rfl
  have g7 := cell_heap hG (o := 7) rfl
  have g8 := cell_heap hG (o := 8) rfl
  have g9 := cell_heap hG (o := 9) rfl
  have g10 := cell_heap hG (o := 10) rfl
  have g11 := cell_heap hG (o := 11) rfl
  have g12 := cell_heap hG (o := 12) rfl
  have HM := hide hM
  have HP := hide hP
  have HF := hide hF
  have HG := hide hG
  have Hsl := hide hsl
  have Hold := hide hold
  have Hul := hide hul
  have Hfr := hide hfr
  clear hM hP hF hG hsl hold hul hfr
  go_upto_region 10 with (fail)
  refine wp_region_held_named (ops' := opsA) (n := 13) (S := fun w' => (∀ o, w'.cell? ⟨G, o, none⟩ = W3.cell? ⟨G, o, none⟩) ∧ True) (by kernel_rfl) (by kernel_rfl) (by kernel_rfl) ⟨fun _ => rfl, trivial⟩ (fun hS => ?_)
  have ho : opsA[0]? = some (opAt opsA 0) := by kernel_rfl
  conv at ho => rhs; arg 1; whnf
  refine wpAnyH_take (i := 0) (v := ?_) ho (by kernel_rfl) (by kernel_rfl) (by kernel_rfl) (fun _ _ _ h => h) (Or.inl ⟨by kernel_rfl, ?_⟩) hS ?_
  clear ho
  rotate_left
  · intro w' hS'
    have hq := hS'.1
    have hq2 := hS'.2
    clear hS'
    first | (go_simp; done) | (go_simp; with_reducible rfl)
  try clear ho
  try simp only [Act.put, List.getElem_toArray, List.getElem_cons_zero, List.getElem_cons_succ, List.setIfInBounds_toArray, List.set_cons_zero, List.set_cons_succ]
  have ho : opsA[1]? = some (opAt opsA 1) := by kernel_rfl
  conv at ho => rhs; arg 1; whnf
  refine wpAnyH_take (i := 1) (v := ?_) ho (by kernel_rfl) (by kernel_rfl) (by kernel_rfl) (fun _ _ _ h => h) (Or.inl ⟨by kernel_rfl, ?_⟩) hS ?_
  clear ho
  rotate_left
  · intro w' hS'
    have hq := hS'.1
    have hq2 := hS'.2
    clear hS'
    first | (go_simp; done) | (go_simp; with_reducible rfl)
  try clear ho
  try simp only [Act.put, List.getElem_toArray, List.getElem_cons_zero, List.getElem_cons_succ, List.setIfInBounds_toArray, List.set_cons_zero, List.set_cons_succ]
  have ho : opsA[2]? = some (opAt opsA 2) := by kernel_rfl
  conv at ho => rhs; arg 1; whnf
  refine wpAnyH_take (i := 2) (v := ?_) ho (by kernel_rfl) (by kernel_rfl) (by kernel_rfl) (fun _ _ _ h => h) (Or.inl ⟨by kernel_rfl, ?_⟩) hS ?_
  clear ho
  rotate_left
  · intro w' hS'
    have hq := hS'.1
    have hq2 := hS'.2
    clear hS'
    first | (go_simp; done) | (go_simp; with_reducible rfl)
  try clear ho
  try simp only [Act.put, List.getElem_toArray, List.getElem_cons_zero, List.getElem_cons_succ, List.setIfInBounds_toArray, List.set_cons_zero, List.set_cons_succ]
  have ho : opsA[3]? = some (opAt opsA 3) := by kernel_rfl
  conv at ho => rhs; arg 1; whnf
  refine wpAnyH_take (i := 3) (v := ?_) ho (by kernel_rfl) (by kernel_rfl) (by kernel_rfl) (fun _ _ _ h => h) (Or.inl ⟨by kernel_rfl, ?_⟩) hS ?_
  clear ho
  rotate_left
  · intro w' hS'
    have hq := hS'.1
    have hq2 := hS'.2
    clear hS'
    first | (go_simp; done) | (go_simp; with_reducible rfl)
  try clear ho
  try simp only [Act.put, List.getElem_toArray, List.getElem_cons_zero, List.getElem_cons_succ, List.setIfInBounds_toArray, List.set_cons_zero, List.set_cons_succ]
  have ho : opsA[4]? = some (opAt opsA 4) := by kernel_rfl
  conv at ho => rhs; arg 1; whnf
  refine wpAnyH_take (i := 4) (v := ?_) ho (by kernel_rfl) (by kernel_rfl) (by kernel_rfl) (fun _ _ _ h => h) (Or.inl ⟨by kernel_rfl, ?_⟩) hS ?_
  clear ho
  rotate_left
  · intro w' hS'
    have hq := hS'.1
    have hq2 := hS'.2
    clear hS'
    first | (go_simp; done) | (go_simp; with_reducible rfl)
  try clear ho
  try simp only [Act.put, List.getElem_toArray, List.getElem_cons_zero, List.getElem_cons_succ, List.setIfInBounds_toArray, List.set_cons_zero, List.set_cons_succ]
  have ho : opsA[6]? = some (opAt opsA 6) := by kernel_rfl
  conv at ho => rhs; arg 1; whnf
  refine wpAnyH_take (i := 6) (v := ?_) ho (by kernel_rfl) (by kernel_rfl) (by kernel_rfl) (fun _ _ _ h => h) (Or.inl ⟨by kernel_rfl, ?_⟩) hS ?_
  clear ho
  rotate_left
  · intro w' hS'
    have hq := hS'.1
    have hq2 := hS'.2
    clear hS'
    first | (go_simp; done) | (go_simp; with_reducible rfl)
  try clear ho
  try simp only [Act.put, List.getElem_toArray, List.getElem_cons_zero, List.getElem_cons_succ, List.setIfInBounds_toArray, List.set_cons_zero, List.set_cons_succ]
  have ho5 : opsA[5]? = some (opAt opsA 5) := by kernel_rfl
  conv at ho5 => rhs; arg 1; whnf
  have ho7 : opsA[7]? = some (opAt opsA 7) := by kernel_rfl
  conv at ho7 => rhs; arg 1; whnf
  refine wpAnyH_ready (rs := [5, 7]) (by kernel_rfl) (by simp) ?_
  refine (AllReadyH.cons ho5 (fun K hK => ?_) (AllReadyH.cons ho7 (fun K hK => ?_) AllReadyH.nil))
  all_goals clear ho5 ho7
  · go_simp
    try dsimp only
    refine hK.out _ _ ?_ (fun hS => ?_)
    · exact hS
    clear hK K
    try simp only [Act.put, List.getElem_toArray, List.getElem_cons_zero, List.getElem_cons_succ, List.setIfInBounds_toArray, List.set_cons_zero, List.set_cons_succ]
    have ho7 : opsA[7]? = some (opAt opsA 7) := by kernel_rfl
    conv at ho7 => rhs; arg 1; whnf
    refine wpAnyH_ready (rs := [7]) (by kernel_rfl) (by simp) ?_
    refine (AllReadyH.cons ho7 (fun K hK => ?_) AllReadyH.nil)
    all_goals clear ho7
    go_simp
    try dsimp only
    refine hK.out _ _ ?_ (fun hS => ?_)
    · exact ⟨fun o => World.cell?_alloc_lt _ _ _ hGl, trivial⟩
    clear hK K
    try simp only [Act.put, List.getElem_toArray, List.getElem_cons_zero, List.getElem_cons_succ, List.setIfInBounds_toArray, List.set_cons_zero, List.set_cons_succ]
    have ho8 : opsA[8]? = some (opAt opsA 8) := by kernel_rfl
    conv at ho8 => rhs; arg 1; whnf
    refine wpAnyH_ready (rs := [8]) (by kernel_rfl) (by simp) ?_
    refine (AllReadyH.cons ho8 (fun K hK => ?_) AllReadyH.nil)
    all_goals clear ho8
    have hk4 : Kept W3 ((W3.alloc (.cells #[.int .u8 k, .int .u8 s.g.report, .int .i64 s.opn, .slice A' s.usages.length s.usages.length, .int .i64 s.g.lo, .int .i64 s.g.hi, .int .i64 s.g.size, .int .i64 s.g.count, .int .i64 B, .bool b1, .bool b2, .bool (decide (s.g.lo < 0)), .bool b4] 59)).drew) := of_drew' ((Below.refl _ _).alloc (Nat.le_refl _) _)
    have hM4 := HM.out.kept hk4
    have hown : Own (fdT.on (fun b => Busy R m vs vu vf vc b ∧ b < ((W3.alloc (.cells #[.int .u8 k, .int .u8 s.g.report, .int .i64 s.opn, .slice A' s.usages.length s.usages.length, .int .i64 s.g.lo, .int .i64 s.g.hi, .int .i64 s.g.size, .int .i64 s.g.count, .int .i64 B, .bool b1, .bool b2, .bool (decide (s.g.lo < 0)), .bool b4] 59)).drew).heap.size)) 59 base ((W3.alloc (.cells #[.int .u8 k, .int .u8 s.g.report, .int .i64 s.opn, .slice A' s.usages.length s.usages.length, .int .i64 s.g.lo, .int .i64 s.g.hi, .int .i64 s.g.size, .int .i64 s.g.count, .int .i64 B, .bool b1, .bool b2, .bool (decide (s.g.lo < 0)), .bool b4] 59)).drew) vf s.fields.length s.fields := hM4.fs.widen (fun b h1 h2 => ⟨h2, h1⟩)
    have hrel : (fdT.on (fun b => Busy R m vs vu vf vc b ∧ b < ((W3.alloc (.cells #[.int .u8 k, .int .u8 s.g.report, .int .i64 s.opn, .slice A' s.usages.length s.usages.length, .int .i64 s.g.lo, .int .i64 s.g.hi, .int .i64 s.g.size, .int .i64 s.g.count, .int .i64 B, .bool b1, .bool b2, .bool (decide (s.g.lo < 0)), .bool b4] 59)).drew).heap.size)).rel ((W3.alloc (.cells #[.int .u8 k, .int .u8 s.g.report, .int .i64 s.opn, .slice A' s.usages.length s.usages.length, .int .i64 s.g.lo, .int .i64 s.g.hi, .int .i64 s.g.size, .int .i64 s.g.count, .int .i64 B, .bool b1, .bool b2, .bool (decide (s.g.lo < 0)), .bool b4] 59)).drew) (apart ((W3.alloc (.cells #[.int .u8 k, .int .u8 s.g.report, .int .i64 s.opn, .slice A' s.usages.length s.usages.length, .int .i64 s.g.lo, .int .i64 s.g.hi, .int .i64 s.g.size, .int .i64 s.g.count, .int .i64 B, .bool b1, .bool b2, .bool (decide (s.g.lo < 0)), .bool b4] 59)).drew) vf) (fieldOf s k x) [.int .u8 k, .int .u8 s.g.report, .int .i64 s.opn, .slice A' s.usages.length s.usages.length, .int .i64 s.g.lo, .int .i64 s.g.hi, .int .i64 s.g.size, .int .i64 s.g.count, .int .i64 B, .bool b1, .bool b2, .bool (decide (s.g.lo < 0)), .bool b4] :=
      ⟨A', HF.out.symm, Nat.le_trans Hul.out (by decide), Hsl.out.keep (fun g hg => ⟨⟨Nat.lt_of_lt_of_le hg.2.1 hk4.size, (Hold.out.busy (Nat.lt_of_lt_of_le HM.out.low.1 hb) (Nat.lt_of_lt_of_le HM.out.low.2.1 hb) hg.1).2.2.2.2.1⟩, Hold.out.busy (Nat.lt_of_lt_of_le HM.out.low.1 hb) (Nat.lt_of_lt_of_le HM.out.low.2.1 hb) hg.1, Nat.lt_of_lt_of_le hg.2.1 hk4.size⟩) (fun b o hb => hk4.cell (p := ⟨b, o, none⟩) hb.2.1)⟩
    obtain ⟨i1, hi1, hz0, hz1, hz2⟩ := info_parts info59
    refine step_append_el (T := fdT.on (fun b => Busy R m vs vu vf vc b ∧ b < ((W3.alloc (.cells #[.int .u8 k, .int .u8 s.g.report, .int .i64 s.opn, .slice A' s.usages.length s.usages.length, .int .i64 s.g.lo, .int .i64 s.g.hi, .int .i64 s.g.size, .int .i64 s.g.count, .int .i64 B, .bool b1, .bool b2, .bool (decide (s.g.lo < 0)), .bool b4] 59)).drew).heap.size)) rfl (.tmp 182) (.tmp 184) 37 rfl base 59 i1 _ 88 Try.underlying37 hi1 hz0 hz1 hz2 rfl (show 0 < 13 by decide) vf s.fields.length s.fields (by rfl) hown W3.heap.size #[.int .u8 k, .int .u8 s.g.report, .int .i64 s.opn, .slice A' s.usages.length s.usages.length, .int .i64 s.g.lo, .int .i64 s.g.hi, .int .i64 s.g.size, .int .i64 s.g.count, .int .i64 B, .bool b1, .bool b2, .bool (decide (s.g.lo < 0)), .bool b4] 59 (fieldOf s k x) (by rfl) (heap_at _ rfl) hrel (by simp [Value.oneCell']) (by unfold maxLen; omega) (by omega) (Nat.le_trans hb (Nat.le_trans Hfr.out.size hk4.size)) ?_
    intro g cap w5 hown5 hg5 hb5 hat5 hlt5
    have hbx5 := (hb5.block R HM.out.low.1).trans hM4.box
    have c6' := cell_heap hbx5 (o := 12) rfl
    have f6' := frozen_heap hbx5 (o := 12)
    have hl5 := heap_lt hbx5
    have hS5 : ∀ o, w5.cell? ⟨G, o, none⟩ = W3.cell? ⟨G, o, none⟩ := fun o => (World.cell?_of_block (a := ⟨G, o, none⟩) (hg5.block G (Nat.lt_of_lt_of_le hGl hk4.size) (fun e => hnG e.symm))).trans (hk4.cell (p := ⟨G, o, none⟩) hGl)
    have hRG : ¬ R = G := by have := HM.out.low.1; omega
    have hfr5 : Fr base R m ((W3.alloc (.cells #[.int .u8 k, .int .u8 s.g.report, .int .i64 s.opn, .slice A' s.usages.length s.usages.length, .int .i64 s.g.lo, .int .i64 s.g.hi, .int .i64 s.g.size, .int .i64 s.g.count, .int .i64 B, .bool b1, .bool b2, .bool (decide (s.g.lo < 0)), .bool b4] 59)).drew) w5 := Fr.grow hb5 hg5 hown (by decide)
    clear hown hrel
    refine hK.out _ _ ?_ (fun hS => ?_)
    · exact ⟨hS5, trivial⟩
    clear hK K
    try simp only [Act.put, List.getElem_toArray, List.getElem_cons_zero, List.getElem_cons_succ, List.setIfInBounds_toArray, List.set_cons_zero, List.set_cons_succ]
    have ho : opsA[9]? = some (opAt opsA 9) := by kernel_rfl
    conv at ho => rhs; arg 1; whnf
    refine wpAnyH_take (i := 9) (v := ?_) ho (by kernel_rfl) (by kernel_rfl) (by kernel_rfl) (fun _ _ _ h => h) (Or.inl ⟨by kernel_rfl, ?_⟩) hS ?_
    clear ho
    rotate_left
    · intro w' hS'
      have hq := hS'.1
      have hq2 := hS'.2
      clear hS'
      first | (go_simp; done) | (go_simp; with_reducible rfl)
    try clear ho
    try simp only [Act.put, List.getElem_toArray, List.getElem_cons_zero, List.getElem_cons_succ, List.setIfInBounds_toArray, List.set_cons_zero, List.set_cons_succ]
    have ho : opsA[10]? = some (opAt opsA 10) := by kernel_rfl
    conv at ho => rhs; arg 1; whnf
    refine wpAnyH_take (i := 10) (v := ?_) ho (by kernel_rfl) (by kernel_rfl) (by kernel_rfl) (fun _ _ _ h => h) (Or.inl ⟨by kernel_rfl, ?_⟩) hS ?_
    clear ho
    rotate_left
    · intro w' hS'
      have hq := hS'.1
      have hq2 := hS'.2
      clear hS'
      first | (go_simp; done) | (go_simp; with_reducible rfl)
    try clear ho
    try simp only [Act.put, List.getElem_toArray, List.getElem_cons_zero, List.getElem_cons_succ, List.setIfInBounds_toArray, List.set_cons_zero, List.set_cons_succ]
    have ho : opsA[11]? = some (opAt opsA 11) := by kernel_rfl
    conv at ho => rhs; arg 1; whnf
    refine wpAnyH_take (i := 11) (v := ?_) ho (by kernel_rfl) (by kernel_rfl) (by kernel_rfl) (fun _ _ _ h => h) (Or.inl ⟨by kernel_rfl, ?_⟩) hS ?_
    clear ho
    rotate_left
    · intro w' hS'
      have hq := hS'.1
      have hq2 := hS'.2
      clear hS'
      first | (go_simp; done) | (go_simp; with_reducible rfl)
    try clear ho
    try simp only [Act.put, List.getElem_toArray, List.getElem_cons_zero, List.getElem_cons_succ, List.setIfInBounds_toArray, List.set_cons_zero, List.set_cons_succ]
    have ho12 : opsA[12]? = some (opAt opsA 12) := by kernel_rfl
    conv at ho12 => rhs; arg 1; whnf
    refine wpAnyH_ready (rs := [12]) (by kernel_rfl) (by simp) ?_
    refine (AllReadyH.cons ho12 (fun K hK => ?_) AllReadyH.nil)
    all_goals clear ho12
    go_simp
    try dsimp only
    refine hK.out _ _ ?_ (fun hS => ?_)
    · exact ⟨fun o => (World.cell?_setCell_other _ _ _ _ (fun e => hRG (by have := congrArg Addr.block e; exact this))).trans (hS5 o), trivial⟩
    clear hK K
    try simp only [Act.put, List.getElem_toArray, List.getElem_cons_zero, List.getElem_cons_succ, List.setIfInBounds_toArray, List.set_cons_zero, List.set_cons_succ]
    refine wpAnyH_done (by kernel_rfl) ?_ _
    have hfin := hM4.fieldsTo (v' := .slice (some ⟨g, 0, none⟩) (s.fields.length + 1) cap) hg5 (by rw [List.length_append]; exact hown5) (hat5.elim (fun e => .inr (.inl e.symm)) (fun e => .inr (.inr (by rw [e]; rfl))))
    have hfrF : Fr base R m w (w5.setCell ⟨R, 12, none⟩ (.slice (some ⟨g, 0, none⟩) (s.fields.length + 1) cap)) := ((Hfr.out.trans (Fr.kept hk4 (Nat.le_trans hb Hfr.out.size))).trans hfr5).trans (Fr.set 12 _)
    clear hS c6' f6' hbx5 hg5 hb5 hat5 hown5
    try (refine ‹∀ (a : Act) (w : World), _ → _› _ _ ?_)
    go_wp2_with fail
    go_ret
    exact ⟨rfl, hfrF, fun _ => ⟨_, _, _, _, hfin⟩⟩
  · go_simp
    try dsimp only
    refine hK.out _ _ ?_ (fun hS => ?_)
    · exact ⟨fun o => World.cell?_alloc_lt _ _ _ hGl, trivial⟩
    clear hK K
    try simp only [Act.put, List.getElem_toArray, List.getElem_cons_zero, List.getElem_cons_succ, List.setIfInBounds_toArray, List.set_cons_zero, List.set_cons_succ]
    have ho5 : opsA[5]? = some (opAt opsA 5) := by kernel_rfl
    conv at ho5 => rhs; arg 1; whnf
    refine wpAnyH_ready (rs := [5]) (by kernel_rfl) (by simp) ?_
    refine (AllReadyH.cons ho5 (fun K hK => ?_) AllReadyH.nil)
    all_goals clear ho5
    go_simp
    try dsimp only
    refine hK.out _ _ ?_ (fun hS => ?_)
    · exact hS
    clear hK K
    try simp only [Act.put, List.getElem_toArray, List.getElem_cons_zero, List.getElem_cons_succ, List.setIfInBounds_toArray, List.set_cons_zero, List.set_cons_succ]
    have ho8 : opsA[8]? = some (opAt opsA 8) := by kernel_rfl
    conv at ho8 => rhs; arg 1; whnf
    refine wpAnyH_ready (rs := [8]) (by kernel_rfl) (by simp) ?_
    refine (AllReadyH.cons ho8 (fun K hK => ?_) AllReadyH.nil)
    all_goals clear ho8
    have hk4 : Kept W3 ((W3.alloc (.cells #[.int .u8 k, .int .u8 s.g.report, .int .i64 s.opn, .slice A' s.usages.length s.usages.length, .int .i64 s.g.lo, .int .i64 s.g.hi, .int .i64 s.g.size, .int .i64 s.g.count, .int .i64 B, .bool b1, .bool b2, .bool (decide (s.g.lo < 0)), .bool b4] 59)).drew) := of_drew' ((Below.refl _ _).alloc (Nat.le_refl _) _)
    have hM4 := HM.out.kept hk4
    have hown : Own (fdT.on (fun b => Busy R m vs vu vf vc b ∧ b < ((W3.alloc (.cells #[.int .u8 k, .int .u8 s.g.report, .int .i64 s.opn, .slice A' s.usages.length s.usages.length, .int .i64 s.g.lo, .int .i64 s.g.hi, .int .i64 s.g.size, .int .i64 s.g.count, .int .i64 B, .bool b1, .bool b2, .bool (decide (s.g.lo < 0)), .bool b4] 59)).drew).heap.size)) 59 base ((W3.alloc (.cells #[.int .u8 k, .int .u8 s.g.report, .int .i64 s.opn, .slice A' s.usages.length s.usages.length, .int .i64 s.g.lo, .int .i64 s.g.hi, .int .i64 s.g.size, .int .i64 s.g.count, .int .i64 B, .bool b1, .bool b2, .bool (decide (s.g.lo < 0)), .bool b4] 59)).drew) vf s.fields.length s.fields := hM4.fs.widen (fun b h1 h2 => ⟨h2, h1⟩)
    have hrel : (fdT.on (fun b => Busy R m vs vu vf vc b ∧ b < ((W3.alloc (.cells #[.int .u8 k, .int .u8 s.g.report, .int .i64 s.opn, .slice A' s.usages.length s.usages.length, .int .i64 s.g.lo, .int .i64 s.g.hi, .int .i64 s.g.size, .int .i64 s.g.count, .int .i64 B, .bool b1, .bool b2, .bool (decide (s.g.lo < 0)), .bool b4] 59)).drew).heap.size)).rel ((W3.alloc (.cells #[.int .u8 k, .int .u8 s.g.report, .int .i64 s.opn, .slice A' s.usages.length s.usages.length, .int .i64 s.g.lo, .int .i64 s.g.hi, .int .i64 s.g.size, .int .i64 s.g.count, .int .i64 B, .bool b1, .bool b2, .bool (decide (s.g.lo < 0)), .bool b4] 59)).drew) (apart ((W3.alloc (.cells #[.int .u8 k, .int .u8 s.g.report, .int .i64 s.opn, .slice A' s.usages.length s.usages.length, .int .i64 s.g.lo, .int .i64 s.g.hi, .int .i64 s.g.size, .int .i64 s.g.count, .int .i64 B, .bool b1, .bool b2, .bool (decide (s.g.lo < 0)), .bool b4] 59)).drew) vf) (fieldOf s k x) [.int .u8 k, .int .u8 s.g.report, .int .i64 s.opn, .slice A' s.usages.length s.usages.length, .int .i64 s.g.lo, .int .i64 s.g.hi, .int .i64 s.g.size, .int .i64 s.g.count, .int .i64 B, .bool b1, .bool b2, .bool (decide (s.g.lo < 0)), .bool b4] :=
      ⟨A', HF.out.symm, Nat.le_trans Hul.out (by decide), Hsl.out.keep (fun g hg => ⟨⟨Nat.lt_of_lt_of_le hg.2.1 hk4.size, (Hold.out.busy (Nat.lt_of_lt_of_le HM.out.low.1 hb) (Nat.lt_of_lt_of_le HM.out.low.2.1 hb) hg.1).2.2.2.2.1⟩, Hold.out.busy (Nat.lt_of_lt_of_le HM.out.low.1 hb) (Nat.lt_of_lt_of_le HM.out.low.2.1 hb) hg.1, Nat.lt_of_lt_of_le hg.2.1 hk4.size⟩) (fun b o hb => hk4.cell (p := ⟨b, o, none⟩) hb.2.1)⟩
    obtain ⟨i1, hi1, hz0, hz1, hz2⟩ := info_parts info59
    refine step_append_el (T := fdT.on (fun b => Busy R m vs vu vf vc b ∧ b < ((W3.alloc (.cells #[.int .u8 k, .int .u8 s.g.report, .int .i64 s.opn, .slice A' s.usages.length s.usages.length, .int .i64 s.g.lo, .int .i64 s.g.hi, .int .i64 s.g.size, .int .i64 s.g.count, .int .i64 B, .bool b1, .bool b2, .bool (decide (s.g.lo < 0)), .bool b4] 59)).drew).heap.size)) rfl (.tmp 182) (.tmp 184) 37 rfl base 59 i1 _ 88 Try.underlying37 hi1 hz0 hz1 hz2 rfl (show 0 < 13 by decide) vf s.fields.length s.fields (by rfl) hown W3.heap.size #[.int .u8 k, .int .u8 s.g.report, .int .i64 s.opn, .slice A' s.usages.length s.usages.length, .int .i64 s.g.lo, .int .i64 s.g.hi, .int .i64 s.g.size, .int .i64 s.g.count, .int .i64 B, .bool b1, .bool b2, .bool (decide (s.g.lo < 0)), .bool b4] 59 (fieldOf s k x) (by rfl) (heap_at _ rfl) hrel (by simp [Value.oneCell']) (by unfold maxLen; omega) (by omega) (Nat.le_trans hb (Nat.le_trans Hfr.out.size hk4.size)) ?_
    intro g cap w5 hown5 hg5 hb5 hat5 hlt5
    have hbx5 := (hb5.block R HM.out.low.1).trans hM4.box
    have c6' := cell_heap hbx5 (o := 12) rfl
    have f6' := frozen_heap hbx5 (o := 12)
    have hl5 := heap_lt hbx5
    have hS5 : ∀ o, w5.cell? ⟨G, o, none⟩ = W3.cell? ⟨G, o, none⟩ := fun o => (World.cell?_of_block (a := ⟨G, o, none⟩) (hg5.block G (Nat.lt_of_lt_of_le hGl hk4.size) (fun e => hnG e.symm))).trans (hk4.cell (p := ⟨G, o, none⟩) hGl)
    have hRG : ¬ R = G := by have := HM.out.low.1; omega
    have hfr5 : Fr base R m ((W3.alloc (.cells #[.int .u8 k, .int .u8 s.g.report, .int .i64 s.opn, .slice A' s.usages.length s.usages.length, .int .i64 s.g.lo, .int .i64 s.g.hi, .int .i64 s.g.size, .int .i64 s.g.count, .int .i64 B, .bool b1, .bool b2, .bool (decide (s.g.lo < 0)), .bool b4] 59)).drew) w5 := Fr.grow hb5 hg5 hown (by decide)
    clear hown hrel
    refine hK.out _ _ ?_ (fun hS => ?_)
    · exact ⟨hS5, trivial⟩
    clear hK K
    try simp only [Act.put, List.getElem_toArray, List.getElem_cons_zero, List.getElem_cons_succ, List.setIfInBounds_toArray, List.set_cons_zero, List.set_cons_succ]
    have ho : opsA[9]? = some (opAt opsA 9) := by kernel_rfl
    conv at ho => rhs; arg 1; whnf
    refine wpAnyH_take (i := 9) (v := ?_) ho (by kernel_rfl) (by kernel_rfl) (by kernel_rfl) (fun _ _ _ h => h) (Or.inl ⟨by kernel_rfl, ?_⟩) hS ?_
    clear ho
    rotate_left
    · intro w' hS'
      have hq := hS'.1
      have hq2 := hS'.2
      clear hS'
      first | (go_simp; done) | (go_simp; with_reducible rfl)
    try clear ho
    try simp only [Act.put, List.getElem_toArray, List.getElem_cons_zero, List.getElem_cons_succ, List.setIfInBounds_toArray, List.set_cons_zero, List.set_cons_succ]
    have ho : opsA[10]? = some (opAt opsA 10) := by kernel_rfl
    conv at ho => rhs; arg 1; whnf
    refine wpAnyH_take (i := 10) (v := ?_) ho (by kernel_rfl) (by kernel_rfl) (by kernel_rfl) (fun _ _ _ h => h) (Or.inl ⟨by kernel_rfl, ?_⟩) hS ?_
    clear ho
    rotate_left
    · intro w' hS'
      have hq := hS'.1
      have hq2 := hS'.2
      clear hS'
      first | (go_simp; done) | (go_simp; with_reducible rfl)
    try clear ho
    try simp only [Act.put, List.getElem_toArray, List.getElem_cons_zero, List.getElem_cons_succ, List.setIfInBounds_toArray, List.set_cons_zero, List.set_cons_succ]
    have ho : opsA[11]? = some (opAt opsA 11) := by kernel_rfl
    conv at ho => rhs; arg 1; whnf
    refine wpAnyH_take (i := 11) (v := ?_) ho (by kernel_rfl) (by kernel_rfl) (by kernel_rfl) (fun _ _ _ h => h) (Or.inl ⟨by kernel_rfl, ?_⟩) hS ?_
    clear ho
    rotate_left
    · intro w' hS'
      have hq := hS'.1
      have hq2 := hS'.2
      clear hS'
      first | (go_simp; done) | (go_simp; with_reducible rfl)
    try clear ho
    try simp only [Act.put, List.getElem_toArray, List.getElem_cons_zero, List.getElem_cons_succ, List.setIfInBounds_toArray, List.set_cons_zero, List.set_cons_succ]
    have ho12 : opsA[12]? = some (opAt opsA 12) := by kernel_rfl
    conv at ho12 => rhs; arg 1; whnf
    refine wpAnyH_ready (rs := [12]) (by kernel_rfl) (by simp) ?_
    refine (AllReadyH.cons ho12 (fun K hK => ?_) AllReadyH.nil)
    all_goals clear ho12
    go_simp
    try dsimp only
    refine hK.out _ _ ?_ (fun hS => ?_)
    · exact ⟨fun o => (World.cell?_setCell_other _ _ _ _ (fun e => hRG (by have := congrArg Addr.block e; exact this))).trans (hS5 o), trivial⟩
    clear hK K
    try simp only [Act.put, List.getElem_toArray, List.getElem_cons_zero, List.getElem_cons_succ, List.setIfInBounds_toArray, List.set_cons_zero, List.set_cons_succ]
    refine wpAnyH_done (by kernel_rfl) ?_ _
    have hfin := hM4.fieldsTo (v' := .slice (some ⟨g, 0, none⟩) (s.fields.length + 1) cap) hg5 (by rw [List.length_append]; exact hown5) (hat5.elim (fun e => .inr (.inl e.symm)) (fun e => .inr (.inr (by rw [e]; rfl))))
    have hfrF : Fr base R m w (w5.setCell ⟨R, 12, none⟩ (.slice (some ⟨g, 0, none⟩) (s.fields.length + 1) cap)) := ((Hfr.out.trans (Fr.kept hk4 (Nat.le_trans hb Hfr.out.size))).trans hfr5).trans (Fr.set 12 _)
    clear hS c6' f6' hbx5 hg5 hb5 hat5 hown5
    try (refine ‹∀ (a : Act) (w : World), _ → _› _ _ ?_)
    go_wp2_with fail
    go_ret
    exact ⟨rfl, hfrF, fun _ => ⟨_, _, _, _, hfin⟩⟩
end Go.Proofs.Ytegdigfcgeoboaa
/- The reader's field: the map's entry. Printed by gen_f.py. -/
namespace Go.Proofs.Ytegdigfcgeoboaa
open Go.RowKit Go.Maps
attribute [local go_sem ↓] Go.wp_at_zero Go.wp_at_succ

set_option maxRecDepth 1000000 in
set_option maxHeartbeats 16000000 in
theorem field_put {u2 u3 u4 u6 u9 u10 u11 u12 u13 u14 u15 u16 u17 u18 u19 u20 u21 u22 u23 u24 u25 u26 u27 u28 u29 u30 u31 u32 u33 u34 u35 u36 u37 u38 u39 u40 u41 u42 u43 u44 u45 u46 u47 u48 u49 u50 u51 u52 u53 u54 u55 u56 u57 u58 u59 u60 u61 u62 u63 u64 u65 u66 u67 u68 u69 u70 u71 u72 u73 u74 u75 u76 u77 u78 u79 u80 u81 u82 u83 u84 u85 u86 u87 u88 u89 u90 u91 u92 u93 u94 u95 u96 u97 u98 u99 u100 u101 u102 u103 u104 u105 u106 u107 u108 u109 u110 u111 u112 u113 u114 u115 u116 u117 u118 u119 u120 u121 u122 u123 u124 u125 u126 u127 u128 u129 u130 u131 u132 u133 u134 u135 u136 u137 u138 u139 u140 u141 u142 u143 u144 u145 u146 u147 u148 u149 u150 u151 u152 u153 u154 u155 u156 u157 u158 u159 u160 u161 u162 u163 u164 u165 u166 u167 u168 u169 u170 u171 u172 u173 u174 u175 u176 u177 u178 u179 u180 u181 u182 u183 u184 u185 u186 u187 u188 : Value} {w W : World} {base R m ib kb G : Nat} {vs vu vf vc : Value} {s : RS} (hr : Rd W base R m vs vu vf vc s) (hb : base ≤ w.heap.size) (hkW : Kept w W) (hold : OldB w vs vu vf vc) (hs : s.Fine) (k : Int) (hk0 : 1 ≤ k ∧ k ≤ 3) (x : It)
    (c1 : 1 ≤ s.g.size) (c2 : s.g.size ≤ 32) (c3 : 1 ≤ s.g.count) (c4 : s.g.count ≤ 256) (c5 : bitsS s.fields k s.g.report + s.g.size * s.g.count ≤ 4096) (c6 : s.fields.length < 256)
    (hkb : W.heap[kb]? = some (.cells #[.int .u8 k, .int .u8 s.g.report] 90 (0, 0))) {B : Int} {b1 b2 b4 : Bool} {A' : Option Addr} (hB : bitsS s.fields k s.g.report = B) (hb1 : (x.data % 2 == 1) = b1) (hb2 : (x.data / 2 % 2 == 0) = b2) (hb4 : (x.data / 4 % 2 == 1) = b4)
    (hG : W.heap[G]? = some (.cells #[.int .u8 k, .int .u8 s.g.report, .int .i64 s.opn, .slice A' s.usages.length s.usages.length, .int .i64 s.g.lo, .int .i64 s.g.hi, .int .i64 s.g.size, .int .i64 s.g.count, .int .i64 B, .bool b1, .bool b2, .bool (decide (s.g.lo < 0)), .bool b4] 59 (0, 0))) (hGw : w.heap.size ≤ G) (hsl : Sl u32T W (fun g => w.heap.size ≤ g ∧ g < W.heap.size ∧ g ≠ G) A' s.usages.length s.usages) (hP : fieldS s k x = (0, { s with fields := s.fields ++ [fieldOf s k x] }))
    (K0 : Act → World → Prop) (hK0 : ∀ a w', Code.wp Try.prog (restC codeP) (bodyPost Try.prog Try.f60 (Did base R m w (fieldS s k x))) a w' → K0 a w') :
    Code.wp Try.prog (headC codeP) (Exit.then K0 (bodyPost Try.prog Try.f60 (Did base R m w (fieldS s k x)))) ⟨#[.pointer (some ⟨R, 0, none⟩), .int .u8 k, u2, u3, u4, .pointer (some ⟨ib, 0, none⟩), u6, .pointer (some ⟨kb, 0, none⟩), .pointer (some ⟨G, 0, none⟩), u9, u10, u11, u12, u13, u14, u15, u16, u17, u18, u19, u20, u21, u22, u23, u24, u25, u26, u27, u28, u29, u30, u31, u32, u33, u34, u35, u36, u37, u38, u39, u40, u41, u42, u43, u44, u45, u46, u47, u48, u49, u50, u51, u52, u53, u54, u55, u56, u57, u58, u59, u60, u61, u62, u63, u64, u65, u66, u67, u68, u69, u70, u71, u72, u73, u74, u75, u76, u77, u78, u79, u80, u81, u82, u83, u84, u85, u86, u87, u88, u89, u90, u91, u92, u93, u94, u95, u96, u97, u98, u99, u100, u101, u102, u103, u104, u105, u106, u107, u108, u109, u110, u111, u112, u113, u114, u115, u116, u117, u118, u119, u120, u121, u122, u123, u124, u125, u126, u127, u128, u129, u130, u131, u132, u133, u134, u135, u136, u137, u138, u139, u140, u141, u142, u143, u144, u145, u146, u147, u148, u149, u150, u151, u152, u153, u154, u155, u156, u157, u158, u159, u160, u161, u162, u163, u164, u165, u166, u167, u168, u169, u170, u171, u172, u173, u174, u175, u176, u177, u178, u179, u180, u181, u182, u183, u184, u185, u186, u187, u188], []⟩ W := by
  have hrp := hs.report
  have hrep : s.g.report % 256 = s.g.report := by omega
  have hF : (fieldOf s k x).cells A' = [.int .u8 k, .int .u8 s.g.report, .int .i64 s.opn, .slice A' s.usages.length s.usages.length, .int .i64 s.g.lo, .int .i64 s.g.hi, .int .i64 s.g.size, .int .i64 s.g.count, .int .i64 B, .bool b1, .bool b2, .bool (decide (s.g.lo < 0)), .bool b4] := by
    simp only [Fd.cells, fieldOf, hrep, hB, hb1, hb2, hb4]
  have hRl := heap_lt hr.box
  have hGl := heap_lt hG
  have hkl := heap_lt hkb
  have hml := hr.map_lt
  have hmw : m < w.heap.size := Nat.lt_of_lt_of_le hr.low.2.1 hb
  obtain ⟨f, hmap, hbf⟩ := hr.map
  have hno : ∀ o, W.cell? ⟨m, o, none⟩ = none := fun o => hmap.noCell
  have hRm : ¬ R = m := hr.low.2.2
  have hkm : ¬ kb = m := fun e => by have h1 : W.cell? ⟨kb, 0, none⟩ = _ := cell_heap hkb (o := 0) rfl; rw [e, hno] at h1; cases h1
  have hGm : ¬ G = m := by omega
  have hkey := key_pair (a := k) (b := s.g.report) ⟨by omega, by omega⟩ (show u8k s.g.report by unfold u8k; omega)
  obtain ⟨v0, st, w1, he, hg1, hst⟩ := (hmap.keep (w' := W.drew) ((Below.refl _ _).drew)).entry law90 keyed90 Try.underlying81 zero3 (show s.fields.length < maxLen by unfold maxLen; omega) hkey
  have hlkB : (Instr.lookup 81 (.map (some m)) (.agg #[.int .u8 k, .int .u8 s.g.report]) false).run Try.prog w1 = .ok (.int .i64 B) w1 := by
    have h1 := (hmap.keep (w' := W.drew) ((Below.refl _ _).drew)).entryLook law90 keyed90 Try.underlying81 zero3 (show s.fields.length < maxLen by unfold maxLen; omega) hkey he w1 rfl
    rw [hbf k s.g.report hk0 (by unfold u8k; omega), hB] at h1
    exact h1
  have hlkA : (Instr.lookup 81 (.map (some m)) (.agg #[.int .u8 k, .int .u8 s.g.report]) false).run Try.prog W.drew = .ok (.int .i64 B) W.drew := by
    rw [← hB]; exact hr.look (w' := W.drew) (r := s.g.report) rfl hk0 (by unfold u8k; omega)
  obtain ⟨P, hPP⟩ : ∃ P, s.g.size * s.g.count = P := ⟨_, rfl⟩
  have hb0 := hs.bits k s.g.report
  rw [hB] at hb0
  rw [hB, hPP] at c5
  have hP1 : 1 ≤ P ∧ P ≤ 8192 := by
    rw [← hPP]
    have h1 : s.g.size * s.g.count ≤ 32 * s.g.count := Int.mul_le_mul_of_nonneg_right (by omega) (by omega)
    have h2 : 1 * s.g.count ≤ s.g.size * s.g.count := Int.mul_le_mul_of_nonneg_right (by omega) (by omega)
    omega
  have hw2 : IntKind.i64.wrap (s.g.size * s.g.count) = P := by rw [hPP, IntKind.wrap_i64]; omega
  have hw3 : IntKind.i64.wrap (B + P) = B + P := by rw [IntKind.wrap_i64]; omega
  obtain ⟨w3, hs3, hg3, hm3⟩ := hst w1 (.int .i64 (B + P)) rfl
  have hs3' : (Instr.entryStore 81 (.map (some m)) (.int .i64 st) (.int .i64 (B + P))).run Try.prog w1 = .ok () w3 := hs3
  have he' : (Instr.mapEntry 81 (.map (some m)) (.agg #[.int .u8 k, .int .u8 s.g.report])).run Try.prog W.drew = .ok (.tuple #[v0, .int .i64 st]) w1 := he
  have hgW : W.grownBy w3 (some m) := ⟨hg3.os.trans hg1.os, hg3.tape.trans hg1.tape, hg3.output.trans hg1.output, Nat.le_trans hg1.size hg3.size, fun j hj hne => (hg3.block j (Nat.lt_of_lt_of_le hj hg1.size) hne).trans (hg1.block j hj hne)⟩
  have hM3 : RdM w3 base R m vs vu vf vc s (s.fields ++ [fieldOf s k x]) := hr.mapTo hgW ⟨_, by rw [List.length_append]; exact hm3, by
    have h1 := bitsF_put hbf (F := fieldOf s k x) hk0 (show u8k (s.g.report % 256) by unfold u8k; omega) (n := B + P) (by rw [← hB, ← hPP]; show _ = bitsS s.fields k (s.g.report % 256) + s.g.size * s.g.count; rw [hrep])
    have e : kL (fieldOf s k x).kind (fieldOf s k x).report = kL k s.g.report := by show kL k (s.g.report % 256) = _; rw [hrep]
    rw [e] at h1
    exact h1⟩
  have hfr3 : Fr base R m w w3 := (Fr.kept hkW hb).trans ⟨hgW.os, hgW.tape, hgW.output, hgW.size, fun j h1 h2 h3 => hgW.block j (Nat.lt_of_lt_of_le h1 (Nat.le_trans hb hkW.size)) (fun e => h3 (by injection e)), fun j cs _ h2 h3 => (hgW.block j (heap_lt h3) (fun e => h2 (by injection e))).trans h3⟩
  have hG3 := (hgW.block G hGl (fun e => hGm (by injection e))).trans hG
  have hsl3 : Sl u32T w3 (fun g => w.heap.size ≤ g ∧ g < w3.heap.size ∧ g ≠ G) A' s.usages.length s.usages := hsl.keep (fun g hg => ⟨hg.1, Nat.lt_of_lt_of_le hg.2.1 hgW.size, hg.2.2⟩) (fun b o hb1 => World.cell?_of_block (a := ⟨b, o, none⟩) (hgW.block b hb1.2.1 (fun e => by injection e with e; have h4 := hb1.1; omega)))
  have Hfin := hide (show _ ∧ _ ∧ _ ∧ _ ∧ _ ∧ _ ∧ _ ∧ _ ∧ _ ∧ _ ∧ _ from ⟨hM3, hfr3, hb, hold, c6, hs.usages.1, hP, hF, hG3, hGw, hsl3⟩)
  have c11 : W.cell? ⟨R, 11, none⟩ = some (.map (some m)) := cell_heap hr.box (o := 11) rfl
  have k0 : W.cell? ⟨kb, 0, none⟩ = some (.int .u8 k) := cell_heap hkb (o := 0) rfl
  have k1 : W.cell? ⟨kb, 1, none⟩ = some (.int .u8 s.g.report) := cell_heap hkb (o := 1) rfl
  have g6 : W.cell? ⟨G, 6, none⟩ = some (.int .i64 s.g.size) := cell_heap hG (o := 6) rfl
  have g7 : W.cell? ⟨G, 7, none⟩ = some (.int .i64 s.g.count) := cell_heap hG (o := 7) rfl
  have hS1 : ∀ b o, b < W.heap.size → ¬ b = m → w1.cell? ⟨b, o, none⟩ = W.cell? ⟨b, o, none⟩ := fun b o h1 h2 => World.cell?_of_block (a := ⟨b, o, none⟩) (hg1.block b h1 (fun e => h2 (by injection e)))
  have hS3 : ∀ b o, b < W.heap.size → ¬ b = m → w3.cell? ⟨b, o, none⟩ = W.cell? ⟨b, o, none⟩ := fun b o h1 h2 => World.cell?_of_block (a := ⟨b, o, none⟩) (hgW.block b h1 (fun e => h2 (by injection e)))
  have HS1 := hide hS1
  have HS3 := hide hS3
  clear hS1 hS3 hsl3 hG3 hfr3 hM3 hgW hs3 he hg1 hg3 hm3 hst hr hb hkW hold hs hk0 hkb hB hb1 hb2 hb4 hG hGw hsl hP hF hno hmap hbf hkey hP1 c5 c6 hPP hb0 hrp hrep
  refine wp_region_held_named (ops' := opsP) (n := 15) (S := fun w' => (∀ b o, b < W.heap.size → ¬ b = m → w'.cell? ⟨b, o, none⟩ = W.cell? ⟨b, o, none⟩) ∧ True) (by kernel_rfl) (by kernel_rfl) (by kernel_rfl) ⟨fun _ _ _ _ => rfl, trivial⟩ (fun hS => ?_)
  have ho : opsP[0]? = some (opAt opsP 0) := by kernel_rfl
  conv at ho => rhs; arg 1; whnf
  refine wpAnyH_take (i := 0) (v := ?_) ho (by kernel_rfl) (by kernel_rfl) (by kernel_rfl) (fun _ _ _ h => h) (Or.inl ⟨by kernel_rfl, ?_⟩) hS ?_
  clear ho
  rotate_left
  · intro w' hS'
    have hq := hS'.1
    have hq2 := hS'.2
    clear hS'
    first | (go_simp; done) | (go_simp; with_reducible rfl)
  try clear ho
  try simp only [Act.put, List.getElem_toArray, List.getElem_cons_zero, List.getElem_cons_succ, List.setIfInBounds_toArray, List.set_cons_zero, List.set_cons_succ]
  have ho : opsP[1]? = some (opAt opsP 1) := by kernel_rfl
  conv at ho => rhs; arg 1; whnf
  refine wpAnyH_take (i := 1) (v := ?_) ho (by kernel_rfl) (by kernel_rfl) (by kernel_rfl) (fun _ _ _ h => h) (Or.inl ⟨by kernel_rfl, ?_⟩) hS ?_
  clear ho
  rotate_left
  · intro w' hS'
    have hq := hS'.1
    have hq2 := hS'.2
    clear hS'
    first | (go_simp; done) | (go_simp; with_reducible rfl)
  try clear ho
  try simp only [Act.put, List.getElem_toArray, List.getElem_cons_zero, List.getElem_cons_succ, List.setIfInBounds_toArray, List.set_cons_zero, List.set_cons_succ]
  have ho : opsP[2]? = some (opAt opsP 2) := by kernel_rfl
  conv at ho => rhs; arg 1; whnf
  refine wpAnyH_take (i := 2) (v := ?_) ho (by kernel_rfl) (by kernel_rfl) (by kernel_rfl) (fun _ _ _ h => h) (Or.inl ⟨by kernel_rfl, ?_⟩) hS ?_
  clear ho
  rotate_left
  · intro w' hS'
    have hq := hS'.1
    have hq2 := hS'.2
    clear hS'
    first | (go_simp; done) | (go_simp; with_reducible rfl)
  try clear ho
  try simp only [Act.put, List.getElem_toArray, List.getElem_cons_zero, List.getElem_cons_succ, List.setIfInBounds_toArray, List.set_cons_zero, List.set_cons_succ]
  have ho : opsP[3]? = some (opAt opsP 3) := by kernel_rfl
  conv at ho => rhs; arg 1; whnf
  refine wpAnyH_take (i := 3) (v := ?_) ho (by kernel_rfl) (by kernel_rfl) (by kernel_rfl) (fun _ _ _ h => h) (Or.inl ⟨by kernel_rfl, ?_⟩) hS ?_
  clear ho
  rotate_left
  · intro w' hS'
    have hq := hS'.1
    have hq2 := hS'.2
    clear hS'
    first | (go_simp; done) | (go_simp; with_reducible rfl)
  try clear ho
  try simp only [Act.put, List.getElem_toArray, List.getElem_cons_zero, List.getElem_cons_succ, List.setIfInBounds_toArray, List.set_cons_zero, List.set_cons_succ]
  have ho : opsP[4]? = some (opAt opsP 4) := by kernel_rfl
  conv at ho => rhs; arg 1; whnf
  refine wpAnyH_take (i := 4) (v := ?_) ho (by kernel_rfl) (by kernel_rfl) (by kernel_rfl) (fun _ _ _ h => h) (Or.inl ⟨by kernel_rfl, ?_⟩) hS ?_
  clear ho
  rotate_left
  · intro w' hS'
    have hq := hS'.1
    have hq2 := hS'.2
    clear hS'
    first | (go_simp; done) | (go_simp; with_reducible rfl)
  try clear ho
  try simp only [Act.put, List.getElem_toArray, List.getElem_cons_zero, List.getElem_cons_succ, List.setIfInBounds_toArray, List.set_cons_zero, List.set_cons_succ]
  have ho : opsP[6]? = some (opAt opsP 6) := by kernel_rfl
  conv at ho => rhs; arg 1; whnf
  refine wpAnyH_take (i := 6) (v := ?_) ho (by kernel_rfl) (by kernel_rfl) (by kernel_rfl) (fun _ _ _ h => h) (Or.inl ⟨by kernel_rfl, ?_⟩) hS ?_
  clear ho
  rotate_left
  · intro w' hS'
    have hq := hS'.1
    have hq2 := hS'.2
    clear hS'
    first | (go_simp; done) | (go_simp; with_reducible rfl)
  try clear ho
  try simp only [Act.put, List.getElem_toArray, List.getElem_cons_zero, List.getElem_cons_succ, List.setIfInBounds_toArray, List.set_cons_zero, List.set_cons_succ]
  have ho : opsP[7]? = some (opAt opsP 7) := by kernel_rfl
  conv at ho => rhs; arg 1; whnf
  refine wpAnyH_take (i := 7) (v := ?_) ho (by kernel_rfl) (by kernel_rfl) (by kernel_rfl) (fun _ _ _ h => h) (Or.inl ⟨by kernel_rfl, ?_⟩) hS ?_
  clear ho
  rotate_left
  · intro w' hS'
    have hq := hS'.1
    have hq2 := hS'.2
    clear hS'
    first | (go_simp; done) | (go_simp; with_reducible rfl)
  try clear ho
  try simp only [Act.put, List.getElem_toArray, List.getElem_cons_zero, List.getElem_cons_succ, List.setIfInBounds_toArray, List.set_cons_zero, List.set_cons_succ]
  have ho : opsP[8]? = some (opAt opsP 8) := by kernel_rfl
  conv at ho => rhs; arg 1; whnf
  refine wpAnyH_take (i := 8) (v := ?_) ho (by kernel_rfl) (by kernel_rfl) (by kernel_rfl) (fun _ _ _ h => h) (Or.inl ⟨by kernel_rfl, ?_⟩) hS ?_
  clear ho
  rotate_left
  · intro w' hS'
    have hq := hS'.1
    have hq2 := hS'.2
    clear hS'
    first | (go_simp; done) | (go_simp; with_reducible rfl)
  try clear ho
  try simp only [Act.put, List.getElem_toArray, List.getElem_cons_zero, List.getElem_cons_succ, List.setIfInBounds_toArray, List.set_cons_zero, List.set_cons_succ]
  have ho : opsP[9]? = some (opAt opsP 9) := by kernel_rfl
  conv at ho => rhs; arg 1; whnf
  refine wpAnyH_take (i := 9) (v := ?_) ho (by kernel_rfl) (by kernel_rfl) (by kernel_rfl) (fun _ _ _ h => h) (Or.inl ⟨by kernel_rfl, ?_⟩) hS ?_
  clear ho
  rotate_left
  · intro w' hS'
    have hq := hS'.1
    have hq2 := hS'.2
    clear hS'
    first | (go_simp; done) | (go_simp; with_reducible rfl)
  try clear ho
  try simp only [Act.put, List.getElem_toArray, List.getElem_cons_zero, List.getElem_cons_succ, List.setIfInBounds_toArray, List.set_cons_zero, List.set_cons_succ]
  have ho : opsP[10]? = some (opAt opsP 10) := by kernel_rfl
  conv at ho => rhs; arg 1; whnf
  refine wpAnyH_take (i := 10) (v := ?_) ho (by kernel_rfl) (by kernel_rfl) (by kernel_rfl) (fun _ _ _ h => h) (Or.inl ⟨by kernel_rfl, ?_⟩) hS ?_
  clear ho
  rotate_left
  · intro w' hS'
    have hq := hS'.1
    have hq2 := hS'.2
    clear hS'
    first | (go_simp; done) | (go_simp; with_reducible rfl)
  try clear ho
  try simp only [Act.put, List.getElem_toArray, List.getElem_cons_zero, List.getElem_cons_succ, List.setIfInBounds_toArray, List.set_cons_zero, List.set_cons_succ]
  have ho5 : opsP[5]? = some (opAt opsP 5) := by kernel_rfl
  conv at ho5 => rhs; arg 1; whnf
  have ho12 : opsP[12]? = some (opAt opsP 12) := by kernel_rfl
  conv at ho12 => rhs; arg 1; whnf
  refine wpAnyH_ready (rs := [5, 12]) (by kernel_rfl) (by simp) ?_
  refine (AllReadyH.cons ho5 (fun K hK => ?_) (AllReadyH.cons ho12 (fun K hK => ?_) AllReadyH.nil))
  all_goals clear ho5 ho12
  · go_simp
    try dsimp only
    refine hK.out _ _ ?_ (fun hS => ?_)
    · exact hS
    clear hK K
    try simp only [Act.put, List.getElem_toArray, List.getElem_cons_zero, List.getElem_cons_succ, List.setIfInBounds_toArray, List.set_cons_zero, List.set_cons_succ]
    have ho : opsP[11]? = some (opAt opsP 11) := by kernel_rfl
    conv at ho => rhs; arg 1; whnf
    refine wpAnyH_take (i := 11) (v := ?_) ho (by kernel_rfl) (by kernel_rfl) (by kernel_rfl) (fun _ _ _ h => h) (Or.inl ⟨by kernel_rfl, ?_⟩) hS ?_
    clear ho
    rotate_left
    · intro w' hS'
      have hq := hS'.1
      have hq2 := hS'.2
      clear hS'
      first | (go_simp; done) | (go_simp; with_reducible rfl)
    try clear ho
    try simp only [Act.put, List.getElem_toArray, List.getElem_cons_zero, List.getElem_cons_succ, List.setIfInBounds_toArray, List.set_cons_zero, List.set_cons_succ]
    have ho12 : opsP[12]? = some (opAt opsP 12) := by kernel_rfl
    conv at ho12 => rhs; arg 1; whnf
    refine wpAnyH_ready (rs := [12]) (by kernel_rfl) (by simp) ?_
    refine (AllReadyH.cons ho12 (fun K hK => ?_) AllReadyH.nil)
    all_goals clear ho12
    go_simp
    try dsimp only
    refine hK.out _ _ ?_ (fun hS => ?_)
    · exact ⟨HS1.out, trivial⟩
    clear hK K
    try simp only [Act.put, List.getElem_toArray, List.getElem_cons_zero, List.getElem_cons_succ, List.setIfInBounds_toArray, List.set_cons_zero, List.set_cons_succ]
    have ho : opsP[13]? = some (opAt opsP 13) := by kernel_rfl
    conv at ho => rhs; arg 1; whnf
    refine wpAnyH_take (i := 13) (v := ?_) ho (by kernel_rfl) (by kernel_rfl) (by kernel_rfl) (fun _ _ _ h => h) (Or.inl ⟨by kernel_rfl, ?_⟩) hS ?_
    clear ho
    rotate_left
    · intro w' hS'
      have hq := hS'.1
      have hq2 := hS'.2
      clear hS'
      first | (go_simp; done) | (go_simp; with_reducible rfl)
    try clear ho
    try simp only [Act.put, List.getElem_toArray, List.getElem_cons_zero, List.getElem_cons_succ, List.setIfInBounds_toArray, List.set_cons_zero, List.set_cons_succ]
    have ho14 : opsP[14]? = some (opAt opsP 14) := by kernel_rfl
    conv at ho14 => rhs; arg 1; whnf
    refine wpAnyH_ready (rs := [14]) (by kernel_rfl) (by simp) ?_
    refine (AllReadyH.cons ho14 (fun K hK => ?_) AllReadyH.nil)
    all_goals clear ho14
    go_simp
    try dsimp only
    refine hK.out _ _ ?_ (fun hS => ?_)
    · exact ⟨HS3.out, trivial⟩
    clear hK K
    try simp only [Act.put, List.getElem_toArray, List.getElem_cons_zero, List.getElem_cons_succ, List.setIfInBounds_toArray, List.set_cons_zero, List.set_cons_succ]
    refine wpAnyH_done (by kernel_rfl) ?_ _
    refine hK0 _ _ ?_
    obtain ⟨z1, z2, z3, z4, z5, z6, z7, z8, z9, z10, z11⟩ := Hfin.out
    exact field_app (G := G) k x z1 z2 z3 z4 z5 z6 z7 z8 z9 z10 z11
  · go_simp
    try dsimp only
    refine hK.out _ _ ?_ (fun hS => ?_)
    · exact ⟨HS1.out, trivial⟩
    clear hK K
    try simp only [Act.put, List.getElem_toArray, List.getElem_cons_zero, List.getElem_cons_succ, List.setIfInBounds_toArray, List.set_cons_zero, List.set_cons_succ]
    have ho : opsP[13]? = some (opAt opsP 13) := by kernel_rfl
    conv at ho => rhs; arg 1; whnf
    refine wpAnyH_take (i := 13) (v := ?_) ho (by kernel_rfl) (by kernel_rfl) (by kernel_rfl) (fun _ _ _ h => h) (Or.inl ⟨by kernel_rfl, ?_⟩) hS ?_
    clear ho
    rotate_left
    · intro w' hS'
      have hq := hS'.1
      have hq2 := hS'.2
      clear hS'
      first | (go_simp; done) | (go_simp; with_reducible rfl)
    try clear ho
    try simp only [Act.put, List.getElem_toArray, List.getElem_cons_zero, List.getElem_cons_succ, List.setIfInBounds_toArray, List.set_cons_zero, List.set_cons_succ]
    have ho5 : opsP[5]? = some (opAt opsP 5) := by kernel_rfl
    conv at ho5 => rhs; arg 1; whnf
    refine wpAnyH_ready (rs := [5]) (by kernel_rfl) (by simp) ?_
    refine (AllReadyH.cons ho5 (fun K hK => ?_) AllReadyH.nil)
    all_goals clear ho5
    go_simp
    try dsimp only
    refine hK.out _ _ ?_ (fun hS => ?_)
    · exact hS
    clear hK K
    try simp only [Act.put, List.getElem_toArray, List.getElem_cons_zero, List.getElem_cons_succ, List.setIfInBounds_toArray, List.set_cons_zero, List.set_cons_succ]
    have ho : opsP[11]? = some (opAt opsP 11) := by kernel_rfl
    conv at ho => rhs; arg 1; whnf
    refine wpAnyH_take (i := 11) (v := ?_) ho (by kernel_rfl) (by kernel_rfl) (by kernel_rfl) (fun _ _ _ h => h) (Or.inl ⟨by kernel_rfl, ?_⟩) hS ?_
    clear ho
    rotate_left
    · intro w' hS'
      have hq := hS'.1
      have hq2 := hS'.2
      clear hS'
      first | (go_simp; done) | (go_simp; with_reducible rfl)
    try clear ho
    try simp only [Act.put, List.getElem_toArray, List.getElem_cons_zero, List.getElem_cons_succ, List.setIfInBounds_toArray, List.set_cons_zero, List.set_cons_succ]
    have ho14 : opsP[14]? = some (opAt opsP 14) := by kernel_rfl
    conv at ho14 => rhs; arg 1; whnf
    refine wpAnyH_ready (rs := [14]) (by kernel_rfl) (by simp) ?_
    refine (AllReadyH.cons ho14 (fun K hK => ?_) AllReadyH.nil)
    all_goals clear ho14
    go_simp
    try dsimp only
    refine hK.out _ _ ?_ (fun hS => ?_)
    · exact ⟨HS3.out, trivial⟩
    clear hK K
    try simp only [Act.put, List.getElem_toArray, List.getElem_cons_zero, List.getElem_cons_succ, List.setIfInBounds_toArray, List.set_cons_zero, List.set_cons_succ]
    refine wpAnyH_done (by kernel_rfl) ?_ _
    refine hK0 _ _ ?_
    obtain ⟨z1, z2, z3, z4, z5, z6, z7, z8, z9, z10, z11⟩ := Hfin.out
    exact field_app (G := G) k x z1 z2 z3 z4 z5 z6 z7 z8 z9 z10 z11
end Go.Proofs.Ytegdigfcgeoboaa
/- The reader's field: its test. Printed by gen_f.py. -/
namespace Go.Proofs.Ytegdigfcgeoboaa
open Go.RowKit Go.Maps
attribute [local go_sem ↓] Go.wp_at_zero Go.wp_at_succ

set_option maxRecDepth 1000000 in
set_option maxHeartbeats 16000000 in
theorem field_tail {u2 u3 u4 u6 u9 u10 u11 u12 u13 u14 u15 u16 u17 u18 u19 u20 u21 u22 u23 u24 u25 u26 u27 u28 u29 u30 u31 u32 u33 u34 u35 u36 u37 u38 u39 u40 u41 u42 u43 u44 u45 u46 u47 u48 u49 u50 u51 u52 u53 u54 u55 u56 u57 u58 u59 u60 u61 u62 u63 u64 u65 u66 u67 u68 u69 u70 u71 u72 u73 u74 u75 u76 u77 u78 u79 u80 u81 u82 u83 u84 u85 u86 u87 u88 u89 u90 u91 u92 u93 u94 u95 u96 u97 u98 u99 u100 u101 u102 u103 u104 u105 u106 u107 u108 u109 u110 u111 u112 u113 u114 u115 u116 u117 u118 u119 u120 u121 u122 u123 u124 u125 u126 u127 u128 u129 u130 u131 u132 u133 u134 u135 u136 u137 u138 u139 u140 u141 u142 u143 u144 u145 u146 u147 u148 u149 u150 u151 u152 u153 u154 u155 u156 u157 u158 u159 u160 u161 u162 u163 u164 u165 u166 u167 u168 u169 u170 u171 u172 u173 u174 u175 u176 u177 u178 u179 u180 u181 u182 u183 u184 u185 u186 u187 u188 : Value} {w W : World} {base R m ib kb G : Nat} {vs vu vf vc : Value} {s : RS} (hr : Rd W base R m vs vu vf vc s) (hb : base ≤ w.heap.size) (hkW : Kept w W) (hold : OldB w vs vu vf vc) (hs : s.Fine) (k : Int) (hk0 : 1 ≤ k ∧ k ≤ 3) (x : It)
    (c1 : 1 ≤ s.g.size) (c2 : s.g.size ≤ 32) (c3 : 1 ≤ s.g.count) (c4 : s.g.count ≤ 256) (c5 : bitsS s.fields k s.g.report + s.g.size * s.g.count ≤ 4096) (c6 : s.fields.length < 256)
    (hkb : W.heap[kb]? = some (.cells #[.int .u8 k, .int .u8 s.g.report] 90 (0, 0))) {B : Int} {b1 b2 b4 : Bool} {A' : Option Addr} (hB : bitsS s.fields k s.g.report = B) (hb1 : (x.data % 2 == 1) = b1) (hb2 : (x.data / 2 % 2 == 0) = b2) (hb4 : (x.data / 4 % 2 == 1) = b4)
    (hG : W.heap[G]? = some (.cells #[.int .u8 k, .int .u8 s.g.report, .int .i64 s.opn, .slice A' s.usages.length s.usages.length, .int .i64 s.g.lo, .int .i64 s.g.hi, .int .i64 s.g.size, .int .i64 s.g.count, .int .i64 B, .bool b1, .bool b2, .bool (decide (s.g.lo < 0)), .bool b4] 59 (0, 0))) (hGw : w.heap.size ≤ G) (hsl : Sl u32T W (fun g => w.heap.size ≤ g ∧ g < W.heap.size ∧ g ≠ G) A' s.usages.length s.usages) (c : 0 ≤ s.opn) :
    Code.wp Try.prog (restC codeM) (bodyPost Try.prog Try.f60 (Did base R m w (fieldS s k x))) ⟨#[.pointer (some ⟨R, 0, none⟩), .int .u8 k, u2, u3, u4, .pointer (some ⟨ib, 0, none⟩), u6, .pointer (some ⟨kb, 0, none⟩), .pointer (some ⟨G, 0, none⟩), u9, u10, u11, u12, u13, u14, u15, u16, u17, u18, u19, u20, u21, u22, u23, u24, u25, u26, u27, u28, u29, u30, u31, u32, u33, u34, u35, u36, u37, u38, u39, u40, u41, u42, u43, u44, u45, u46, u47, u48, u49, u50, u51, u52, u53, u54, u55, u56, u57, u58, u59, u60, u61, u62, u63, u64, u65, u66, u67, u68, u69, u70, u71, u72, u73, u74, u75, u76, u77, u78, u79, u80, u81, u82, u83, u84, u85, u86, u87, u88, u89, u90, u91, u92, u93, u94, u95, u96, u97, u98, u99, u100, u101, u102, u103, u104, u105, u106, u107, u108, u109, u110, u111, u112, u113, u114, u115, u116, u117, u118, u119, u120, u121, u122, u123, u124, u125, u126, u127, u128, u129, u130, u131, u132, u133, u134, u135, u136, u137, u138, u139, u140, u141, u142, u143, u144, u145, u146, u147, u148, u149, u150, u151, u152, u153, u154, u155, u156, u157, u158, u159, u160, u161, u162, u163, u164, u165, u166, u167, u168, u169, u170, u171, u172, u173, u174, u175, u176, u177, u178, u179, u180, u181, u182, u183, u184, u185, u186, u187, u188], []⟩ W := by
  have hrp := hs.report
  have hrep : s.g.report % 256 = s.g.report := by omega
  have hE : fieldS s k x = if ¬ (x.data % 2 = 1) ∧ (fitsS s.g.lo s.g.hi s.g.size.toNat = false ∨ s.usages = []) then (4, s) else (0, { s with fields := s.fields ++ [fieldOf s k x] }) := by
    unfold fieldS
    rw [if_neg (by omega), hrep, if_neg (by omega)]
  have hF : (fieldOf s k x).cells A' = [.int .u8 k, .int .u8 s.g.report, .int .i64 s.opn, .slice A' s.usages.length s.usages.length, .int .i64 s.g.lo, .int .i64 s.g.hi, .int .i64 s.g.size, .int .i64 s.g.count, .int .i64 B, .bool b1, .bool b2, .bool (decide (s.g.lo < 0)), .bool b4] := by
    simp only [Fd.cells, fieldOf, hrep, hB, hb1, hb2, hb4]
  obtain ⟨fb, hfb⟩ : ∃ fb, fitsS s.g.lo s.g.hi s.g.size.toNat = fb := ⟨_, rfl⟩
  have hfits : ∀ w' : World, Calls Try.prog 77 #[.agg #[.int .u8 k, .int .u8 s.g.report, .int .i64 s.opn, .slice A' s.usages.length s.usages.length, .int .i64 s.g.lo, .int .i64 s.g.hi, .int .i64 s.g.size, .int .i64 s.g.count, .int .i64 B, .bool b1, .bool b2, .bool (decide (s.g.lo < 0)), .bool b4]] w' fun e w'' => e = .returned (.bool fb) ∧ Kept w' w'' := by
    intro w'
    have h1 := fits_any (fieldOf s k x) A' s.g.size.toNat (by show s.g.size = _; omega) (by omega) (by omega) hs.lo hs.hi w'
    rw [hF] at h1
    rw [← hfb]
    exact h1
  have hGl := heap_lt hG
  have hul := hs.usages.1
  have g0 := cell_heap hG (o := 0) rfl
  have g1 := cell_heap hG (o := 1) rfl
  have g2 := cell_heap hG (o := 2) rfl
  have g3 := cell_heap hG (o := 3) rfl
  have g4 := cell_heap hG (o := 4) rfl
  have g5 := cell_heap hG (o := 5) rfl
  have g6 := cell_heap hG (o := 6) rfl
  have g7 := cell_heap hG (o := 7) rfl
  have g8 := cell_heap hG (o := 8) rfl
  have g9 := cell_heap hG (o := 9) rfl
  have g10 := cell_heap hG (o := 10) rfl
  have g11 := cell_heap hG (o := 11) rfl
  have g12 := cell_heap hG (o := 12) rfl
  have Hr := hide hr
  have Hb := hide hb
  have HkW := hide hkW
  have Hold := hide hold
  have Hs := hide hs
  have Hk0 := hide hk0
  have C5 := hide c5
  have Hkb := hide hkb
  have HB := hide hB
  have Hb1 := hide hb1
  have Hb2 := hide hb2
  have Hb4 := hide hb4
  have HG := hide hG
  have HGw := hide hGw
  have Hsl := hide hsl
  have HE := hide hE
  have Hfb := hide hfb
  clear hr hb hkW hold hs hk0 c5 hkb hB hb1 hb2 hb4 hG hGw hsl hE hfb hF hrp hrep
  cases b1 with
  | true =>
    have hP : fieldS s k x = (0, { s with fields := s.fields ++ [fieldOf s k x] }) := by
      rw [HE.out, if_neg (fun h => h.1 (by simpa using Hb1.out))]
    have HP := hide hP
    clear hP
    conv => arg 2; whnf
    dsimp only
    go_upto_region 9 with (fail)
    refine field_put Hr.out Hb.out HkW.out Hold.out Hs.out k Hk0.out x c1 c2 c3 c4 C5.out c6 Hkb.out HB.out Hb1.out Hb2.out Hb4.out HG.out HGw.out Hsl.out HP.out _ ?_
    assumption
  | false =>
    have hx : ¬ (x.data % 2 = 1) := by simpa using Hb1.out
    have Hx := hide hx
    clear hx
    cases fb with
    | false =>
      have hP : fieldS s k x = (4, s) := by rw [HE.out, if_pos ⟨Hx.out, .inl Hfb.out⟩]
      rw [hP]
      clear hP
      conv => arg 2; whnf
      dsimp only
      go_wp2_with fail
      go_at_call 77
      with_reducible refine (hfits _).mono ?_
      rintro e w1 ⟨rfl, hk⟩
      go_wp2_with fail
      go_ret
      exact ⟨rfl, Fr.kept (HkW.out.trans' hk) Hb.out, fun e => by cases e⟩
    | true =>
      by_cases hu0 : s.usages.length = 0
      · have hP : fieldS s k x = (4, s) := by rw [HE.out, if_pos ⟨Hx.out, .inr (List.eq_nil_of_length_eq_zero hu0)⟩]
        rw [hP]
        have Hui := hide (show (s.usages.length : Int) = 0 by omega)
        clear hP hu0
        conv => arg 2; whnf
        dsimp only
        go_wp2_with fail
        go_at_call 77
        with_reducible refine (hfits _).mono ?_
        rintro e w1 ⟨rfl, hk⟩
        have g3' := cell_heap (heap_kept hk HG.out) (o := 3) rfl
        have hGl' := heap_lt (heap_kept hk HG.out)
        have hui := Hui.out
        go_wp2_with fail
        go_ret
        exact ⟨rfl, Fr.kept (HkW.out.trans' hk) Hb.out, fun e => by cases e⟩
      · have hP : fieldS s k x = (0, { s with fields := s.fields ++ [fieldOf s k x] }) := by
          rw [HE.out, if_neg]
          rintro ⟨_, h | h⟩
          · rw [Hfb.out] at h; cases h
          · exact hu0 (by rw [h]; rfl)
        have HP := hide hP
        clear hP
        have hui : ((s.usages.length : Int) == 0) = false := beq_eq_false_iff_ne.2 (by omega)
        have hui2 : ¬ (s.usages.length : Int) = 0 := by omega
        conv => arg 2; whnf
        dsimp only
        go_upto_region 9 with ((go_at_call 77; with_reducible refine (hfits _).mono ?_; rintro e w1 ⟨rfl, hk⟩; have g3' := cell_heap (heap_kept hk HG.out) (o := 3) rfl; have hGl' := heap_lt (heap_kept hk HG.out)))
        refine field_put (Hr.out.kept hk) Hb.out (HkW.out.trans' hk) Hold.out Hs.out k Hk0.out x c1 c2 c3 c4 C5.out c6 (heap_kept hk Hkb.out) HB.out Hb1.out Hb2.out Hb4.out (heap_kept hk HG.out) HGw.out (Hsl.out.keep (fun g hg => ⟨hg.1, Nat.lt_of_lt_of_le hg.2.1 hk.size, hg.2.2⟩) (fun b o hb => hk.cell (p := ⟨b, o, none⟩) hb.2.1)) HP.out _ ?_
        assumption
end Go.Proofs.Ytegdigfcgeoboaa
