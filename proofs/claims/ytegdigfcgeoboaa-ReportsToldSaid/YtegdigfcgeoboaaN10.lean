/- Parse, its parts. -/
import Derived.Test.YtegdigfcgeoboaaChecked
import Derived.Deep.RegionHeld3
import Derived.Deep.DrawnRows
import Derived.Deep.DeepCutAuto
import Derived.Deep.LoopGhost
import Derived.Outline
import Derived.Handy
import Derived.OwnWalk
import Derived.Test.YtegdigfcgeoboaaN6
import Derived.Test.YtegdigfcgeoboaaN2
import Derived.Test.YtegdigfcgeoboaaN4
import Derived.Test.YtegdigfcgeoboaaN9
import Derived.Test.YtegdigfcgeoboaaSeK
set_option linter.unusedVariables false
set_option linter.unusedSimpArgs false
set_option linter.unusedSectionVars false
/- Whether a field has the report 0; Clip of fields and collections. -/
namespace Go.Proofs.Ytegdigfcgeoboaa
open Go.RowKit
attribute [local go_sem ↓] Go.wp_at_zero Go.wp_at_succ

set_option maxRecDepth 100000 in
theorem zero_any (f : Fd) (A : Option Addr) (w : World) : Calls Try.prog 30 #[.agg (f.cells A).toArray] w fun e w' => e = .returned (.bool (f.report == 0)) ∧ Kept w w' := by
  unfold Fd.cells
  go_enter Try.func30, Try.ntmps30
  go_wp2_with fail
  go_ret
  exact ⟨rfl, by go_grown⟩
theorem clip31 (A : Option Addr) (n c : Nat) (hn : n ≤ c) (hc : c ≤ maxLen) (w : World) : Calls Try.prog 31 #[.slice A n c] w fun e w' => e = .returned (.slice A n n) ∧ w = w' := by
  unfold maxLen at hc
  go_enter Try.func31, Try.ntmps31
  go_wp2
  go_ret
  exact ⟨rfl, rfl⟩
theorem clip32 (A : Option Addr) (n c : Nat) (hn : n ≤ c) (hc : c ≤ maxLen) (w : World) : Calls Try.prog 32 #[.slice A n c] w fun e w' => e = .returned (.slice A n n) ∧ w = w' := by
  unfold maxLen at hc
  go_enter Try.func32, Try.ntmps32
  go_wp2
  go_ret
  exact ⟨rfl, rfl⟩
set_option maxRecDepth 100000 in
set_option maxHeartbeats 1000000 in
theorem index56 (A : Option Addr) (n c : Nat) (l : List Fd) (w : World) (hn : n ≤ 256) (hl : Sl fdT w (low w.heap.size) A n l) :
    Calls Try.prog 56 #[.slice A n c, .func (.func 30) #[] #[]] w fun e w' => (∃ i : Int, e = .returned (.int .i64 i) ∧ decide (0 ≤ i) = l.any (fun f => f.report == 0)) ∧ Kept w w' := by
  go_enter Try.func56, Try.ntmps56
  go_wp2_with fail
  go_loopg [8] n (fun g s8 wr => ∃ i : Nat, i + g = n ∧ s8 = .int .i64 i ∧ Kept w wr ∧ ∀ j f, j < i → l[j]? = some f → (f.report == 0) = false)
  case atStart => exact ⟨0, by omega, rfl, Below.refl _ _, fun j f hj => by omega⟩
  case round =>
    obtain ⟨i, hi, rfl, hk, hno⟩ := hrel
    have Hno := hide hno
    have Hi := hide hi
    clear hno hi
    by_cases hlt : i < n
    · obtain ⟨f, b, off, cs, hf, rfl, hbb, ⟨A', rfl, hul, _⟩, hcs⟩ := (hl.kept hk).at hlt
      have hcs' : ∀ (j : Nat) v, (f.cells A')[j]? = some v → wr.cell? ⟨b, off + i * 13 + j, none⟩ = some v := fun j v h => hcs j v h
      have x0 : wr.cell? ⟨b, off + i * 13, none⟩ = _ := hcs' 0 _ rfl
      have x1 := hcs' 1 _ rfl
      have x2 := hcs' 2 _ rfl
      have x3 := hcs' 3 _ rfl
      have x4 := hcs' 4 _ rfl
      have x5 := hcs' 5 _ rfl
      have x6 := hcs' 6 _ rfl
      have x7 := hcs' 7 _ rfl
      have x8 := hcs' 8 _ rfl
      have x9 := hcs' 9 _ rfl
      have x10 := hcs' 10 _ rfl
      have x11 := hcs' 11 _ rfl
      have x12 := hcs' 12 _ rfl
      have hbl : b < wr.heap.size := hbb
      have hz := fun w' => zero_any f A' w'
      unfold Fd.cells at hz
      have hi0 : (0 : Int) ≤ (i : Int) := by omega
      have hlt' : (i : Int) < (n : Int) := by omega
      have Hf := hide hf
      clear hcs hcs' hf
      by_cases hr : (f.report == 0) = true
      · rw [hr] at hz
        go_wp2_with (go_at_call 30; refine (hz _).mono ?_; rintro e w1 ⟨rfl, hk1⟩)
        go_ret
        refine ⟨⟨i, rfl, ?_⟩, hk.trans' hk1⟩
        rw [show l.any (fun f => f.report == 0) = true from List.any_eq_true.2 ⟨f, List.mem_of_getElem? Hf.out, hr⟩]
        simp
      · have hr' : (f.report == 0) = false := by simpa using hr
        rw [hr'] at hz
        go_wp2_with (go_at_call 30; refine (hz _).mono ?_; rintro e w1 ⟨rfl, hk1⟩)
        go_roundg (gk - 1)
        case measure => have := Hi.out; omega
        case rel =>
          refine ⟨i + 1, by have := Hi.out; omega, by go_num, hk.trans' hk1, fun j g hj hg => ?_⟩
          by_cases e : j = i
          · subst e
            rw [Hf.out] at hg
            injection hg with hg
            subst hg
            exact hr'
          · exact Hno.out j g (by omega) hg
    · have hge : (n : Int) ≤ (i : Int) := by omega
      go_wp2_with fail
      go_ret
      refine ⟨⟨-1, rfl, ?_⟩, hk⟩
      have e : l.any (fun f => f.report == 0) = false := by
        rw [List.any_eq_false]
        intro f hf
        obtain ⟨j, hj, rfl⟩ := List.getElem_of_mem hf
        have hln := hl.1
        have hii := Hi.out
        simpa using Hno.out j l[j] (by omega) (List.getElem?_eq_getElem hj)
      rw [e]; rfl
set_option maxRecDepth 100000 in
theorem contains29 (A : Option Addr) (n c : Nat) (l : List Fd) (w : World) (hn : n ≤ 256) (hl : Sl fdT w (low w.heap.size) A n l) :
    Calls Try.prog 29 #[.slice A n c, .func (.func 30) #[] #[]] w fun e w' => e = .returned (.bool (l.any (fun f => f.report == 0))) ∧ Kept w w' := by
  have h56 := index56 A n c l w hn hl
  go_enter Try.func29, Try.ntmps29
  go_wp2_with (go_at_call 56; refine h56.mono ?_; rintro e w1 ⟨⟨i, rfl, hi⟩, hk⟩)
  go_ret
  exact ⟨rfl, hk⟩
end Go.Proofs.Ytegdigfcgeoboaa
/- Parse, from its last drawn region on. Printed by gen_q.py. -/
namespace Go.Proofs.Ytegdigfcgeoboaa
open Go.RowKit Go.Maps
attribute [local go_sem ↓] Go.wp_at_zero Go.wp_at_succ

noncomputable def codeE : Code := (Try.f14.body.bind (fromR 20)).getD .skip
noncomputable def opsE : Array Oper := opsOf (headC codeE)
theorem cell_five {W : World} {R D b o : Nat} {u1 u2 u3 u4 u5 : Value} (h2 : b ≠ R) (h3 : b ≠ D) : (((((W.setCell ⟨R, 12, none⟩ u1).setCell ⟨R, 13, none⟩ u2).setCell ⟨D, 0, none⟩ u3).setCell ⟨D, 1, none⟩ u4).setCell ⟨D, 2, none⟩ u5).drew.cell? ⟨b, o, none⟩ = W.cell? ⟨b, o, none⟩ := by
  have hR : ∀ (V : World) i u, (V.setCell ⟨R, i, none⟩ u).cell? ⟨b, o, none⟩ = V.cell? ⟨b, o, none⟩ := fun V i u => World.cell?_setCell_other _ _ _ _ (fun e => h2 (by have := congrArg Addr.block e; exact this.symm))
  have hD : ∀ (V : World) i u, (V.setCell ⟨D, i, none⟩ u).cell? ⟨b, o, none⟩ = V.cell? ⟨b, o, none⟩ := fun V i u => World.cell?_setCell_other _ _ _ _ (fun e => h3 (by have := congrArg Addr.block e; exact this.symm))
  rw [World.cell?_drew, hD, hD, hD, hR, hR]
/-- what Parse leaves -/
def ParsePost (w : World) (E : Int) (s : RS) (e : Ending) (w' : World) : Prop := Kept w w' ∧
  ((E ≠ 0 ∧ e = .returned (.tuple #[.agg #[.slice none 0 0, .slice none 0 0, .bool false], .int .i64 E])) ∨
   (E = 0 ∧ ∃ Af Ac, e = .returned (.tuple #[.agg #[.slice Af s.fields.length s.fields.length, .slice Ac s.colls.length s.colls.length, .bool s.numbered], .int .i64 0]) ∧ Sl fdT w' (low w'.heap.size) Af s.fields.length s.fields ∧ Sl coT w' (low w'.heap.size) Ac s.colls.length s.colls))
/-- usages do not lie in a block that holds something else -/
theorem sl_ne {w : World} {F : Nat → Prop} {A : Option Addr} {n D : Nat} {l : List Int} {a b c : Value} (h : Sl u32T w F A n l) (hD : w.heap[D]? = some (.cells #[a, b, c] 40 (0, 0))) (ha : ∀ x, a ≠ .int .u32 x) (hb : ∀ x, b ≠ .int .u32 x) (hc : ∀ x, c ≠ .int .u32 x) : Sl u32T w (fun g => F g ∧ g ≠ D) A n l := by
  refine ⟨h.1, fun i x hx => ?_⟩
  obtain ⟨g, off, cs, e, hg, ⟨rfl, hok⟩, hcs⟩ := h.2 i x hx
  refine ⟨g, off, _, e, ⟨hg, fun e2 => ?_⟩, ⟨rfl, hok⟩, hcs⟩
  subst e2
  have h1 : w.cell? ⟨g, off + i * 1, none⟩ = some (.int .u32 x) := hcs 0 _ rfl
  rw [cell_of_row _ _ _ _ _ _ hD] at h1
  generalize off + i * 1 = j at h1
  rcases j with _ | _ | _ | j
  · exact ha x (by simpa using h1)
  · exact hb x (by simpa using h1)
  · exact hc x (by simpa using h1)
  · simp at h1
theorem fields_read {w w' : World} {base R m D : Nat} {vs vu vf vc : Value} {s : RS} {A : Option Addr} {c : Nat} (h : Rd w base R m vs vu vf vc s) (hv : vf = .slice A s.fields.length c) (hD : w.heap[D]? = some (.cells #[.slice none 0 0, .slice none 0 0, .bool false] 40 (0, 0))) (hDb : D < base)
    (hsz : w.heap.size ≤ w'.heap.size) (hc : ∀ b o, b < w.heap.size → b ≠ R → b ≠ D → w'.cell? ⟨b, o, none⟩ = w.cell? ⟨b, o, none⟩) : Sl fdT w' (low w'.heap.size) A s.fields.length s.fields := by
  subst hv
  have h1 : Sl (fdT.on (Busy R m vs vu (.slice A s.fields.length c) vc)) w (fun b => b < w.heap.size ∧ b ≠ R ∧ b ≠ D) A s.fields.length s.fields := h.fs.sl_of _ (fun g h1 h2 => ⟨h2, by have := h.low.1; omega, by omega⟩) (fun f cs hr => by
    obtain ⟨A', e, hl, hs⟩ := hr
    exact ⟨A', e, hl, (sl_ne hs hD (fun x e => by cases e) (fun x e => by cases e) (fun x e => by cases e)).keep (fun g hg => ⟨⟨hg.1.1.1, hg.1.2.1, hg.2⟩, hg.1.2⟩) (fun _ _ _ => rfl)⟩)
  refine ⟨h1.1, fun i x hx => ?_⟩
  obtain ⟨b, off, cs, e, hb, ⟨A', e1, hl, hs⟩, hcs⟩ := h1.2 i x hx
  exact ⟨b, off, cs, e, Nat.lt_of_lt_of_le hb.1 hsz, ⟨A', e1, hl, hs.keep (fun g hg => Nat.lt_of_lt_of_le hg.1.1 hsz) (fun g o hg => hc g o hg.1.1 hg.1.2.1 hg.1.2.2)⟩, fun j v hv => (hc b _ hb.1 hb.2.1 hb.2.2).trans (hcs j v hv)⟩
theorem colls_read {w w' : World} {base R m D : Nat} {vs vu vf vc : Value} {s : RS} {A : Option Addr} {c : Nat} (h : Rd w base R m vs vu vf vc s) (hv : vc = .slice A s.colls.length c) (hDb : D < base)
    (hsz : w.heap.size ≤ w'.heap.size) (hc : ∀ b o, b < w.heap.size → b ≠ R → b ≠ D → w'.cell? ⟨b, o, none⟩ = w.cell? ⟨b, o, none⟩) : Sl coT w' (low w'.heap.size) A s.colls.length s.colls := by
  subst hv
  have h1 : Sl coT w (fun b => b < w.heap.size ∧ b ≠ R ∧ b ≠ D) A s.colls.length s.colls := h.cs.sl_of _ (fun g h1 h2 => ⟨h2, by have := h.low.1; omega, by omega⟩) (fun f cs hr => hr)
  exact h1.keep (fun g hg => Nat.lt_of_lt_of_le hg.1 hsz) (fun g o hg => hc g o hg.1 hg.2.1 hg.2.2)
set_option maxRecDepth 1000000 in
set_option maxHeartbeats 8000000 in
theorem parse_end {u0 u1 u3 u4 u5 u7 u8 u9 u10 u11 u12 u13 u14 u15 u16 u17 u18 u19 u20 u21 u22 u23 u24 u25 u26 u27 u28 u29 u30 u31 u32 u33 u34 u35 u36 u37 u38 u39 u40 u41 u42 u43 u44 u45 u46 u47 u48 u49 u50 u51 u52 u53 u54 u55 u56 u57 u58 u59 u60 u61 u62 u63 u64 u65 u66 u67 u68 u69 u70 u71 u72 u73 u74 u75 u76 u77 u78 u79 u80 u81 u82 u83 u84 u85 u86 u87 u88 u89 u90 u91 u92 u93 u94 u95 u96 u97 u98 u99 u100 u101 u102 u103 u104 u105 u106 u107 u108 u109 u110 u111 : Value} {w W : World} {base R m D : Nat} {vs vu vf vc : Value} {s : RS} (hr : Rd W base R m vs vu vf vc s) (hk : Kept w W) (hs : s.Fine) (hD : W.heap[D]? = some (.cells #[.slice none 0 0, .slice none 0 0, .bool false] 40 (0, 0))) (hDw : w.heap.size ≤ D) (hDR : D < R)
    (K0 : Act → World → Prop) (hK0 : ∀ a w', Code.wp Try.prog (restC codeE) (bodyPost Try.prog Try.f14 (ParsePost w 0 s)) a w' → K0 a w') :
    Code.wp Try.prog (headC codeE) (Exit.then K0 (bodyPost Try.prog Try.f14 (ParsePost w 0 s))) ⟨#[u0, u1, .pointer (some ⟨D, 0, none⟩), u3, u4, u5, .pointer (some ⟨R, 0, none⟩), u7, u8, u9, u10, u11, u12, u13, u14, u15, u16, u17, u18, u19, u20, u21, u22, u23, u24, u25, u26, u27, u28, u29, u30, u31, u32, u33, u34, u35, u36, u37, u38, u39, u40, u41, u42, u43, u44, u45, u46, u47, u48, u49, u50, u51, u52, u53, u54, u55, u56, u57, u58, u59, u60, u61, u62, u63, u64, u65, u66, u67, u68, u69, u70, u71, u72, u73, u74, u75, u76, u77, u78, u79, u80, u81, u82, u83, u84, u85, u86, u87, u88, u89, u90, u91, u92, u93, u94, u95, u96, u97, u98, u99, u100, u101, u102, u103, u104, u105, u106, u107, u108, u109, u110, u111], []⟩ W := by
  conv at hK0 => enter [a, w', 1, 2]; whnf
  obtain ⟨Af, cf, rfl, hf1, hf2⟩ := hr.fs.isSlice
  obtain ⟨Ac, cc, rfl, hc1, hc2⟩ := hr.cs.isSlice
  have hRl := heap_lt hr.box
  have hDl := heap_lt hD
  have hlow := hr.low
  have hRb := hlow.1
  have e12 : W.cell? ⟨R, 12, none⟩ = some (.slice Af s.fields.length cf) := cell_heap hr.box (o := 12) rfl
  have e13 : W.cell? ⟨R, 13, none⟩ = some (.slice Ac s.colls.length cc) := cell_heap hr.box (o := 13) rfl
  have e14 : W.cell? ⟨R, 14, none⟩ = some (.bool s.numbered) := cell_heap hr.box (o := 14) rfl
  have f12 := frozen_heap hr.box (o := 12)
  have f13 := frozen_heap hr.box (o := 13)
  have d0 : W.cell? ⟨D, 0, none⟩ = some (.slice none 0 0) := cell_heap hD (o := 0) rfl
  have d1 : W.cell? ⟨D, 1, none⟩ = some (.slice none 0 0) := cell_heap hD (o := 1) rfl
  have d2 : W.cell? ⟨D, 2, none⟩ = some (.bool false) := cell_heap hD (o := 2) rfl
  have q0 := frozen_heap hD (o := 0)
  have q1 := frozen_heap hD (o := 1)
  have q2 := frozen_heap hD (o := 2)
  have hne : ¬ D = R := by omega
  have hne2 : ¬ R = D := by omega
  have Hr := hide hr
  have Hs := hide hs
  have Hf2 := hide hf2
  have Hc2 := hide hc2
  have Hlow := hide hlow
  clear hr hs hlow hf2 hc2
  refine wp_region_held_named (ops' := opsE) (n := 22) (S := fun w' => True ∧ True) (by kernel_rfl) (by kernel_rfl) (by kernel_rfl) ⟨trivial, trivial⟩ (fun hS => ?_)
  have ho : opsE[0]? = some (opAt opsE 0) := by kernel_rfl
  conv at ho => rhs; arg 1; whnf
  refine wpAnyH_take (i := 0) (v := ?_) ho (by kernel_rfl) (by kernel_rfl) (by kernel_rfl) (fun _ _ _ h => h) (Or.inl ⟨by kernel_rfl, ?_⟩) hS ?_
  clear ho
  rotate_left
  · intro w' hS'
    have hq := hS'.1
    have hq2 := hS'.2
    clear hS'
    first | (go_simp; done) | (go_simp; with_reducible rfl)
  try clear ho
  try simp only [Act.put, List.getElem_toArray, List.getElem_cons_zero, List.getElem_cons_succ, List.setIfInBounds_toArray, List.set_cons_zero, List.set_cons_succ]
  have ho : opsE[1]? = some (opAt opsE 1) := by kernel_rfl
  conv at ho => rhs; arg 1; whnf
  refine wpAnyH_take (i := 1) (v := ?_) ho (by kernel_rfl) (by kernel_rfl) (by kernel_rfl) (fun _ _ _ h => h) (Or.inl ⟨by kernel_rfl, ?_⟩) hS ?_
  clear ho
  rotate_left
  · intro w' hS'
    have hq := hS'.1
    have hq2 := hS'.2
    clear hS'
    first | (go_simp; done) | (go_simp; with_reducible rfl)
  try clear ho
  try simp only [Act.put, List.getElem_toArray, List.getElem_cons_zero, List.getElem_cons_succ, List.setIfInBounds_toArray, List.set_cons_zero, List.set_cons_succ]
  have ho : opsE[2]? = some (opAt opsE 2) := by kernel_rfl
  conv at ho => rhs; arg 1; whnf
  refine wpAnyH_take (i := 2) (v := ?_) ho (by kernel_rfl) (by kernel_rfl) (by kernel_rfl) (fun _ _ _ h => h) (Or.inl ⟨by kernel_rfl, ?_⟩) hS ?_
  clear ho
  rotate_left
  · intro w' hS'
    have hq := hS'.1
    have hq2 := hS'.2
    clear hS'
    first | (go_simp; done) | (go_simp; with_reducible rfl)
  try clear ho
  try simp only [Act.put, List.getElem_toArray, List.getElem_cons_zero, List.getElem_cons_succ, List.setIfInBounds_toArray, List.set_cons_zero, List.set_cons_succ]
  have ho : opsE[3]? = some (opAt opsE 3) := by kernel_rfl
  conv at ho => rhs; arg 1; whnf
  refine wpAnyH_take (i := 3) (v := ?_) ho (by kernel_rfl) (by kernel_rfl) (by kernel_rfl) (fun _ _ _ h => h) (Or.inl ⟨by kernel_rfl, ?_⟩) hS ?_
  clear ho
  rotate_left
  · intro w' hS'
    have hq := hS'.1
    have hq2 := hS'.2
    clear hS'
    first | (go_simp; done) | (go_simp; with_reducible rfl)
  try clear ho
  try simp only [Act.put, List.getElem_toArray, List.getElem_cons_zero, List.getElem_cons_succ, List.setIfInBounds_toArray, List.set_cons_zero, List.set_cons_succ]
  have ho : opsE[4]? = some (opAt opsE 4) := by kernel_rfl
  conv at ho => rhs; arg 1; whnf
  refine wpAnyH_take (i := 4) (v := ?_) ho (by kernel_rfl) (by kernel_rfl) (by kernel_rfl) (fun _ _ _ h => h) (Or.inl ⟨by kernel_rfl, ?_⟩) hS ?_
  clear ho
  rotate_left
  · intro w' hS'
    have hq := hS'.1
    have hq2 := hS'.2
    clear hS'
    first | (go_simp; done) | (go_simp; with_reducible rfl)
  try clear ho
  try simp only [Act.put, List.getElem_toArray, List.getElem_cons_zero, List.getElem_cons_succ, List.setIfInBounds_toArray, List.set_cons_zero, List.set_cons_succ]
  have ho : opsE[5]? = some (opAt opsE 5) := by kernel_rfl
  conv at ho => rhs; arg 1; whnf
  refine wpAnyH_take (i := 5) (v := ?_) ho (by kernel_rfl) (by kernel_rfl) (by kernel_rfl) (fun _ _ _ h => h) (Or.inl ⟨by kernel_rfl, ?_⟩) hS ?_
  clear ho
  rotate_left
  · intro w' hS'
    have hq := hS'.1
    have hq2 := hS'.2
    clear hS'
    first | (go_simp; done) | (go_simp; with_reducible rfl)
  try clear ho
  try simp only [Act.put, List.getElem_toArray, List.getElem_cons_zero, List.getElem_cons_succ, List.setIfInBounds_toArray, List.set_cons_zero, List.set_cons_succ]
  have ho : opsE[8]? = some (opAt opsE 8) := by kernel_rfl
  conv at ho => rhs; arg 1; whnf
  refine wpAnyH_take (i := 8) (v := ?_) ho (by kernel_rfl) (by kernel_rfl) (by kernel_rfl) (fun _ _ _ h => h) (Or.inl ⟨by kernel_rfl, ?_⟩) hS ?_
  clear ho
  rotate_left
  · intro w' hS'
    have hq := hS'.1
    have hq2 := hS'.2
    clear hS'
    first | (go_simp; done) | (go_simp; with_reducible rfl)
  try clear ho
  try simp only [Act.put, List.getElem_toArray, List.getElem_cons_zero, List.getElem_cons_succ, List.setIfInBounds_toArray, List.set_cons_zero, List.set_cons_succ]
  have ho : opsE[9]? = some (opAt opsE 9) := by kernel_rfl
  conv at ho => rhs; arg 1; whnf
  refine wpAnyH_take (i := 9) (v := ?_) ho (by kernel_rfl) (by kernel_rfl) (by kernel_rfl) (fun _ _ _ h => h) (Or.inl ⟨by kernel_rfl, ?_⟩) hS ?_
  clear ho
  rotate_left
  · intro w' hS'
    have hq := hS'.1
    have hq2 := hS'.2
    clear hS'
    first | (go_simp; done) | (go_simp; with_reducible rfl)
  try clear ho
  try simp only [Act.put, List.getElem_toArray, List.getElem_cons_zero, List.getElem_cons_succ, List.setIfInBounds_toArray, List.set_cons_zero, List.set_cons_succ]
  have ho : opsE[10]? = some (opAt opsE 10) := by kernel_rfl
  conv at ho => rhs; arg 1; whnf
  refine wpAnyH_take (i := 10) (v := ?_) ho (by kernel_rfl) (by kernel_rfl) (by kernel_rfl) (fun _ _ _ h => h) (Or.inl ⟨by kernel_rfl, ?_⟩) hS ?_
  clear ho
  rotate_left
  · intro w' hS'
    have hq := hS'.1
    have hq2 := hS'.2
    clear hS'
    first | (go_simp; done) | (go_simp; with_reducible rfl)
  try clear ho
  try simp only [Act.put, List.getElem_toArray, List.getElem_cons_zero, List.getElem_cons_succ, List.setIfInBounds_toArray, List.set_cons_zero, List.set_cons_succ]
  have ho : opsE[11]? = some (opAt opsE 11) := by kernel_rfl
  conv at ho => rhs; arg 1; whnf
  refine wpAnyH_take (i := 11) (v := ?_) ho (by kernel_rfl) (by kernel_rfl) (by kernel_rfl) (fun _ _ _ h => h) (Or.inl ⟨by kernel_rfl, ?_⟩) hS ?_
  clear ho
  rotate_left
  · intro w' hS'
    have hq := hS'.1
    have hq2 := hS'.2
    clear hS'
    first | (go_simp; done) | (go_simp; with_reducible rfl)
  try clear ho
  try simp only [Act.put, List.getElem_toArray, List.getElem_cons_zero, List.getElem_cons_succ, List.setIfInBounds_toArray, List.set_cons_zero, List.set_cons_succ]
  have ho6 : opsE[6]? = some (opAt opsE 6) := by kernel_rfl
  conv at ho6 => rhs; arg 1; whnf
  have ho12 : opsE[12]? = some (opAt opsE 12) := by kernel_rfl
  conv at ho12 => rhs; arg 1; whnf
  refine wpAnyH_ready (rs := [6, 12]) (by kernel_rfl) (by simp) ?_
  refine (AllReadyH.cons ho6 (fun K hK => ?_) (AllReadyH.cons ho12 (fun K hK => ?_) AllReadyH.nil))
  all_goals clear ho6 ho12
  · go_simp
    try dsimp only
    refine hK.out _ _ ?_ (fun hS => ?_)
    · exact hS
    clear hK K
    try simp only [Act.put, List.getElem_toArray, List.getElem_cons_zero, List.getElem_cons_succ, List.setIfInBounds_toArray, List.set_cons_zero, List.set_cons_succ]
    have ho7 : opsE[7]? = some (opAt opsE 7) := by kernel_rfl
    conv at ho7 => rhs; arg 1; whnf
    have ho12 : opsE[12]? = some (opAt opsE 12) := by kernel_rfl
    conv at ho12 => rhs; arg 1; whnf
    refine wpAnyH_ready (rs := [7, 12]) (by kernel_rfl) (by simp) ?_
    refine (AllReadyH.cons ho7 (fun K hK => ?_) (AllReadyH.cons ho12 (fun K hK => ?_) AllReadyH.nil))
    all_goals clear ho7 ho12
    · go_simp
      go_at_call 31
      refine (clip31 _ _ _ hf1 Hf2.out _).mono ?_
      rintro e w9 ⟨rfl, rfl⟩
      try dsimp only
      refine hK.out _ _ ?_ (fun hS => ?_)
      · exact hS
      clear hK K
      try simp only [Act.put, List.getElem_toArray, List.getElem_cons_zero, List.getElem_cons_succ, List.setIfInBounds_toArray, List.set_cons_zero, List.set_cons_succ]
      have ho12 : opsE[12]? = some (opAt opsE 12) := by kernel_rfl
      conv at ho12 => rhs; arg 1; whnf
      refine wpAnyH_ready (rs := [12]) (by kernel_rfl) (by simp) ?_
      refine (AllReadyH.cons ho12 (fun K hK => ?_) AllReadyH.nil)
      all_goals clear ho12
      go_simp
      try dsimp only
      refine hK.out _ _ ?_ (fun hS => ?_)
      · exact hS
      clear hK K
      try simp only [Act.put, List.getElem_toArray, List.getElem_cons_zero, List.getElem_cons_succ, List.setIfInBounds_toArray, List.set_cons_zero, List.set_cons_succ]
      have ho13 : opsE[13]? = some (opAt opsE 13) := by kernel_rfl
      conv at ho13 => rhs; arg 1; whnf
      refine wpAnyH_ready (rs := [13]) (by kernel_rfl) (by simp) ?_
      refine (AllReadyH.cons ho13 (fun K hK => ?_) AllReadyH.nil)
      all_goals clear ho13
      go_simp
      go_at_call 32
      refine (clip32 _ _ _ hc1 Hc2.out _).mono ?_
      rintro e w9 ⟨rfl, rfl⟩
      try dsimp only
      refine hK.out _ _ ?_ (fun hS => ?_)
      · exact hS
      clear hK K
      try simp only [Act.put, List.getElem_toArray, List.getElem_cons_zero, List.getElem_cons_succ, List.setIfInBounds_toArray, List.set_cons_zero, List.set_cons_succ]
      have ho : opsE[14]? = some (opAt opsE 14) := by kernel_rfl
      conv at ho => rhs; arg 1; whnf
      refine wpAnyH_take (i := 14) (v := ?_) ho (by kernel_rfl) (by kernel_rfl) (by kernel_rfl) (fun _ _ _ h => h) (Or.inl ⟨by kernel_rfl, ?_⟩) hS ?_
      clear ho
      rotate_left
      · intro w' hS'
        have hq := hS'.1
        have hq2 := hS'.2
        clear hS'
        first | (go_simp; done) | (go_simp; with_reducible rfl)
      try clear ho
      try simp only [Act.put, List.getElem_toArray, List.getElem_cons_zero, List.getElem_cons_succ, List.setIfInBounds_toArray, List.set_cons_zero, List.set_cons_succ]
      have ho : opsE[15]? = some (opAt opsE 15) := by kernel_rfl
      conv at ho => rhs; arg 1; whnf
      refine wpAnyH_take (i := 15) (v := ?_) ho (by kernel_rfl) (by kernel_rfl) (by kernel_rfl) (fun _ _ _ h => h) (Or.inl ⟨by kernel_rfl, ?_⟩) hS ?_
      clear ho
      rotate_left
      · intro w' hS'
        have hq := hS'.1
        have hq2 := hS'.2
        clear hS'
        first | (go_simp; done) | (go_simp; with_reducible rfl)
      try clear ho
      try simp only [Act.put, List.getElem_toArray, List.getElem_cons_zero, List.getElem_cons_succ, List.setIfInBounds_toArray, List.set_cons_zero, List.set_cons_succ]
      have ho : opsE[16]? = some (opAt opsE 16) := by kernel_rfl
      conv at ho => rhs; arg 1; whnf
      refine wpAnyH_take (i := 16) (v := ?_) ho (by kernel_rfl) (by kernel_rfl) (by kernel_rfl) (fun _ _ _ h => h) (Or.inl ⟨by kernel_rfl, ?_⟩) hS ?_
      clear ho
      rotate_left
      · intro w' hS'
        have hq := hS'.1
        have hq2 := hS'.2
        clear hS'
        first | (go_simp; done) | (go_simp; with_reducible rfl)
      try clear ho
      try simp only [Act.put, List.getElem_toArray, List.getElem_cons_zero, List.getElem_cons_succ, List.setIfInBounds_toArray, List.set_cons_zero, List.set_cons_succ]
      have ho17 : opsE[17]? = some (opAt opsE 17) := by kernel_rfl
      conv at ho17 => rhs; arg 1; whnf
      refine wpAnyH_ready (rs := [17]) (by kernel_rfl) (by simp) ?_
      refine (AllReadyH.cons ho17 (fun K hK => ?_) AllReadyH.nil)
      all_goals clear ho17
      go_simp
      try dsimp only
      refine hK.out _ _ ?_ (fun hS => ?_)
      · exact hS
      clear hK K
      try simp only [Act.put, List.getElem_toArray, List.getElem_cons_zero, List.getElem_cons_succ, List.setIfInBounds_toArray, List.set_cons_zero, List.set_cons_succ]
      have ho : opsE[18]? = some (opAt opsE 18) := by kernel_rfl
      conv at ho => rhs; arg 1; whnf
      refine wpAnyH_take (i := 18) (v := ?_) ho (by kernel_rfl) (by kernel_rfl) (by kernel_rfl) (fun _ _ _ h => h) (Or.inl ⟨by kernel_rfl, ?_⟩) hS ?_
      clear ho
      rotate_left
      · intro w' hS'
        have hq := hS'.1
        have hq2 := hS'.2
        clear hS'
        first | (go_simp; done) | (go_simp; with_reducible rfl)
      try clear ho
      try simp only [Act.put, List.getElem_toArray, List.getElem_cons_zero, List.getElem_cons_succ, List.setIfInBounds_toArray, List.set_cons_zero, List.set_cons_succ]
      have ho : opsE[19]? = some (opAt opsE 19) := by kernel_rfl
      conv at ho => rhs; arg 1; whnf
      refine wpAnyH_take (i := 19) (v := ?_) ho (by kernel_rfl) (by kernel_rfl) (by kernel_rfl) (fun _ _ _ h => h) (Or.inl ⟨by kernel_rfl, ?_⟩) hS ?_
      clear ho
      rotate_left
      · intro w' hS'
        have hq := hS'.1
        have hq2 := hS'.2
        clear hS'
        first | (go_simp; done) | (go_simp; with_reducible rfl)
      try clear ho
      try simp only [Act.put, List.getElem_toArray, List.getElem_cons_zero, List.getElem_cons_succ, List.setIfInBounds_toArray, List.set_cons_zero, List.set_cons_succ]
      have ho : opsE[20]? = some (opAt opsE 20) := by kernel_rfl
      conv at ho => rhs; arg 1; whnf
      refine wpAnyH_take (i := 20) (v := ?_) ho (by kernel_rfl) (by kernel_rfl) (by kernel_rfl) (fun _ _ _ h => h) (Or.inl ⟨by kernel_rfl, ?_⟩) hS ?_
      clear ho
      rotate_left
      · intro w' hS'
        have hq := hS'.1
        have hq2 := hS'.2
        clear hS'
        first | (go_simp; done) | (go_simp; with_reducible rfl)
      try clear ho
      try simp only [Act.put, List.getElem_toArray, List.getElem_cons_zero, List.getElem_cons_succ, List.setIfInBounds_toArray, List.set_cons_zero, List.set_cons_succ]
      have ho21 : opsE[21]? = some (opAt opsE 21) := by kernel_rfl
      conv at ho21 => rhs; arg 1; whnf
      refine wpAnyH_ready (rs := [21]) (by kernel_rfl) (by simp) ?_
      refine (AllReadyH.cons ho21 (fun K hK => ?_) AllReadyH.nil)
      all_goals clear ho21
      go_simp
      try dsimp only
      refine hK.out _ _ ?_ (fun hS => ?_)
      · exact hS
      clear hK K
      try simp only [Act.put, List.getElem_toArray, List.getElem_cons_zero, List.getElem_cons_succ, List.setIfInBounds_toArray, List.set_cons_zero, List.set_cons_succ]
      refine wpAnyH_done (by kernel_rfl) ?_ _
      refine hK0 _ _ ?_
      clear hK0 hS
      go_wp2_with fail
      refine bodyPost_ret (v := .tuple #[.agg #[.slice Af s.fields.length s.fields.length, .slice Ac s.colls.length s.colls.length, .bool s.numbered], .int .i64 0]) (by simp [results, Try.results14, go_sem, *]) rfl ?_
      refine ⟨of_drew' (((((hk.setCell (p := ⟨R, 12, none⟩) (Nat.le_of_lt (Nat.lt_of_le_of_lt hDw hDR)) _).setCell (p := ⟨R, 13, none⟩) (Nat.le_of_lt (Nat.lt_of_le_of_lt hDw hDR)) _).setCell (p := ⟨D, 0, none⟩) hDw _).setCell (p := ⟨D, 1, none⟩) hDw _).setCell (p := ⟨D, 2, none⟩) hDw _), .inr ⟨rfl, Af, Ac, rfl, ?_, ?_⟩⟩
      · exact fields_read Hr.out rfl hD (by omega) (by simp) (fun b o _ h2 h3 => cell_five h2 h3)
      · exact colls_read Hr.out rfl (D := D) (by omega) (by simp) (fun b o _ h2 h3 => cell_five h2 h3)
    · go_simp
      try dsimp only
      refine hK.out _ _ ?_ (fun hS => ?_)
      · exact hS
      clear hK K
      try simp only [Act.put, List.getElem_toArray, List.getElem_cons_zero, List.getElem_cons_succ, List.setIfInBounds_toArray, List.set_cons_zero, List.set_cons_succ]
      have ho7 : opsE[7]? = some (opAt opsE 7) := by kernel_rfl
      conv at ho7 => rhs; arg 1; whnf
      refine wpAnyH_ready (rs := [7]) (by kernel_rfl) (by simp) ?_
      refine (AllReadyH.cons ho7 (fun K hK => ?_) AllReadyH.nil)
      all_goals clear ho7
      go_simp
      go_at_call 31
      refine (clip31 _ _ _ hf1 Hf2.out _).mono ?_
      rintro e w9 ⟨rfl, rfl⟩
      try dsimp only
      refine hK.out _ _ ?_ (fun hS => ?_)
      · exact hS
      clear hK K
      try simp only [Act.put, List.getElem_toArray, List.getElem_cons_zero, List.getElem_cons_succ, List.setIfInBounds_toArray, List.set_cons_zero, List.set_cons_succ]
      have ho13 : opsE[13]? = some (opAt opsE 13) := by kernel_rfl
      conv at ho13 => rhs; arg 1; whnf
      refine wpAnyH_ready (rs := [13]) (by kernel_rfl) (by simp) ?_
      refine (AllReadyH.cons ho13 (fun K hK => ?_) AllReadyH.nil)
      all_goals clear ho13
      go_simp
      go_at_call 32
      refine (clip32 _ _ _ hc1 Hc2.out _).mono ?_
      rintro e w9 ⟨rfl, rfl⟩
      try dsimp only
      refine hK.out _ _ ?_ (fun hS => ?_)
      · exact hS
      clear hK K
      try simp only [Act.put, List.getElem_toArray, List.getElem_cons_zero, List.getElem_cons_succ, List.setIfInBounds_toArray, List.set_cons_zero, List.set_cons_succ]
      have ho : opsE[14]? = some (opAt opsE 14) := by kernel_rfl
      conv at ho => rhs; arg 1; whnf
      refine wpAnyH_take (i := 14) (v := ?_) ho (by kernel_rfl) (by kernel_rfl) (by kernel_rfl) (fun _ _ _ h => h) (Or.inl ⟨by kernel_rfl, ?_⟩) hS ?_
      clear ho
      rotate_left
      · intro w' hS'
        have hq := hS'.1
        have hq2 := hS'.2
        clear hS'
        first | (go_simp; done) | (go_simp; with_reducible rfl)
      try clear ho
      try simp only [Act.put, List.getElem_toArray, List.getElem_cons_zero, List.getElem_cons_succ, List.setIfInBounds_toArray, List.set_cons_zero, List.set_cons_succ]
      have ho : opsE[15]? = some (opAt opsE 15) := by kernel_rfl
      conv at ho => rhs; arg 1; whnf
      refine wpAnyH_take (i := 15) (v := ?_) ho (by kernel_rfl) (by kernel_rfl) (by kernel_rfl) (fun _ _ _ h => h) (Or.inl ⟨by kernel_rfl, ?_⟩) hS ?_
      clear ho
      rotate_left
      · intro w' hS'
        have hq := hS'.1
        have hq2 := hS'.2
        clear hS'
        first | (go_simp; done) | (go_simp; with_reducible rfl)
      try clear ho
      try simp only [Act.put, List.getElem_toArray, List.getElem_cons_zero, List.getElem_cons_succ, List.setIfInBounds_toArray, List.set_cons_zero, List.set_cons_succ]
      have ho : opsE[16]? = some (opAt opsE 16) := by kernel_rfl
      conv at ho => rhs; arg 1; whnf
      refine wpAnyH_take (i := 16) (v := ?_) ho (by kernel_rfl) (by kernel_rfl) (by kernel_rfl) (fun _ _ _ h => h) (Or.inl ⟨by kernel_rfl, ?_⟩) hS ?_
      clear ho
      rotate_left
      · intro w' hS'
        have hq := hS'.1
        have hq2 := hS'.2
        clear hS'
        first | (go_simp; done) | (go_simp; with_reducible rfl)
      try clear ho
      try simp only [Act.put, List.getElem_toArray, List.getElem_cons_zero, List.getElem_cons_succ, List.setIfInBounds_toArray, List.set_cons_zero, List.set_cons_succ]
      have ho17 : opsE[17]? = some (opAt opsE 17) := by kernel_rfl
      conv at ho17 => rhs; arg 1; whnf
      refine wpAnyH_ready (rs := [17]) (by kernel_rfl) (by simp) ?_
      refine (AllReadyH.cons ho17 (fun K hK => ?_) AllReadyH.nil)
      all_goals clear ho17
      go_simp
      try dsimp only
      refine hK.out _ _ ?_ (fun hS => ?_)
      · exact hS
      clear hK K
      try simp only [Act.put, List.getElem_toArray, List.getElem_cons_zero, List.getElem_cons_succ, List.setIfInBounds_toArray, List.set_cons_zero, List.set_cons_succ]
      have ho : opsE[18]? = some (opAt opsE 18) := by kernel_rfl
      conv at ho => rhs; arg 1; whnf
      refine wpAnyH_take (i := 18) (v := ?_) ho (by kernel_rfl) (by kernel_rfl) (by kernel_rfl) (fun _ _ _ h => h) (Or.inl ⟨by kernel_rfl, ?_⟩) hS ?_
      clear ho
      rotate_left
      · intro w' hS'
        have hq := hS'.1
        have hq2 := hS'.2
        clear hS'
        first | (go_simp; done) | (go_simp; with_reducible rfl)
      try clear ho
      try simp only [Act.put, List.getElem_toArray, List.getElem_cons_zero, List.getElem_cons_succ, List.setIfInBounds_toArray, List.set_cons_zero, List.set_cons_succ]
      have ho : opsE[19]? = some (opAt opsE 19) := by kernel_rfl
      conv at ho => rhs; arg 1; whnf
      refine wpAnyH_take (i := 19) (v := ?_) ho (by kernel_rfl) (by kernel_rfl) (by kernel_rfl) (fun _ _ _ h => h) (Or.inl ⟨by kernel_rfl, ?_⟩) hS ?_
      clear ho
      rotate_left
      · intro w' hS'
        have hq := hS'.1
        have hq2 := hS'.2
        clear hS'
        first | (go_simp; done) | (go_simp; with_reducible rfl)
      try clear ho
      try simp only [Act.put, List.getElem_toArray, List.getElem_cons_zero, List.getElem_cons_succ, List.setIfInBounds_toArray, List.set_cons_zero, List.set_cons_succ]
      have ho : opsE[20]? = some (opAt opsE 20) := by kernel_rfl
      conv at ho => rhs; arg 1; whnf
      refine wpAnyH_take (i := 20) (v := ?_) ho (by kernel_rfl) (by kernel_rfl) (by kernel_rfl) (fun _ _ _ h => h) (Or.inl ⟨by kernel_rfl, ?_⟩) hS ?_
      clear ho
      rotate_left
      · intro w' hS'
        have hq := hS'.1
        have hq2 := hS'.2
        clear hS'
        first | (go_simp; done) | (go_simp; with_reducible rfl)
      try clear ho
      try simp only [Act.put, List.getElem_toArray, List.getElem_cons_zero, List.getElem_cons_succ, List.setIfInBounds_toArray, List.set_cons_zero, List.set_cons_succ]
      have ho21 : opsE[21]? = some (opAt opsE 21) := by kernel_rfl
      conv at ho21 => rhs; arg 1; whnf
      refine wpAnyH_ready (rs := [21]) (by kernel_rfl) (by simp) ?_
      refine (AllReadyH.cons ho21 (fun K hK => ?_) AllReadyH.nil)
      all_goals clear ho21
      go_simp
      try dsimp only
      refine hK.out _ _ ?_ (fun hS => ?_)
      · exact hS
      clear hK K
      try simp only [Act.put, List.getElem_toArray, List.getElem_cons_zero, List.getElem_cons_succ, List.setIfInBounds_toArray, List.set_cons_zero, List.set_cons_succ]
      refine wpAnyH_done (by kernel_rfl) ?_ _
      refine hK0 _ _ ?_
      clear hK0 hS
      go_wp2_with fail
      refine bodyPost_ret (v := .tuple #[.agg #[.slice Af s.fields.length s.fields.length, .slice Ac s.colls.length s.colls.length, .bool s.numbered], .int .i64 0]) (by simp [results, Try.results14, go_sem, *]) rfl ?_
      refine ⟨of_drew' (((((hk.setCell (p := ⟨R, 12, none⟩) (Nat.le_of_lt (Nat.lt_of_le_of_lt hDw hDR)) _).setCell (p := ⟨R, 13, none⟩) (Nat.le_of_lt (Nat.lt_of_le_of_lt hDw hDR)) _).setCell (p := ⟨D, 0, none⟩) hDw _).setCell (p := ⟨D, 1, none⟩) hDw _).setCell (p := ⟨D, 2, none⟩) hDw _), .inr ⟨rfl, Af, Ac, rfl, ?_, ?_⟩⟩
      · exact fields_read Hr.out rfl hD (by omega) (by simp) (fun b o _ h2 h3 => cell_five h2 h3)
      · exact colls_read Hr.out rfl (D := D) (by omega) (by simp) (fun b o _ h2 h3 => cell_five h2 h3)
  · go_simp
    try dsimp only
    refine hK.out _ _ ?_ (fun hS => ?_)
    · exact hS
    clear hK K
    try simp only [Act.put, List.getElem_toArray, List.getElem_cons_zero, List.getElem_cons_succ, List.setIfInBounds_toArray, List.set_cons_zero, List.set_cons_succ]
    have ho6 : opsE[6]? = some (opAt opsE 6) := by kernel_rfl
    conv at ho6 => rhs; arg 1; whnf
    refine wpAnyH_ready (rs := [6]) (by kernel_rfl) (by simp) ?_
    refine (AllReadyH.cons ho6 (fun K hK => ?_) AllReadyH.nil)
    all_goals clear ho6
    go_simp
    try dsimp only
    refine hK.out _ _ ?_ (fun hS => ?_)
    · exact hS
    clear hK K
    try simp only [Act.put, List.getElem_toArray, List.getElem_cons_zero, List.getElem_cons_succ, List.setIfInBounds_toArray, List.set_cons_zero, List.set_cons_succ]
    have ho7 : opsE[7]? = some (opAt opsE 7) := by kernel_rfl
    conv at ho7 => rhs; arg 1; whnf
    refine wpAnyH_ready (rs := [7]) (by kernel_rfl) (by simp) ?_
    refine (AllReadyH.cons ho7 (fun K hK => ?_) AllReadyH.nil)
    all_goals clear ho7
    go_simp
    go_at_call 31
    refine (clip31 _ _ _ hf1 Hf2.out _).mono ?_
    rintro e w9 ⟨rfl, rfl⟩
    try dsimp only
    refine hK.out _ _ ?_ (fun hS => ?_)
    · exact hS
    clear hK K
    try simp only [Act.put, List.getElem_toArray, List.getElem_cons_zero, List.getElem_cons_succ, List.setIfInBounds_toArray, List.set_cons_zero, List.set_cons_succ]
    have ho13 : opsE[13]? = some (opAt opsE 13) := by kernel_rfl
    conv at ho13 => rhs; arg 1; whnf
    refine wpAnyH_ready (rs := [13]) (by kernel_rfl) (by simp) ?_
    refine (AllReadyH.cons ho13 (fun K hK => ?_) AllReadyH.nil)
    all_goals clear ho13
    go_simp
    go_at_call 32
    refine (clip32 _ _ _ hc1 Hc2.out _).mono ?_
    rintro e w9 ⟨rfl, rfl⟩
    try dsimp only
    refine hK.out _ _ ?_ (fun hS => ?_)
    · exact hS
    clear hK K
    try simp only [Act.put, List.getElem_toArray, List.getElem_cons_zero, List.getElem_cons_succ, List.setIfInBounds_toArray, List.set_cons_zero, List.set_cons_succ]
    have ho : opsE[14]? = some (opAt opsE 14) := by kernel_rfl
    conv at ho => rhs; arg 1; whnf
    refine wpAnyH_take (i := 14) (v := ?_) ho (by kernel_rfl) (by kernel_rfl) (by kernel_rfl) (fun _ _ _ h => h) (Or.inl ⟨by kernel_rfl, ?_⟩) hS ?_
    clear ho
    rotate_left
    · intro w' hS'
      have hq := hS'.1
      have hq2 := hS'.2
      clear hS'
      first | (go_simp; done) | (go_simp; with_reducible rfl)
    try clear ho
    try simp only [Act.put, List.getElem_toArray, List.getElem_cons_zero, List.getElem_cons_succ, List.setIfInBounds_toArray, List.set_cons_zero, List.set_cons_succ]
    have ho : opsE[15]? = some (opAt opsE 15) := by kernel_rfl
    conv at ho => rhs; arg 1; whnf
    refine wpAnyH_take (i := 15) (v := ?_) ho (by kernel_rfl) (by kernel_rfl) (by kernel_rfl) (fun _ _ _ h => h) (Or.inl ⟨by kernel_rfl, ?_⟩) hS ?_
    clear ho
    rotate_left
    · intro w' hS'
      have hq := hS'.1
      have hq2 := hS'.2
      clear hS'
      first | (go_simp; done) | (go_simp; with_reducible rfl)
    try clear ho
    try simp only [Act.put, List.getElem_toArray, List.getElem_cons_zero, List.getElem_cons_succ, List.setIfInBounds_toArray, List.set_cons_zero, List.set_cons_succ]
    have ho : opsE[16]? = some (opAt opsE 16) := by kernel_rfl
    conv at ho => rhs; arg 1; whnf
    refine wpAnyH_take (i := 16) (v := ?_) ho (by kernel_rfl) (by kernel_rfl) (by kernel_rfl) (fun _ _ _ h => h) (Or.inl ⟨by kernel_rfl, ?_⟩) hS ?_
    clear ho
    rotate_left
    · intro w' hS'
      have hq := hS'.1
      have hq2 := hS'.2
      clear hS'
      first | (go_simp; done) | (go_simp; with_reducible rfl)
    try clear ho
    try simp only [Act.put, List.getElem_toArray, List.getElem_cons_zero, List.getElem_cons_succ, List.setIfInBounds_toArray, List.set_cons_zero, List.set_cons_succ]
    have ho17 : opsE[17]? = some (opAt opsE 17) := by kernel_rfl
    conv at ho17 => rhs; arg 1; whnf
    refine wpAnyH_ready (rs := [17]) (by kernel_rfl) (by simp) ?_
    refine (AllReadyH.cons ho17 (fun K hK => ?_) AllReadyH.nil)
    all_goals clear ho17
    go_simp
    try dsimp only
    refine hK.out _ _ ?_ (fun hS => ?_)
    · exact hS
    clear hK K
    try simp only [Act.put, List.getElem_toArray, List.getElem_cons_zero, List.getElem_cons_succ, List.setIfInBounds_toArray, List.set_cons_zero, List.set_cons_succ]
    have ho : opsE[18]? = some (opAt opsE 18) := by kernel_rfl
    conv at ho => rhs; arg 1; whnf
    refine wpAnyH_take (i := 18) (v := ?_) ho (by kernel_rfl) (by kernel_rfl) (by kernel_rfl) (fun _ _ _ h => h) (Or.inl ⟨by kernel_rfl, ?_⟩) hS ?_
    clear ho
    rotate_left
    · intro w' hS'
      have hq := hS'.1
      have hq2 := hS'.2
      clear hS'
      first | (go_simp; done) | (go_simp; with_reducible rfl)
    try clear ho
    try simp only [Act.put, List.getElem_toArray, List.getElem_cons_zero, List.getElem_cons_succ, List.setIfInBounds_toArray, List.set_cons_zero, List.set_cons_succ]
    have ho : opsE[19]? = some (opAt opsE 19) := by kernel_rfl
    conv at ho => rhs; arg 1; whnf
    refine wpAnyH_take (i := 19) (v := ?_) ho (by kernel_rfl) (by kernel_rfl) (by kernel_rfl) (fun _ _ _ h => h) (Or.inl ⟨by kernel_rfl, ?_⟩) hS ?_
    clear ho
    rotate_left
    · intro w' hS'
      have hq := hS'.1
      have hq2 := hS'.2
      clear hS'
      first | (go_simp; done) | (go_simp; with_reducible rfl)
    try clear ho
    try simp only [Act.put, List.getElem_toArray, List.getElem_cons_zero, List.getElem_cons_succ, List.setIfInBounds_toArray, List.set_cons_zero, List.set_cons_succ]
    have ho : opsE[20]? = some (opAt opsE 20) := by kernel_rfl
    conv at ho => rhs; arg 1; whnf
    refine wpAnyH_take (i := 20) (v := ?_) ho (by kernel_rfl) (by kernel_rfl) (by kernel_rfl) (fun _ _ _ h => h) (Or.inl ⟨by kernel_rfl, ?_⟩) hS ?_
    clear ho
    rotate_left
    · intro w' hS'
      have hq := hS'.1
      have hq2 := hS'.2
      clear hS'
      first | (go_simp; done) | (go_simp; with_reducible rfl)
    try clear ho
    try simp only [Act.put, List.getElem_toArray, List.getElem_cons_zero, List.getElem_cons_succ, List.setIfInBounds_toArray, List.set_cons_zero, List.set_cons_succ]
    have ho21 : opsE[21]? = some (opAt opsE 21) := by kernel_rfl
    conv at ho21 => rhs; arg 1; whnf
    refine wpAnyH_ready (rs := [21]) (by kernel_rfl) (by simp) ?_
    refine (AllReadyH.cons ho21 (fun K hK => ?_) AllReadyH.nil)
    all_goals clear ho21
    go_simp
    try dsimp only
    refine hK.out _ _ ?_ (fun hS => ?_)
    · exact hS
    clear hK K
    try simp only [Act.put, List.getElem_toArray, List.getElem_cons_zero, List.getElem_cons_succ, List.setIfInBounds_toArray, List.set_cons_zero, List.set_cons_succ]
    refine wpAnyH_done (by kernel_rfl) ?_ _
    refine hK0 _ _ ?_
    clear hK0 hS
    go_wp2_with fail
    refine bodyPost_ret (v := .tuple #[.agg #[.slice Af s.fields.length s.fields.length, .slice Ac s.colls.length s.colls.length, .bool s.numbered], .int .i64 0]) (by simp [results, Try.results14, go_sem, *]) rfl ?_
    refine ⟨of_drew' (((((hk.setCell (p := ⟨R, 12, none⟩) (Nat.le_of_lt (Nat.lt_of_le_of_lt hDw hDR)) _).setCell (p := ⟨R, 13, none⟩) (Nat.le_of_lt (Nat.lt_of_le_of_lt hDw hDR)) _).setCell (p := ⟨D, 0, none⟩) hDw _).setCell (p := ⟨D, 1, none⟩) hDw _).setCell (p := ⟨D, 2, none⟩) hDw _), .inr ⟨rfl, Af, Ac, rfl, ?_, ?_⟩⟩
    · exact fields_read Hr.out rfl hD (by omega) (by simp) (fun b o _ h2 h3 => cell_five h2 h3)
    · exact colls_read Hr.out rfl (D := D) (by omega) (by simp) (fun b o _ h2 h3 => cell_five h2 h3)
end Go.Proofs.Ytegdigfcgeoboaa
/- Parse. The slice reads as bytes. -/
namespace Go.Proofs.Ytegdigfcgeoboaa
open Go.RowKit Go.Maps
attribute [local go_sem ↓] Go.wp_at_zero Go.wp_at_succ

def parseE (bs : List Int) : Int := if itemsE bs ≠ 0 then itemsE bs else (parseS (items bs)).1
def parseM (bs : List Int) : RS := (parseS (items bs)).2
theorem eqlNilF (w : World) : (binOp .eql 89 .nilFunc .nilFunc).run Try.prog w = .ok (.bool true) w := by kernel_rfl
theorem eqlFn (f : FuncId) (w : World) : (binOp .eql 89 (.func (.func f) #[] #[]) .nilFunc).run Try.prog w = .ok (.bool false) w := by kernel_rfl
theorem zero89 (w : World) : (zeroValue 89).run Try.prog w = .ok .nilFunc w := by kernel_rfl
theorem run_step {l : List It} {i : Nat} {x : It} (hx : l[i]? = some x) (h0 : (runS (l.take i) rs0).1 = 0) : runS (l.take (i + 1)) rs0 = (if (effS (runS (l.take i) rs0).2 x).1 ≠ 0 then effS (runS (l.take i) rs0).2 x else (0, clearS (effS (runS (l.take i) rs0).2 x).2 x)) := by
  obtain ⟨hi, e⟩ := List.getElem?_eq_some_iff.1 hx
  rw [List.take_succ_eq_append_getElem hi, e]
  exact runS_snoc _ _ _ h0
theorem run_bad {l : List It} {i : Nat} {x : It} (hx : l[i]? = some x) (h0 : (runS (l.take i) rs0).1 = 0) (h1 : (effS (runS (l.take i) rs0).2 x).1 ≠ 0) : parseS l = effS (runS (l.take i) rs0).2 x := by
  have h2 := run_step hx h0
  rw [if_pos h1] at h2
  have h3 : runS l rs0 = effS (runS (l.take i) rs0).2 x := by
    have h4 := runS_stop (l.take (i + 1)) rs0 (l.drop (i + 1)) (by rw [h2]; exact h1)
    rw [List.take_append_drop] at h4
    rw [h4, h2]
  unfold parseS
  rw [h3, if_pos h1]
/-- the two results of items, apart -/
theorem items_no (A : Option Addr) (n c : Nat) (bs : List Int) (w : World) (hnc : n ≤ c) (hc : c ≤ maxLen) (hl : Sl u8T w (low w.heap.size) A n bs) (hE : itemsE bs ≠ 0) :
    Calls Try.prog 12 #[.slice A n c] w fun e w' => e = .returned (.tuple #[.slice none 0 0, .int .i64 (itemsE bs)]) ∧ Kept w w' :=
  (items_any A n c bs w hnc hc hl).mono fun e w' h => h.elim (fun h => ⟨h.2.1, h.2.2⟩) (fun h => absurd h.1 hE)
theorem items_yes (A : Option Addr) (n c : Nat) (bs : List Int) (w : World) (hnc : n ≤ c) (hc : c ≤ maxLen) (hl : Sl u8T w (low w.heap.size) A n bs) (hE : itemsE bs = 0) :
    Calls Try.prog 12 #[.slice A n c] w fun e w' => ∃ A', e = .returned (.tuple #[.slice A' (items bs).length (items bs).length, .int .i64 0]) ∧ Sl itT w' (fun b => w.heap.size ≤ b ∧ b < w'.heap.size) A' (items bs).length (items bs) ∧ Kept w w' :=
  (items_any A n c bs w hnc hc hl).mono fun e w' h => h.elim (fun h => absurd hE h.1) (fun h => h.2)
set_option maxRecDepth 100000 in
set_option maxHeartbeats 4000000 in
theorem parse_no (A : Option Addr) (n c : Nat) (bs : List Int) (w : World) (hnc : n ≤ c) (hc : c ≤ maxLen) (hl : Sl u8T w (low w.heap.size) A n bs) (hE : itemsE bs ≠ 0) :
    Calls Try.prog 14 #[.slice A n c] w (ParsePost w (parseE bs) (parseM bs)) := by
  have hP : parseE bs = itemsE bs := by unfold parseE; rw [if_pos hE]
  rw [hP]
  have hit := fun w' (h : Sl u8T w' (low w'.heap.size) A n bs) => items_no A n c bs w' hnc hc h hE
  have Hl := hide hl
  generalize itemsE bs = E at *
  have hE1 : (E != 0) = true := by simpa using hE
  have hE2 : (E == 0) = false := by simpa using hE
  generalize parseM bs = M at *
  clear hl hP
  go_enter Try.func14, Try.ntmps14
  go_wp2_with (go_at_call 12; refine (hit _ (Hl.out.kept ((Below.refl _ _).alloc (Nat.le_refl _) _))).mono ?_; rintro e w1 ⟨rfl, hk1⟩; obtain ⟨hcq, hfq⟩ := bcell hk1; have hzq := hk1.size; simp only [World.size_alloc] at hcq hfq hzq; have hDl : w.heap.size < w1.heap.size := (by omega))
  refine bodyPost_ret (v := .tuple #[.agg #[.slice none 0 0, .slice none 0 0, .bool false], .int .i64 E]) (by simp [results, Try.results14, go_sem, *]) rfl ⟨?_, .inl ⟨hE, rfl⟩⟩
  have hk1' : Below w.heap.size w w1 := Below.trans ((Below.refl _ _).alloc (Nat.le_refl _) _) (hk1.mono (by simp))
  exact ((hk1'.setCell (p := ⟨w.heap.size, 0, none⟩) (Nat.le_refl _) _).setCell (p := ⟨w.heap.size, 1, none⟩) (Nat.le_refl _) _).setCell (p := ⟨w.heap.size, 2, none⟩) (Nat.le_refl _) _
end Go.Proofs.Ytegdigfcgeoboaa
