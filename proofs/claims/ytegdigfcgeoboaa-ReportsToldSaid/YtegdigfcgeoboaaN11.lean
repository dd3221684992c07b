/- Length, Find, equal fields. -/
import Derived.Test.YtegdigfcgeoboaaChecked
import Derived.Deep.RegionHeld3
import Derived.Deep.DrawnRows
import Derived.Deep.DeepCutAuto
import Derived.Deep.LoopGhost
import Derived.Outline
import Derived.Handy
import Derived.OwnWalk
import Derived.BigQuiet
import Derived.Test.YtegdigfcgeoboaaN5
set_option linter.unusedVariables false
set_option linter.unusedSimpArgs false
set_option linter.unusedSectionVars false
/- Index of usages, Length, Find, and equal fields. -/
namespace Go.Proofs.Ytegdigfcgeoboaa
open Go.RowKit
attribute [local go_sem ↓] Go.wp_at_zero Go.wp_at_succ

/-- where a usage stands first, or -1 -/
def IdxIs (l : List Int) (u i : Int) : Prop := (∃ k : Nat, i = k ∧ l[k]? = some u ∧ ∀ j, j < k → l[j]? ≠ some u) ∨ (i = -1 ∧ u ∉ l)
set_option maxRecDepth 100000 in
theorem index36 (A : Option Addr) (n c : Nat) (l : List Int) (u : Int) (w : World) (hn : n ≤ maxLen) (hl : Sl u32T w (low w.heap.size) A n l) :
    Calls Try.prog 36 #[.slice A n c, .int .u32 u] w fun e w' => (∃ i, e = .returned (.int .i64 i) ∧ IdxIs l u i) ∧ w = w' := by
  unfold maxLen at hn
  go_enter Try.func36, Try.ntmps36
  go_wp2_with fail
  go_loopg [8] n (fun g s8 wr => ∃ i : Nat, i + g = n ∧ s8 = .int .i64 i ∧ wr = w ∧ ∀ j, j < i → l[j]? ≠ some u)
  case atStart => exact ⟨0, by omega, rfl, rfl, fun j hj => by omega⟩
  case round =>
    obtain ⟨i, hi, rfl, rfl, hno⟩ := hrel
    have Hno := hide hno
    have Hi := hide hi
    clear hno hi
    by_cases hlt : i < n
    · obtain ⟨x, b, off, cs, hx, rfl, hbb, ⟨rfl, _⟩, hcs⟩ := hl.at hlt
      have x0 : wr.cell? ⟨b, off + i, none⟩ = some (.int .u32 x) := by have := hcs 0 _ rfl; simpa [u32T, Ty.flat] using this
      have hbl : b < wr.heap.size := hbb
      have hi0 : (0 : Int) ≤ (i : Int) := by omega
      have hlt' : (i : Int) < (n : Int) := by omega
      have Hx := hide hx
      clear hx hcs
      by_cases he : u = x
      · subst he
        go_wp2_with fail
        go_ret
        exact ⟨⟨i, rfl, .inl ⟨i, rfl, Hx.out, Hno.out⟩⟩, rfl⟩
      · have he1 : (u == x) = false := by simpa using he
        go_wp2_with fail
        go_roundg (gk - 1)
        case measure => have := Hi.out; omega
        case rel =>
          refine ⟨i + 1, by have := Hi.out; omega, by go_num, rfl, fun j hj => ?_⟩
          by_cases e : j = i
          · subst e
            rw [Hx.out]
            intro h
            exact he (by injection h with h; exact h.symm)
          · exact Hno.out j (by omega)
    · have hge : (n : Int) ≤ (i : Int) := by omega
      go_wp2_with fail
      go_ret
      refine ⟨⟨-1, rfl, .inr ⟨rfl, fun hm => ?_⟩⟩, rfl⟩
      obtain ⟨j, hj, e⟩ := List.getElem_of_mem hm
      have hln := hl.1
      have hii := Hi.out
      exact Hno.out j (by omega) (by rw [List.getElem?_eq_getElem hj, e])
/-- the length of a report in bytes -/
def lenS (nb : Bool) (l : List Fd) (k r : Int) : Int := (bitsS l k r + 7) / 8 + if l.any (fun f => f.kind == k && f.report == r) && nb then 1 else 0
/-- fields whose sizes and counts are those of a reader -/
def SizesOk (l : List Fd) : Prop := l.length ≤ 256 ∧ ∀ f ∈ l, 1 ≤ f.size ∧ f.size ≤ 32 ∧ 1 ≤ f.count ∧ f.count ≤ 256
theorem bits_le : ∀ (l : List Fd) (k r : Int), (∀ f ∈ l, 1 ≤ f.size ∧ f.size ≤ 32 ∧ 1 ≤ f.count ∧ f.count ≤ 256) → 0 ≤ bitsS l k r ∧ bitsS l k r ≤ 8192 * (l.length : Int)
  | [], _, _, _ => by simp [bitsS]
  | f :: l, k, r, h => by
    have h1 := bits_le l k r (fun f hf => h f (List.mem_cons_of_mem _ hf))
    obtain ⟨a, b, c, d⟩ := h f List.mem_cons_self
    have h2 : f.size * f.count ≤ 32 * f.count := Int.mul_le_mul_of_nonneg_right (by omega) (by omega)
    have h3 : 1 * f.count ≤ f.size * f.count := Int.mul_le_mul_of_nonneg_right (by omega) (by omega)
    have e : bitsS (f :: l) k r = (if f.kind == k && f.report == r then f.size * f.count else 0) + bitsS l k r := by
      unfold bitsS
      rw [List.filter_cons]
      cases hc : (f.kind == k && f.report == r) <;> simp
    rw [e, List.length_cons]
    split <;> omega
set_option maxRecDepth 100000 in
set_option maxHeartbeats 4000000 in
theorem length21 (A C : Option Addr) (n c nc cc : Nat) (nb : Bool) (l : List Fd) (k r : Int) (w : World) (hs : SizesOk l) (hl : Sl fdT w (low w.heap.size) A n l) :
    Calls Try.prog 21 #[.agg #[.slice A n c, .slice C nc cc, .bool nb], .int .u8 k, .int .u8 r] w fun e w' => e = .returned (.int .i64 (lenS nb l k r)) ∧ Kept w w' := by
  have hn := hl.1
  have hn2 := hs.1
  have hbt := fun i => bits_le (l.take i) k r (fun f hf => hs.2 f (List.mem_of_mem_take hf))
  have Hs := hide hs
  have Hn := hide hn
  have hn3 : n ≤ 256 := by omega
  clear hs hn hn2
  go_enter Try.func21, Try.ntmps21
  go_wp2_with fail
  refine wp_at (fun W => W.heap[w.heap.size]? = some (.cells #[.slice A n c, .slice C nc cc, .bool nb] 40 (0, 0)) ∧ Kept w W) ⟨heap_at _ rfl, by go_grown⟩ (fun W hW => ?_)
  obtain ⟨hB, hkW⟩ := hW
  have HB := hide hB
  have HkW := hide hkW
  clear hB hkW
  go_loopg [7, 8, 15] n (fun g s7 s8 s15 wr => ∃ i : Nat, i + g = n ∧ s15 = .int .i64 i ∧ s7 = .int .i64 (bitsS (l.take i) k r) ∧ s8 = .bool ((l.take i).any (fun f => f.kind == k && f.report == r)) ∧ Kept W wr)
  case atStart => exact ⟨0, by omega, rfl, rfl, rfl, Below.refl _ _⟩
  case round =>
    obtain ⟨i, hi, rfl, rfl, rfl, hk⟩ := hrel
    have hbi := hbt i
    have hkz := hk.size
    have hli : (l.take i).length ≤ 256 := by rw [List.length_take]; have := Hn.out; omega
    have Hi := hide hi
    have hb40 := heap_kept hk HB.out
    have m2 : wr.cell? ⟨w.heap.size, 2, none⟩ = some (.bool nb) := cell_heap hb40 (o := 2) rfl
    have hml := heap_lt hb40
    clear hi hb40
    obtain ⟨B, hB⟩ : ∃ B, bitsS (l.take i) k r = B := ⟨_, rfl⟩
    obtain ⟨q, hq⟩ : ∃ q, (l.take i).any (fun f => f.kind == k && f.report == r) = q := ⟨_, rfl⟩
    rw [hB] at hbi ⊢
    rw [hq]
    have HB2 := hide hB
    have Hq := hide hq
    obtain ⟨hb1, hb2⟩ := hbi
    have hb3 : B ≤ 2097152 := by omega
    clear hB hq hb2 hli hbt
    by_cases hlt : i < n
    · obtain ⟨f, b, off, cs, hf, rfl, hbb, ⟨A', rfl, hul, _⟩, hcs⟩ := (hl.kept (HkW.out.trans' hk)).at hlt
      have hcs' : ∀ (j : Nat) v, (f.cells A')[j]? = some v → wr.cell? ⟨b, off + i * 13 + j, none⟩ = some v := fun j v h => hcs j v h
      have x0 : wr.cell? ⟨b, off + i * 13, none⟩ = _ := hcs' 0 _ rfl
      have x1 := hcs' 1 _ rfl
      have x2 := hcs' 2 _ rfl
      have x3 := hcs' 3 _ rfl
      have x4 := hcs' 4 _ rfl
      have x5 := hcs' 5 _ rfl
      have x6 := hcs' 6 _ rfl
      have x7 := hcs' 7 _ rfl
      have x8 := hcs' 8 _ rfl
      have x9 := hcs' 9 _ rfl
      have x10 := hcs' 10 _ rfl
      have x11 := hcs' 11 _ rfl
      have x12 := hcs' 12 _ rfl
      have hbl : b < wr.heap.size := hbb
      have hi0 : (0 : Int) ≤ (i : Int) := by omega
      have hlt' : (i : Int) < (n : Int) := by omega
      obtain ⟨a1, a2, a3, a4⟩ := Hs.out.2 f (List.mem_of_getElem? hf)
      have hsn : l.take (i + 1) = l.take i ++ [f] := by
        obtain ⟨h1, h2⟩ := List.getElem?_eq_some_iff.1 hf
        rw [List.take_succ_eq_append_getElem h1, h2]
      have hbs := bitsS_snoc (l.take i) f k r
      rw [← hsn, HB2.out] at hbs
      have hqs : (l.take (i + 1)).any (fun f => f.kind == k && f.report == r) = (q || (f.kind == k && f.report == r)) := by
        rw [hsn, List.any_append, Hq.out]; simp
      have Hbs := hide hbs
      have Hqs := hide hqs
      have hp1 : f.size * f.count ≤ 32 * f.count := Int.mul_le_mul_of_nonneg_right (by omega) (by omega)
      have hp2 : 1 * f.count ≤ f.size * f.count := Int.mul_le_mul_of_nonneg_right (by omega) (by omega)
      have hw1 : IntKind.i64.wrap (f.size * f.count) = f.size * f.count := by rw [IntKind.wrap_i64]; omega
      have hw2 : IntKind.i64.wrap (B + f.size * f.count) = B + f.size * f.count := by rw [IntKind.wrap_i64]; omega
      have hm1 : min f.size 32 = f.size := by omega
      have hm2 : max f.size 0 = f.size := by omega
      have hm3 : min f.count 256 = f.count := by omega
      have hm4 : max f.count 0 = f.count := by omega
      clear hcs hcs' hf hsn hbs hqs
      by_cases c1 : f.kind = k
      · by_cases c2 : f.report = r
        · have e : (f.kind == k && f.report == r) = true := by simp [c1, c2]
          have d1 : (f.kind == k) = true := by simpa using c1
          have d2 : (f.report == r) = true := by simpa using c2
          have E := hide e
          clear e c1 c2
          go_wp2_with fail
          go_roundg (gk - 1)
          case measure => have := Hi.out; omega
          case rel =>
            refine ⟨i + 1, by have := Hi.out; omega, by go_num, ?_, ?_, by go_grown⟩
            · rw [Hbs.out, E.out]; rfl
            · rw [Hqs.out, E.out, Bool.or_true]
        · have e : (f.kind == k && f.report == r) = false := by simp [c2]
          have d1 : (f.kind == k) = true := by simpa using c1
          have d2 : (f.report == r) = false := by simpa using c2
          have E := hide e
          clear e c1 c2
          go_wp2_with fail
          go_roundg (gk - 1)
          case measure => have := Hi.out; omega
          case rel =>
            refine ⟨i + 1, by have := Hi.out; omega, by go_num, ?_, ?_, by go_grown⟩
            · rw [Hbs.out, E.out]; simp
            · rw [Hqs.out, E.out, Bool.or_false]
      · have e : (f.kind == k && f.report == r) = false := by simp [c1]
        have d1 : (f.kind == k) = false := by simpa using c1
        have E := hide e
        clear e c1
        go_wp2_with fail
        go_roundg (gk - 1)
        case measure => have := Hi.out; omega
        case rel =>
          refine ⟨i + 1, by have := Hi.out; omega, by go_num, ?_, ?_, by go_grown⟩
          · rw [Hbs.out, E.out]; simp
          · rw [Hqs.out, E.out, Bool.or_false]
    · have hge : (n : Int) ≤ (i : Int) := by omega
      have hin : i = n := by have := Hi.out; omega
      have htk : l.take i = l := by rw [hin, ← Hn.out]; exact List.take_length
      have h1 := HB2.out
      have h2 := Hq.out
      rw [htk] at h1 h2
      have hR : lenS nb l k r = (B + 7) / 8 + if q && nb then 1 else 0 := by unfold lenS; rw [h1, h2]
      have HR := hide hR
      clear hR h1 h2 htk hin
      have hw1 : IntKind.i64.wrap (B + 7) = B + 7 := by rw [IntKind.wrap_i64]; omega
      cases q with
      | false =>
        go_wp2_with fail
        go_ret
        exact ⟨ret_int (by rw [HR.out]; simp), HkW.out.trans' hk⟩
      | true =>
        cases nb with
        | false =>
          go_wp2_with fail
          go_ret
          exact ⟨ret_int (by rw [HR.out]; simp), HkW.out.trans' hk⟩
        | true =>
          go_wp2_with fail
          go_ret
          exact ⟨ret_int (by rw [HR.out]; simp), HkW.out.trans' hk⟩
end Go.Proofs.Ytegdigfcgeoboaa
/- Equal fields; Find. -/
namespace Go.Proofs.Ytegdigfcgeoboaa
open Go.RowKit
attribute [local go_sem ↓] Go.wp_at_zero Go.wp_at_succ

set_option maxRecDepth 100000 in
set_option maxHeartbeats 4000000 in
theorem same_eq (f : Fd) (A1 A2 : Option Addr) (w : World) (hn : f.usages.length ≤ maxLen) (h1 : Sl u32T w (low w.heap.size) A1 f.usages.length f.usages) (h2 : Sl u32T w (low w.heap.size) A2 f.usages.length f.usages) :
    Calls Try.prog 24 #[.agg (f.cells A1).toArray, .agg (f.cells A2).toArray] w fun e w' => e = .returned (.bool true) ∧ Kept w w' := by
  unfold maxLen at hn
  unfold Fd.cells
  obtain ⟨n, hn0⟩ : ∃ n, f.usages.length = n := ⟨_, rfl⟩
  rw [hn0] at hn h1 h2 ⊢
  have Hn := hide hn0
  clear hn0
  go_enter Try.func24, Try.ntmps24
  go_upto_region 3 with (fail)
  refine wp_at (fun W => W.heap[w.heap.size]? = some (.cells #[.int .u8 f.kind, .int .u8 f.report, .int .i64 f.parent, .slice A1 n n, .int .i64 f.lo, .int .i64 f.hi, .int .i64 f.size, .int .i64 f.count, .int .i64 f.pos, .bool f.const, .bool f.array, .bool f.signed, .bool f.rel] 59 (0, 0)) ∧
      W.heap[w.heap.size + 1]? = some (.cells #[.int .u8 f.kind, .int .u8 f.report, .int .i64 f.parent, .slice A2 n n, .int .i64 f.lo, .int .i64 f.hi, .int .i64 f.size, .int .i64 f.count, .int .i64 f.pos, .bool f.const, .bool f.array, .bool f.signed, .bool f.rel] 59 (0, 0)) ∧ Kept w W) ⟨heap_past (heap_at _ rfl), heap_at _ (by simp), by go_grown⟩ (fun W hW => ?_)
  obtain ⟨hB1, hB2, hkW⟩ := hW
  have HB1 := hide hB1
  have HB2 := hide hB2
  have HkW := hide hkW
  clear hB1 hB2 hkW
  go_wp2_with fail
  go_loopg [5] n (fun g s5 wr => ∃ i : Nat, i + g = n ∧ s5 = .int .i64 i ∧ Kept W wr)
  case atStart => exact ⟨0, by omega, rfl, Below.refl _ _⟩
  case round =>
    obtain ⟨i, hi, rfl, hk⟩ := hrel
    have Hi := hide hi
    have b1 := heap_kept hk HB1.out
    have b2 := heap_kept hk HB2.out
    have l1 := heap_lt b1
    have l2 := heap_lt b2
    have p0 : wr.cell? ⟨w.heap.size, 0, none⟩ = _ := cell_heap b1 (o := 0) rfl
    have p1 : wr.cell? ⟨w.heap.size, 1, none⟩ = _ := cell_heap b1 (o := 1) rfl
    have p2 : wr.cell? ⟨w.heap.size, 2, none⟩ = _ := cell_heap b1 (o := 2) rfl
    have p3 : wr.cell? ⟨w.heap.size, 3, none⟩ = some (.slice A1 n n) := cell_heap b1 (o := 3) rfl
    have p4 : wr.cell? ⟨w.heap.size, 4, none⟩ = _ := cell_heap b1 (o := 4) rfl
    have p5 : wr.cell? ⟨w.heap.size, 5, none⟩ = _ := cell_heap b1 (o := 5) rfl
    have p6 : wr.cell? ⟨w.heap.size, 6, none⟩ = _ := cell_heap b1 (o := 6) rfl
    have p7 : wr.cell? ⟨w.heap.size, 7, none⟩ = _ := cell_heap b1 (o := 7) rfl
    have p8 : wr.cell? ⟨w.heap.size, 8, none⟩ = _ := cell_heap b1 (o := 8) rfl
    have p9 : wr.cell? ⟨w.heap.size, 9, none⟩ = _ := cell_heap b1 (o := 9) rfl
    have p10 : wr.cell? ⟨w.heap.size, 10, none⟩ = _ := cell_heap b1 (o := 10) rfl
    have p11 : wr.cell? ⟨w.heap.size, 11, none⟩ = _ := cell_heap b1 (o := 11) rfl
    have p12 : wr.cell? ⟨w.heap.size, 12, none⟩ = _ := cell_heap b1 (o := 12) rfl
    have q0 : wr.cell? ⟨w.heap.size + 1, 0, none⟩ = _ := cell_heap b2 (o := 0) rfl
    have q1 : wr.cell? ⟨w.heap.size + 1, 1, none⟩ = _ := cell_heap b2 (o := 1) rfl
    have q2 : wr.cell? ⟨w.heap.size + 1, 2, none⟩ = _ := cell_heap b2 (o := 2) rfl
    have q3 : wr.cell? ⟨w.heap.size + 1, 3, none⟩ = some (.slice A2 n n) := cell_heap b2 (o := 3) rfl
    have q4 : wr.cell? ⟨w.heap.size + 1, 4, none⟩ = _ := cell_heap b2 (o := 4) rfl
    have q5 : wr.cell? ⟨w.heap.size + 1, 5, none⟩ = _ := cell_heap b2 (o := 5) rfl
    have q6 : wr.cell? ⟨w.heap.size + 1, 6, none⟩ = _ := cell_heap b2 (o := 6) rfl
    have q7 : wr.cell? ⟨w.heap.size + 1, 7, none⟩ = _ := cell_heap b2 (o := 7) rfl
    have q8 : wr.cell? ⟨w.heap.size + 1, 8, none⟩ = _ := cell_heap b2 (o := 8) rfl
    have q9 : wr.cell? ⟨w.heap.size + 1, 9, none⟩ = _ := cell_heap b2 (o := 9) rfl
    have q10 : wr.cell? ⟨w.heap.size + 1, 10, none⟩ = _ := cell_heap b2 (o := 10) rfl
    have q11 : wr.cell? ⟨w.heap.size + 1, 11, none⟩ = _ := cell_heap b2 (o := 11) rfl
    have q12 : wr.cell? ⟨w.heap.size + 1, 12, none⟩ = _ := cell_heap b2 (o := 12) rfl
    clear hi b1 b2
    by_cases hlt : i < n
    · obtain ⟨x, b, off, cs, hx, rfl, hbb, ⟨rfl, _⟩, hcs⟩ := (h1.kept (HkW.out.trans' hk)).at hlt
      obtain ⟨x', b', off', cs', hx', rfl, hbb', ⟨rfl, _⟩, hcs'⟩ := (h2.kept (HkW.out.trans' hk)).at hlt
      obtain rfl : x' = x := Option.some.inj (hx'.symm.trans hx)
      have x0 : wr.cell? ⟨b, off + i, none⟩ = some (.int .u32 x') := by have := hcs 0 _ rfl; simpa [u32T, Ty.flat] using this
      have y0 : wr.cell? ⟨b', off' + i, none⟩ = some (.int .u32 x') := by have := hcs' 0 _ rfl; simpa [u32T, Ty.flat] using this
      have hbl : b < wr.heap.size := hbb
      have hbl' : b' < wr.heap.size := hbb'
      have hi0 : (0 : Int) ≤ (i : Int) := by omega
      have hlt' : (i : Int) < (n : Int) := by omega
      clear hx hx' hcs hcs'
      go_wp2_with fail
      go_quiet (fail)
      go_wp2_with fail
      go_roundg (gk - 1)
      case measure => have := Hi.out; omega
      case rel => exact ⟨i + 1, by have := Hi.out; omega, by go_num, below_drewN hk _⟩
    · have hge : (n : Int) ≤ (i : Int) := by omega
      go_wp2_with fail
      go_ret
      exact ⟨rfl, HkW.out.trans' hk⟩
/-- a field that Find may choose -/
def Hit (k u : Int) (f : Fd) : Prop := f.kind = k ∧ f.const = false ∧ u ∈ f.usages
def FindIs (l : List Fd) (k u : Int) (a b e : Int) : Prop :=
  (∃ (i : Nat) (f : Fd) (n : Int), l[i]? = some f ∧ Hit k u f ∧ (∀ j g, j < i → l[j]? = some g → ¬ Hit k u g) ∧ IdxIs f.usages u n ∧ a = i ∧ b = (if f.array then n else min n (f.count - 1)) ∧ e = 0) ∨
  ((∀ f ∈ l, ¬ Hit k u f) ∧ a = 0 ∧ b = 0 ∧ e = 7)
theorem idx_mem {l : List Int} {u i : Int} (h : IdxIs l u i) : (0 ≤ i ∧ u ∈ l) ∨ (i = -1 ∧ u ∉ l) := by
  rcases h with ⟨k, rfl, h1, _⟩ | h
  · exact .inl ⟨by omega, List.mem_of_getElem? h1⟩
  · exact .inr h
end Go.Proofs.Ytegdigfcgeoboaa
/- Find. -/
namespace Go.Proofs.Ytegdigfcgeoboaa
open Go.RowKit
attribute [local go_sem ↓] Go.wp_at_zero Go.wp_at_succ

set_option maxRecDepth 100000 in
set_option maxHeartbeats 4000000 in
theorem find23 (A C : Option Addr) (n c nc cc : Nat) (nb : Bool) (l : List Fd) (k u : Int) (w : World) (hn : n ≤ 256) (hcs : ∀ f ∈ l, 1 ≤ f.count ∧ f.count ≤ 256) (hl : Sl fdT w (low w.heap.size) A n l) :
    Calls Try.prog 23 #[.agg #[.slice A n c, .slice C nc cc, .bool nb], .int .u8 k, .int .u32 u] w fun e w' => (∃ a b r, e = .returned (.tuple #[.int .i64 a, .int .i64 b, .int .i64 r]) ∧ FindIs l k u a b r) ∧ Kept w w' := by
  have Hcs := hide hcs
  clear hcs
  go_enter Try.func23, Try.ntmps23
  go_wp2_with fail
  refine wp_at (fun W => Kept w W) (by go_grown) (fun W hkW => ?_)
  have HkW := hide hkW
  clear hkW
  go_loopg [15] n (fun g s15 wr => ∃ i : Nat, i + g = n ∧ s15 = .int .i64 i ∧ Kept W wr ∧ Hid (∀ j g, j < i → l[j]? = some g → ¬ Hit k u g))
  case atStart => exact ⟨0, by omega, rfl, Below.refl _ _, fun j g hj => by omega⟩
  case round =>
    obtain ⟨i, hi, rfl, hk, hno⟩ := hrel
    have Hi := hide hi
    have hkz := hk.size
    clear hi
    by_cases hlt : i < n
    · obtain ⟨f, b, off, cs, hf, rfl, hbb, ⟨A', rfl, hul, hsu⟩, hcs⟩ := (hl.kept (HkW.out.trans' hk)).at hlt
      have hcs' : ∀ (j : Nat) v, (f.cells A')[j]? = some v → wr.cell? ⟨b, off + i * 13 + j, none⟩ = some v := fun j v h => hcs j v h
      have x0 : wr.cell? ⟨b, off + i * 13, none⟩ = _ := hcs' 0 _ rfl
      have x1 := hcs' 1 _ rfl
      have x2 := hcs' 2 _ rfl
      have x3 := hcs' 3 _ rfl
      have x4 := hcs' 4 _ rfl
      have x5 := hcs' 5 _ rfl
      have x6 := hcs' 6 _ rfl
      have x7 := hcs' 7 _ rfl
      have x8 := hcs' 8 _ rfl
      have x9 := hcs' 9 _ rfl
      have x10 := hcs' 10 _ rfl
      have x11 := hcs' 11 _ rfl
      have x12 := hcs' 12 _ rfl
      have hbl : b < wr.heap.size := hbb
      have hi0 : (0 : Int) ≤ (i : Int) := by omega
      have hlt' : (i : Int) < (n : Int) := by omega
      obtain ⟨a3, a4⟩ := Hcs.out f (List.mem_of_getElem? hf)
      have hix : ∀ w' : World, Kept wr w' → Calls Try.prog 36 #[.slice A' f.usages.length f.usages.length, .int .u32 u] w' fun e w'' => (∃ i, e = .returned (.int .i64 i) ∧ Hid (IdxIs f.usages u i)) ∧ w' = w'' := fun w' hk' => index36 A' _ _ f.usages u w' hul (hsu.kept hk')
      have hul' := hul
      unfold maxLen at hul'
      have hw1 : IntKind.i64.wrap (f.count - 1) = f.count - 1 := by rw [IntKind.wrap_i64]; omega
      have Hf := hide hf
      have next : ¬ Hit k u f → ∀ j g, j < i + 1 → l[j]? = some g → ¬ Hit k u g := fun hnh j g hj hg => by
        by_cases e : j = i
        · subst e
          rw [Hf.out] at hg
          injection hg with hg
          subst hg
          exact hnh
        · exact hno.out j g (by omega) hg
      have Next := hide next
      clear hcs hcs' hf hul hsu next
      by_cases c1 : f.kind = k
      · have d1 : (f.kind != k) = false := by simpa using c1
        have C1 := hide c1
        clear c1
        cases c2 : f.const with
        | true =>
          rw [c2] at x9
          have Hnh := hide (show ¬ Hit k u f from fun h => by rw [h.2.1] at c2; cases c2)
          clear c2
          go_wp2_with (go_at_call 36; refine (hix _ (by go_grown)).mono ?_; rintro e w1 ⟨⟨z, rfl, hz⟩, rfl⟩)
          go_roundg (gk - 1)
          case measure => have := Hi.out; omega
          case rel => exact ⟨i + 1, by have := Hi.out; omega, by go_num, by go_grown, hide (Next.out Hnh.out)⟩
        | false =>
          rw [c2] at x9
          have C2 := hide c2
          clear c2
          cases c3 : f.array with
          | true =>
            rw [c3] at x10
            have C3 := hide c3
            clear c3
            go_wp2_with (go_at_call 36; refine (hix _ (by go_grown)).mono ?_; rintro e w1 ⟨⟨z, rfl, hz⟩, rfl⟩)
            · have hzz : z < 0 := by first | assumption | omega
              have Hnh := hide (show ¬ Hit k u f from fun h => by
                rcases idx_mem hz.out with ⟨h1, _⟩ | ⟨_, h1⟩
                · omega
                · exact h1 h.2.2)
              go_roundg (gk - 1)
              case measure => have := Hi.out; omega
              case rel => exact ⟨i + 1, by have := Hi.out; omega, by go_num, by go_grown, hide (Next.out Hnh.out)⟩
            · have hzz : 0 ≤ z := by first | assumption | omega
              have hmem : u ∈ f.usages := by
                rcases idx_mem hz.out with ⟨_, h1⟩ | ⟨h1, _⟩
                · exact h1
                · omega
              go_ret3
              refine ⟨⟨i, z, 0, rfl, .inl ⟨i, f, z, Hf.out, ⟨C1.out, C2.out, hmem⟩, hno.out, hz.out, rfl, ?_, rfl⟩⟩, HkW.out.trans' (hk.trans' (by go_grown))⟩
              rw [C3.out]; simp
          | false =>
            rw [c3] at x10
            have C3 := hide c3
            clear c3
            go_wp2_with (go_at_call 36; refine (hix _ (by go_grown)).mono ?_; rintro e w1 ⟨⟨z, rfl, hz⟩, rfl⟩)
            · have hzz : z < 0 := by first | assumption | omega
              have Hnh := hide (show ¬ Hit k u f from fun h => by
                rcases idx_mem hz.out with ⟨h1, _⟩ | ⟨_, h1⟩
                · omega
                · exact h1 h.2.2)
              go_roundg (gk - 1)
              case measure => have := Hi.out; omega
              case rel => exact ⟨i + 1, by have := Hi.out; omega, by go_num, by go_grown, hide (Next.out Hnh.out)⟩
            all_goals
              have hzz : 0 ≤ z := by first | assumption | omega
              have hmem : u ∈ f.usages := by
                rcases idx_mem hz.out with ⟨_, h1⟩ | ⟨h1, _⟩
                · exact h1
                · omega
              go_ret3
              refine ⟨⟨i, _, 0, rfl, .inl ⟨i, f, z, Hf.out, ⟨C1.out, C2.out, hmem⟩, hno.out, hz.out, rfl, ?_, rfl⟩⟩, HkW.out.trans' (hk.trans' (by go_grown))⟩
              rw [C3.out]; simp <;> omega
      · have d1 : (f.kind != k) = true := by simpa using c1
        have Hnh := hide (show ¬ Hit k u f from fun h => c1 h.1)
        clear c1
        go_wp2_with (go_at_call 36; refine (hix _ (by go_grown)).mono ?_; rintro e w1 ⟨⟨z, rfl, hz⟩, rfl⟩)
        go_roundg (gk - 1)
        case measure => have := Hi.out; omega
        case rel => exact ⟨i + 1, by have := Hi.out; omega, by go_num, by go_grown, hide (Next.out Hnh.out)⟩
    · have hge : (n : Int) ≤ (i : Int) := by omega
      go_wp2_with fail
      go_ret3
      refine ⟨⟨0, 0, 7, rfl, .inr ⟨fun f hf => ?_, rfl, rfl, rfl⟩⟩, HkW.out.trans' hk⟩
      obtain ⟨j, hj, rfl⟩ := List.getElem_of_mem hf
      have hln := hl.1
      exact hno.out j _ (by omega) (List.getElem?_eq_getElem hj)
end Go.Proofs.Ytegdigfcgeoboaa
