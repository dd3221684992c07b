
/- The comparison of offers, and the greatest of a list. The list reads as offers. -/
import Derived.Test.YtgkhenplbljbbaaChecked
import Derived.Deep.RegionHeld3
import Derived.Deep.DrawnRows
import Derived.Deep.DeepCutAuto
import Derived.Deep.LoopGhost
import Derived.Outline
import Derived.Handy
import Derived.Deep.RegionLaw
import Derived.Test.YtgkhenplbljbbaaEc
set_option linter.unusedVariables false
set_option linter.unusedSimpArgs false
set_option linter.unusedSectionVars false
namespace Go.Proofs.Ytgkhenplbljbbaa
open Go.RowKit
attribute [local go_sem ↓] Go.wp_at_zero Go.wp_at_succ

set_option maxHeartbeats 1000000 in
theorem less_any (n1 n2 m1 m2 s1 s2 : Int) (A1 A2 : Option Addr) (k1 k2 c1 c2 : Nat) (w : World) :
    Calls Try.prog 35 #[.agg #[.int .u8 n1, .slice A1 k1 c1, .int .i64 m1, .int .i64 s1], .agg #[.int .u8 n2, .slice A2 k2 c2, .int .i64 m2, .int .i64 s2]] w fun e w' =>
      e = .returned (.int .i64 (orI (cmpI m1 m2) (cmpI s1 s2))) ∧ Kept w w' := by
  go_enter Try.func35, Try.ntmps35
  go_wp2_with fail
  refine wp_name (B := w.heap.size) (w0 := w) (by go_grown) (fun W hcW hfW hz hkW => ?_)
  simp only [World.size_alloc] at hz
  go_region_held3 (fun w' => (∀ b o, b < W.heap.size → w'.cell? ⟨b, o, none⟩ = W.cell? ⟨b, o, none⟩) ∧ Below W.heap.size W w') (first | assumption | exact since_start | exact since_keep (by assumption) (Nat.le_refl _) hk | exact since_alloc (by assumption) (Nat.le_refl _)) (first
    | (go_at_call 37; refine (cmp_any _ _ _).mono ?_; rintro e w1 ⟨rfl, rfl⟩)
    | (go_at_call 36; refine (or_any _ _ (cmpI m1 m2) (cmpI s1 s2) _ (by exact cell_of_row _ _ _ _ 3 (0, 0) (heap_drew (heap_at _ hz.symm))) (by exact cell_of_row _ _ _ _ 3 (0, 0) (heap_drew (heap_at _ hz.symm))) (by simp; omega)).mono ?_; rintro e w1 ⟨rfl, rfl⟩))
  all_goals
    go_wp2
    go_ret
    exact ⟨by rfl, since_kept hkW (by assumption) (Nat.le_refl _)⟩

theorem ofr_at {w w' : World} {B n k : Nat} {A : Option Addr} {l : List Ofr} {F : Nat → Prop} (h : Sl ofrT w F A n l) (hF : ∀ b, F b → b < B) (hb : Below B w w') (hk : k < n) : ∃ o b off A', l[k]? = some o ∧ A = some ⟨b, off, none⟩ ∧ b < B ∧ b < w'.heap.size ∧ o.drv.length ≤ maxLen ∧
    w'.cell? ⟨b, off + k * 4, none⟩ = some (.int .u8 o.num) ∧ w'.cell? ⟨b, off + k * 4 + 1, none⟩ = some (.slice A' o.drv.length o.drv.length) ∧ w'.cell? ⟨b, off + k * 4 + 2, none⟩ = some (.int .i64 o.many) ∧ w'.cell? ⟨b, off + k * 4 + 3, none⟩ = some (.int .i64 o.sum) ∧
    Sl i64T w F A' o.drv.length o.drv := by
  obtain ⟨o, b, off, cs, hx, hA, hbf, ⟨A', rfl, h1, hs⟩, hc⟩ := h.at hk
  have hbb := hF b hbf
  have hc' := range_below hc hb hbb
  exact ⟨o, b, off, A', hx, hA, hbb, World.block_lt_of_cell? w' _ (hc' 0 _ rfl), h1, hc' 0 _ rfl, hc' 1 _ rfl, hc' 2 _ rfl, hc' 3 _ rfl, hs⟩
theorem stepB_more {o b : Ofr} (h : moreB o b = true) : stepB (some b) o = some o := by simp [stepB, h]
theorem stepB_less {o b : Ofr} (h : moreB o b = false) : stepB (some b) o = some b := by simp [stepB, h]
theorem bestB_take {l : List Ofr} {k : Nat} {o : Ofr} (h : l[k]? = some o) : bestB (l.take (k + 1)) = stepB (bestB (l.take k)) o := by
  obtain ⟨hk, e⟩ := List.getElem?_eq_some_iff.1 h
  rw [List.take_succ_eq_append_getElem hk, bestB_snoc, e]

/-- the cells of an offer -/
def OfrC (W : World) (m : Nat) (o : Ofr) (A : Option Addr) : Prop := W.cell? ⟨m, 0, none⟩ = some (.int .u8 o.num) ∧ W.cell? ⟨m, 1, none⟩ = some (.slice A o.drv.length o.drv.length) ∧ W.cell? ⟨m, 2, none⟩ = some (.int .i64 o.many) ∧ W.cell? ⟨m, 3, none⟩ = some (.int .i64 o.sum) ∧
  W.frozen? ⟨m, 0, none⟩ = false ∧ W.frozen? ⟨m, 1, none⟩ = false ∧ W.frozen? ⟨m, 2, none⟩ = false ∧ W.frozen? ⟨m, 3, none⟩ = false
theorem OfrC.kept {W W' : World} {m : Nat} {o : Ofr} {A : Option Addr} (h : OfrC W m o A) (hm : m < W.heap.size) (hk : Kept W W') : OfrC W' m o A := by
  obtain ⟨h0, h1, h2, h3, h4, h5, h6, h7⟩ := h
  refine ⟨(hk.cell (p := ⟨m, 0, none⟩) hm).trans h0, (hk.cell (p := ⟨m, 1, none⟩) hm).trans h1, (hk.cell (p := ⟨m, 2, none⟩) hm).trans h2, (hk.cell (p := ⟨m, 3, none⟩) hm).trans h3,
    (hk.frozen (p := ⟨m, 0, none⟩) hm).trans h4, (hk.frozen (p := ⟨m, 1, none⟩) hm).trans h5, (hk.frozen (p := ⟨m, 2, none⟩) hm).trans h6, (hk.frozen (p := ⟨m, 3, none⟩) hm).trans h7⟩

set_option maxRecDepth 100000 in
set_option maxHeartbeats 2000000 in
theorem max_any (A : Option Addr) (n c : Nat) (l : List Ofr) (w : World) (F : Nat → Prop) (hF : ∀ b, F b → b < w.heap.size) (hn : n ≤ maxLen) (h0 : 0 < n) (hl : Sl ofrT w F A n l) :
    Calls Try.prog 34 #[.slice A n c, .func (.func 35) #[] #[]] w fun e w' => ∃ o A', bestB l = some o ∧ e = .returned (.agg #[.int .u8 o.num, .slice A' o.drv.length o.drv.length, .int .i64 o.many, .int .i64 o.sum]) ∧
      o.drv.length ≤ maxLen ∧ Sl i64T w F A' o.drv.length o.drv ∧ Kept w w' := by
  unfold maxLen at hn
  have hll := hide hl.1
  obtain ⟨o, b, off, A', ho, rfl, hbw, _, hol, c0, c1, c2, c3, hsl⟩ := ofr_at hl hF (Below.refl _ _) h0
  have Ho := hide ho
  have Hol := hide hol
  simp only [Nat.zero_mul, Nat.add_zero] at c0 c1 c2 c3
  clear ho hol
  have h0' : (1 : Int) ≤ (n : Int) := by omega
  go_enter Try.func34, Try.ntmps34
  go_wp2_with fail
  go_loopg [6] n (fun g s6 wr => ∃ i : Nat, i + g = n + 1 ∧ 1 ≤ i ∧ i ≤ n ∧ s6 = .int .i64 i ∧ ∃ o A', Hid (bestB (l.take i) = some o) ∧ Hid (o.drv.length ≤ maxLen) ∧ Hid (Sl i64T w F A' o.drv.length o.drv) ∧ Kept w wr ∧ w.heap.size + 1 < wr.heap.size ∧ OfrC wr (w.heap.size + 1) o A' ∧ OfrC wr w.heap.size ⟨0, [], 0, 0⟩ none)
  case atStart =>
    refine ⟨1, by omega, by omega, by omega, rfl, o, A', ?_, Hol, hide hsl, by go_grown, by simp, ?_, ?_⟩
    · show bestB (l.take (0 + 1)) = some o
      rw [bestB_take Ho.out]; rfl
    · refine ⟨?_, ?_, ?_, ?_, ?_, ?_, ?_, ?_⟩ <;> go_simp
    · refine ⟨?_, ?_, ?_, ?_, ?_, ?_, ?_, ?_⟩ <;> go_simp <;> rfl
  case round =>
    clear c0 c1 c2 c3 Ho Hol hsl
    obtain ⟨i, hi, hi1, hin0, rfl, o, A', Hb, Hol, Hsl, hkw, hsz, ⟨m0, m1, m2, m3, f0, f1, f2, f3⟩, HZ⟩ := hrel
    have hszz : w.heap.size < wr.heap.size := by omega
    have Hi := hide hi
    clear hi
    by_cases hlt : i < n
    · obtain ⟨x, b2, off2, A2, hx, he, hbw2, hbr2, hxl, x0, x1, x2, x3, hxs⟩ := ofr_at hl hF hkw hlt
      injection he with he
      injection he with he1 he2 _
      subst he1 he2
      have Hx := hide hx
      have Hxl := hide hxl
      have Hxs := hide hxs
      clear hx hxl hxs
      have hlt' : (i : Int) < (n : Int) := by omega
      have hi0 : (0 : Int) ≤ (i : Int) := by omega
      have hmc := more_cmp x o
      cases hm : moreB x o
      · rw [hm] at hmc
        have hmc' := hide (of_decide_eq_false hmc)
        clear hmc
        go_wp2_with fail
        go_region_held3 (fun w' => (∀ b o, b < wr.heap.size → w'.cell? ⟨b, o, none⟩ = wr.cell? ⟨b, o, none⟩) ∧ Below wr.heap.size wr w') (first | assumption | exact since_start | exact since_keep (by assumption) (Nat.le_refl _) hk) (first
          | (go_at_call 35; refine (less_any _ _ _ _ _ _ _ _ _ _ _ _ _).mono ?_; rintro e w1 ⟨rfl, hk⟩))
        have hS := (‹(∀ b o, b < wr.heap.size → _) ∧ Below wr.heap.size wr w1›).2
        have hmc := hmc'.out
        go_wp2_with fail
        go_roundg (gk - 1)
        case measure => have := Hi.out; omega
        case rel => exact ⟨i + 1, by have := Hi.out; omega, by omega, by omega, by go_num, o, A', hide (by rw [bestB_take Hx.out, Hb.out, stepB_less hm]), Hol, Hsl, hkw.trans' hS, Nat.lt_of_lt_of_le hsz hS.size, OfrC.kept ⟨m0, m1, m2, m3, f0, f1, f2, f3⟩ hsz hS, HZ.kept hszz hS⟩
      · rw [hm] at hmc
        have hmc' := hide (of_decide_eq_true hmc)
        clear hmc
        go_wp2_with fail
        go_region_held3 (fun w' => (∀ b o, b < wr.heap.size → w'.cell? ⟨b, o, none⟩ = wr.cell? ⟨b, o, none⟩) ∧ Below wr.heap.size wr w') (first | assumption | exact since_start | exact since_keep (by assumption) (Nat.le_refl _) hk) (first
          | (go_at_call 35; refine (less_any _ _ _ _ _ _ _ _ _ _ _ _ _).mono ?_; rintro e w1 ⟨rfl, hk⟩))
        have hS := (‹(∀ b o, b < wr.heap.size → _) ∧ Below wr.heap.size wr w1›).2
        have hmc := hmc'.out
        obtain ⟨m0, m1, m2, m3, f0, f1, f2, f3⟩ := OfrC.kept ⟨m0, m1, m2, m3, f0, f1, f2, f3⟩ hsz hS
        have hsz1 := Nat.lt_of_lt_of_le hsz hS.size
        have hkw1 := hkw.trans' hS
        have hbr1 := Nat.lt_of_lt_of_le hbr2 hS.size
        have x0 := (hS.cell (p := ⟨b, off + i * 4, none⟩) hbr2).trans x0
        have x1 := (hS.cell (p := ⟨b, off + i * 4 + 1, none⟩) hbr2).trans x1
        have x2 := (hS.cell (p := ⟨b, off + i * 4 + 2, none⟩) hbr2).trans x2
        have x3 := (hS.cell (p := ⟨b, off + i * 4 + 3, none⟩) hbr2).trans x3
        go_wp2_with fail
        go_roundg (gk - 1)
        case measure => have := Hi.out; omega
        case rel => exact ⟨i + 1, by have := Hi.out; omega, by omega, by omega, by go_num, x, A2, hide (by rw [bestB_take Hx.out, Hb.out, stepB_more hm]), Hxl, Hxs, by go_grown, by simp; omega, by refine ⟨?_, ?_, ?_, ?_, ?_, ?_, ?_, ?_⟩ <;> go_simp, by have HK := HZ.kept hszz hS; obtain ⟨z0, z1, z2, z3, _, _, _, _⟩ := HZ; obtain ⟨_, _, _, _, e0, e1, e2, e3⟩ := HK; refine ⟨?_, ?_, ?_, ?_, ?_, ?_, ?_, ?_⟩ <;> first | (go_simp; done) | (go_simp; first | exact z0 | exact z1 | exact z2 | exact z3 | assumption)⟩
    · have hin : i = l.length := by have := Hi.out; have := hll.out; omega
      have Hb' := hide (show bestB l = some o by have := Hb.out; rwa [hin, List.take_length] at this)
      clear hin
      obtain ⟨z0, z1, z2, z3, e0, e1, e2, e3⟩ := HZ
      go_wp2
      refine bodyPost_ret (v := .agg #[.int .u8 o.num, .slice A' o.drv.length o.drv.length, .int .i64 o.many, .int .i64 o.sum]) (by simp [results, Try.results34, go_sem, *]) rfl ?_
      exact ⟨o, Hb'.out, A', rfl, Hol.out, Hsl.out, by go_grown⟩
end Go.Proofs.Ytgkhenplbljbbaa
