/- Of; Fits. -/
import Derived.Test.YtjgncofhobhjdaaDoorChecked
import Derived.Deep.RegionHeld3
import Derived.Deep.DrawnRows
import Derived.Deep.DeepCutAuto
import Derived.Deep.LoopGhost
import Derived.Outline
import Derived.Handy
import Derived.OwnWalk
import Derived.BigQuiet
import Derived.Test.YtjgncofhobhjdaaDoorYoK
import Derived.Deep.RegionLaw
import Derived.Test.YtjgncofhobhjdaaDoorN4
set_option linter.unusedVariables false
set_option linter.unusedSimpArgs false
set_option linter.unusedSectionVars false
/- Of, as the laws use it: the configuration is read alone. No condition but that the plain data lie in memory as they read. -/
namespace Go.Proofs.YtjgncofhobhjdaaDoor
open Go.RowKit
theorem LIs.cfg {base : Nat} {w : World} {A : Option Addr} {c : Nat} {L : List LF} {C : Cfg} (h : LIs base w (.slice A C.ifs.length c) L) (hp : plainL L = C.ifs) (hd : C.d.ok) (hc : L.length ≤ c) (hm : c ≤ maxLen) :
    CfgIs w (fun b => base ≤ b ∧ b < w.heap.size) C A c := by
  have hl : L.length = C.ifs.length := by rw [← hp]; unfold plainL; rw [List.length_map]
  have hs := h.sl hl
  rw [hp] at hs
  exact ⟨hd, by rw [← hl]; exact hc, hm, hs⟩
theorem of_plain (x : PC) (A : Option Addr) (cap : Nat) (w : World) (hC : PcIs w x A cap) (hbig : bigS x = false) (hx : x.ok) :
    Calls Tryd.prog 14 #[.agg (x.cells A cap).toArray] w fun e w' => (∃ A' c', e = .returned (.agg ((ofS x).cells A' c').toArray) ∧ CfgIs w' (low w'.heap.size) (ofS x) A' c') ∧ Kept w w' := by
  refine (of_any x A cap w hC hbig hx).mono ?_
  rintro e w' ⟨⟨A', c', L', he, hp, hc, hm, hl⟩, hk⟩
  exact ⟨⟨A', c', he, (hl.cfg hp (of_ok hbig hx).1 hc hm).keep (fun b hb => hb.2) (fun _ _ _ => rfl)⟩, hk⟩
end Go.Proofs.YtjgncofhobhjdaaDoor
/- An endpoint fits a speed: descriptors.Fits, and what it calls. No condition. -/
namespace Go.Proofs.YtjgncofhobhjdaaDoor
open Go.RowKit
attribute [local go_sem ↓] Go.wp_at_zero Go.wp_at_succ

def fitsZ (m s : Int) : Bool := if s = 0 then m == 8 else if s = 1 then m == 8 || m == 16 || m == 32 || m == 64 else s == 2 && m == 64
theorem fitsZ_any (m s : Int) (w : World) : Calls Tryd.prog 68 #[.int .i64 m, .int .u8 s] w fun e w' => e = .returned (.bool (fitsZ m s)) ∧ Kept w w' := by
  obtain ⟨r, hr⟩ : ∃ r, fitsZ m s = r := ⟨_, rfl⟩
  rw [hr]
  unfold fitsZ at hr
  by_cases h0 : s = 0
  · rw [if_pos h0] at hr
    subst h0
    subst hr
    go_enter Tryd.func68, Tryd.ntmps68
    go_wp2_with fail
    go_ret
    exact ⟨rfl, by go_grown⟩
  rw [if_neg h0] at hr
  have q0 : (s == 0) = false := by simpa using h0
  by_cases h1 : s = 1
  · rw [if_pos h1] at hr
    subst h1
    have Hr := hide hr
    clear hr
    by_cases g8 : m = 8
    · subst g8
      go_enter Tryd.func68, Tryd.ntmps68
      go_wp2_with fail
      go_ret
      exact ⟨by rw [← Hr.out]; rfl, by go_grown⟩
    have k8 : (m == 8) = false := by simpa using g8
    by_cases g16 : m = 16
    · subst g16
      go_enter Tryd.func68, Tryd.ntmps68
      go_wp2_with fail
      go_ret
      exact ⟨by rw [← Hr.out]; rfl, by go_grown⟩
    have k16 : (m == 16) = false := by simpa using g16
    by_cases g32 : m = 32
    · subst g32
      go_enter Tryd.func68, Tryd.ntmps68
      go_wp2_with fail
      go_ret
      exact ⟨by rw [← Hr.out]; rfl, by go_grown⟩
    have k32 : (m == 32) = false := by simpa using g32
    go_enter Tryd.func68, Tryd.ntmps68
    go_wp2_with fail
    go_ret
    exact ⟨by rw [← Hr.out, k8, k16, k32]; rfl, by go_grown⟩
  rw [if_neg h1] at hr
  have q1 : (s == 1) = false := by simpa using h1
  have Hr := hide hr
  clear hr
  by_cases h2 : s = 2
  · subst h2
    go_enter Tryd.func68, Tryd.ntmps68
    go_wp2_with fail
    go_ret
    exact ⟨by rw [← Hr.out]; rfl, by go_grown⟩
  have q2 : (s == 2) = false := by simpa using h2
  go_enter Tryd.func68, Tryd.ntmps68
  go_wp2_with fail
  go_ret
  exact ⟨by rw [← Hr.out, q2]; rfl, by go_grown⟩
/-- the most bytes of a speed -/
def mostS (a b c s : Int) : Int := if s = 0 then a else if s = 1 then b else c
set_option maxHeartbeats 4000000 in
theorem most_any (a b c s mx : Int) (pe ps : Nat) (w : World) (hs : s = 0 ∨ s = 1 ∨ s = 2) (he : w.cell? ⟨pe, 3, none⟩ = some (.int .u16 mx)) (hp : w.cell? ⟨ps, 0, none⟩ = some (.int .u8 s)) (le : pe < w.heap.size) (ls : ps < w.heap.size) :
    Calls Tryd.prog 67 #[.int .u16 a, .int .u16 b, .int .u16 c, .pointer (some ⟨pe, 0, none⟩), .pointer (some ⟨ps, 0, none⟩)] w fun e w' => e = .returned (.bool (decide (mx ≤ mostS a b c s))) ∧ Kept w w' := by
  rcases hs with rfl | rfl | rfl
  all_goals
    go_enter Tryd.func67, Tryd.ntmps67
    go_upto_region 1 with (fail)
    go_region_law (fail)
    all_goals go_wp2_with fail
    all_goals go_ret
    all_goals exact ⟨rfl, by go_grown⟩
/-- whether an endpoint fits a speed -/
def fitsE (e : EpD) (s : Int) : Bool := okEp e && decide (s ≤ 2) &&
  (if e.kind = 1 then decide (e.max ≤ mostS 0 1023 1024 s) else if e.kind = 3 then decide (e.max ≤ mostS 8 64 1024 s) && (s != 2 || decide (e.ivl ≤ 16)) else (s == 1 && fitsZ e.max s) || (s == 2 && e.max == 512))
set_option maxRecDepth 100000 in
set_option maxHeartbeats 4000000 in
theorem dfits_any (e : EpD) (s : Int) (w : World) (he : e.ok) (hs : u8k s) : Calls Tryd.prog 28 #[.agg e.cells.toArray, .int .u8 s] w fun r w' => r = .returned (.bool (fitsE e s)) ∧ Kept w w' := by
  have hv := fun w => validEp_any e w he
  obtain ⟨r, hr⟩ : ∃ r, fitsE e s = r := ⟨_, rfl⟩
  obtain ⟨s0, s1⟩ := hs
  rw [hr]
  unfold fitsE at hr
  obtain ⟨nu, inn, kd, mx, iv⟩ := e
  obtain ⟨_, _, ⟨m0, m1⟩, ⟨i0, i1⟩⟩ := id he
  simp only at hr m0 m1 i0 i1
  obtain ⟨v, hvv⟩ : ∃ v, okEp ⟨nu, inn, kd, mx, iv⟩ = v := ⟨_, rfl⟩
  rw [hvv] at hr hv
  unfold EpD.cells at hv ⊢
  clear hvv he
  go_enter Tryd.func28, Tryd.ntmps28
  go_upto_region 1 with (fail)
  refine wp_at (fun W => W.heap[w.heap.size]? = some (.cells #[.int .u8 nu, .bool inn, .int .u8 kd, .int .u16 mx, .int .u8 iv] 59 (0, 0)) ∧ W.heap[w.heap.size + 1]? = some (.cells #[.int .u8 s] 74 (0, 0)) ∧ Kept w W) ⟨heap_past (heap_at _ rfl), heap_at _ (by simp), by go_grown⟩ (fun W hW => ?_)
  obtain ⟨hE, hS, hkW⟩ := hW
  obtain ⟨pe, hpe⟩ : ∃ pe, w.heap.size = pe := ⟨_, rfl⟩
  obtain ⟨ps, hps⟩ : ∃ ps, pe + 1 = ps := ⟨_, rfl⟩
  rw [hpe, hps] at hS
  rw [hpe] at hE
  simp only [hpe, hps]
  have HkW := hide hkW
  clear hpe hps hkW
  have lE := heap_lt hE
  have lS := heap_lt hS
  have e0 := cell_heap hE (o := 0) rfl
  have e1 := cell_heap hE (o := 1) rfl
  have e2 := cell_heap hE (o := 2) rfl
  have e3 := cell_heap hE (o := 3) rfl
  have e4 := cell_heap hE (o := 4) rfl
  have c0 := cell_heap hS (o := 0) rfl
  have HE := hide hE
  have HS := hide hS
  clear hE hS
  have hne : ∀ k : Int, kd ≠ k → (kd == k) = false := fun k h => by simpa using h
  have hns : ∀ k : Int, s ≠ k → (s == k) = false := fun k h => by simpa using h
  by_cases hc : v = true ∧ s ≤ 2
  case neg =>
    have hrf : r = false := by
      rw [← hr]
      cases v with
      | false => rfl
      | true =>
        have : ¬ s ≤ 2 := fun h => hc ⟨rfl, h⟩
        simp [this]
    clear hr hne hns
    subst hrf
    cases v with
    | false =>
      clear hc
      go_wp2_with (go_at_call 66; refine (hv _).mono ?_; rintro e w1 ⟨rfl, hk1⟩)
      go_ret
      exact ⟨rfl, HkW.out.trans' hk1⟩
    | true =>
      have h2 : 2 < s := by
        have : ¬ s ≤ 2 := fun h => hc ⟨rfl, h⟩
        omega
      clear hc
      go_wp2_with (go_at_call 66; refine (hv _).mono ?_; rintro e w1 ⟨rfl, hk1⟩; have c1 := cell_heap (heap_kept hk1 HS.out) (o := 0) rfl)
      go_ret
      exact ⟨rfl, HkW.out.trans' hk1⟩
  case pos =>
  obtain ⟨rfl, h2⟩ := hc
  have h3 : s = 0 ∨ s = 1 ∨ s = 2 := by omega
  have h2' : ¬ 2 < s := by omega
  have hmost := fun (a b c : Int) (w1 : World) (hk : Kept W w1) => most_any a b c s mx pe ps w1 h3 (cell_heap (heap_kept hk HE.out) (o := 3) rfl) (cell_heap (heap_kept hk HS.out) (o := 0) rfl) (heap_lt (heap_kept hk HE.out)) (heap_lt (heap_kept hk HS.out))
  by_cases k1 : kd = 1
  · subst k1
    have hrf : r = decide (mx ≤ mostS 0 1023 1024 s) := by rw [← hr]; simp [h2]
    have hm := hmost 0 1023 1024
    rw [← hrf] at hm
    clear hr hrf hmost hne hns
    go_wp2_with (first
      | (go_at_call 66; refine (hv _).mono ?_; rintro e w1 ⟨rfl, hk1⟩; have c1 := cell_heap (heap_kept hk1 HS.out) (o := 0) rfl; have d2 := cell_heap (heap_kept hk1 HE.out) (o := 2) rfl)
      | (go_at_call 67; refine (hm _ (by assumption)).mono ?_; rintro e w2 ⟨rfl, hk2⟩))
    go_ret
    exact ⟨rfl, (HkW.out.trans' hk1).trans' hk2⟩
  have g1 := hne 1 k1
  by_cases k3 : kd = 3
  · subst k3
    obtain ⟨q, hq⟩ : ∃ q, decide (mx ≤ mostS 8 64 1024 s) = q := ⟨_, rfl⟩
    have hm := hmost 8 64 1024
    rw [hq] at hm
    have hrf : r = (q && (s != 2 || decide (iv ≤ 16))) := by rw [← hr, ← hq]; simp [h2]
    clear hr hmost hq hne
    have Hrf := hide hrf
    clear hrf
    have W2 := hns 2
    cases q with
    | false =>
      clear W2 hns
      go_wp2_with (first
        | (go_at_call 66; refine (hv _).mono ?_; rintro e w1 ⟨rfl, hk1⟩; have c1 := cell_heap (heap_kept hk1 HS.out) (o := 0) rfl; have d2 := cell_heap (heap_kept hk1 HE.out) (o := 2) rfl)
        | (go_at_call 67; refine (hm _ (by assumption)).mono ?_; rintro e w2 ⟨rfl, hk2⟩))
      go_ret
      exact ⟨by rw [Hrf.out]; rfl, (HkW.out.trans' hk1).trans' hk2⟩
    | true =>
      by_cases s2 : s = 2
      · subst s2
        clear W2 hns
        by_cases i16 : iv ≤ 16
        · go_wp2_with (first
            | (go_at_call 66; refine (hv _).mono ?_; rintro e w1 ⟨rfl, hk1⟩; have c1 := cell_heap (heap_kept hk1 HS.out) (o := 0) rfl; have d2 := cell_heap (heap_kept hk1 HE.out) (o := 2) rfl)
            | (go_at_call 67; refine (hm _ (by assumption)).mono ?_; rintro e w2 ⟨rfl, hk2⟩; have c2 := cell_heap (heap_kept hk2 (heap_kept hk1 HS.out)) (o := 0) rfl; have d4 := cell_heap (heap_kept hk2 (heap_kept hk1 HE.out)) (o := 4) rfl))
          go_ret
          exact ⟨by rw [Hrf.out]; simp [i16], (HkW.out.trans' hk1).trans' hk2⟩
        · go_wp2_with (first
            | (go_at_call 66; refine (hv _).mono ?_; rintro e w1 ⟨rfl, hk1⟩; have c1 := cell_heap (heap_kept hk1 HS.out) (o := 0) rfl; have d2 := cell_heap (heap_kept hk1 HE.out) (o := 2) rfl)
            | (go_at_call 67; refine (hm _ (by assumption)).mono ?_; rintro e w2 ⟨rfl, hk2⟩; have c2 := cell_heap (heap_kept hk2 (heap_kept hk1 HS.out)) (o := 0) rfl; have d4 := cell_heap (heap_kept hk2 (heap_kept hk1 HE.out)) (o := 4) rfl))
          go_ret
          exact ⟨by rw [Hrf.out]; simp [i16], (HkW.out.trans' hk1).trans' hk2⟩
      · have g2 := W2 s2
        clear W2 hns
        go_wp2_with (first
          | (go_at_call 66; refine (hv _).mono ?_; rintro e w1 ⟨rfl, hk1⟩; have c1 := cell_heap (heap_kept hk1 HS.out) (o := 0) rfl; have d2 := cell_heap (heap_kept hk1 HE.out) (o := 2) rfl)
          | (go_at_call 67; refine (hm _ (by assumption)).mono ?_; rintro e w2 ⟨rfl, hk2⟩; have c2 := cell_heap (heap_kept hk2 (heap_kept hk1 HS.out)) (o := 0) rfl; have d4 := cell_heap (heap_kept hk2 (heap_kept hk1 HE.out)) (o := 4) rfl))
        go_ret
        exact ⟨by rw [Hrf.out]; simp [bne, g2], (HkW.out.trans' hk1).trans' hk2⟩
  have g3 := hne 3 k3
  have hrf : r = ((s == 1 && fitsZ mx s) || (s == 2 && mx == 512)) := by rw [← hr]; simp [h2, k1, k3]
  have Hrf := hide hrf
  clear hr hrf hmost hne
  have hmw : IntKind.i64.wrap mx = mx := by rw [IntKind.wrap_i64]; omega
  have hz := fun w' => fitsZ_any mx s w'
  by_cases s1' : s = 1
  · subst s1'
    clear hns
    obtain ⟨q, hq⟩ : ∃ q, fitsZ mx 1 = q := ⟨_, rfl⟩
    rw [hq] at hz
    have Hq := hide hq
    clear hq
    cases q <;>
    · go_wp2_with (first
        | (go_at_call 66; refine (hv _).mono ?_; rintro e w1 ⟨rfl, hk1⟩; have c1 := cell_heap (heap_kept hk1 HS.out) (o := 0) rfl; have d2 := cell_heap (heap_kept hk1 HE.out) (o := 2) rfl; have d3 := cell_heap (heap_kept hk1 HE.out) (o := 3) rfl)
        | (go_at_call 68; refine (hz _).mono ?_; rintro e w2 ⟨rfl, hk2⟩; have c2 := cell_heap (heap_kept hk2 (heap_kept hk1 HS.out)) (o := 0) rfl))
      go_ret
      exact ⟨by rw [Hrf.out, Hq.out]; rfl, (HkW.out.trans' hk1).trans' hk2⟩
  have t1 := hns 1 s1'
  by_cases s2' : s = 2
  · subst s2'
    clear hns hz
    by_cases m5 : mx = 512
    · subst m5
      go_wp2_with (go_at_call 66; refine (hv _).mono ?_; rintro e w1 ⟨rfl, hk1⟩; have c1 := cell_heap (heap_kept hk1 HS.out) (o := 0) rfl; have d2 := cell_heap (heap_kept hk1 HE.out) (o := 2) rfl; have d3 := cell_heap (heap_kept hk1 HE.out) (o := 3) rfl)
      go_ret
      exact ⟨by rw [Hrf.out]; rfl, HkW.out.trans' hk1⟩
    · have n5 : (mx == 512) = false := by simpa using m5
      go_wp2_with (go_at_call 66; refine (hv _).mono ?_; rintro e w1 ⟨rfl, hk1⟩; have c1 := cell_heap (heap_kept hk1 HS.out) (o := 0) rfl; have d2 := cell_heap (heap_kept hk1 HE.out) (o := 2) rfl; have d3 := cell_heap (heap_kept hk1 HE.out) (o := 3) rfl)
      go_ret
      exact ⟨by rw [Hrf.out, n5]; rfl, HkW.out.trans' hk1⟩
  have t2 := hns 2 s2'
  clear hns hz
  go_wp2_with (go_at_call 66; refine (hv _).mono ?_; rintro e w1 ⟨rfl, hk1⟩; have c1 := cell_heap (heap_kept hk1 HS.out) (o := 0) rfl; have d2 := cell_heap (heap_kept hk1 HE.out) (o := 2) rfl; have d3 := cell_heap (heap_kept hk1 HE.out) (o := 3) rfl)
  go_ret
  exact ⟨by rw [Hrf.out, t1, t2]; rfl, HkW.out.trans' hk1⟩
end Go.Proofs.YtjgncofhobhjdaaDoor
/- configurations.Fits: all endpoints fit. No condition but that the configuration lies in memory as it reads. -/
namespace Go.Proofs.YtjgncofhobhjdaaDoor
open Go.RowKit
attribute [local go_sem ↓] Go.wp_at_zero Go.wp_at_succ

def fitsA (s : Int) (a : Alt) : Bool := a.eps.all fun e => fitsE e s
def fitsI (s : Int) (l : List Alt) : Bool := l.all (fitsA s)
def fitsC (c : Cfg) (s : Int) : Bool := c.ifs.all (fitsI s)
theorem all_takeS {α : Type} (f : α → Bool) {l : List α} {i : Nat} {x : α} (h : l[i]? = some x) : (l.take (i + 1)).all f = ((l.take i).all f && f x) := by
  obtain ⟨h1, h2⟩ := List.getElem?_eq_some_iff.1 h
  rw [List.take_succ_eq_append_getElem h1, h2, List.all_append]
  simp
theorem all_false {α : Type} {f : α → Bool} {l : List α} {x : α} (h : x ∈ l) (hf : f x = false) : l.all f = false := by
  rw [List.all_eq_false]
  exact ⟨x, h, by simp [hf]⟩
set_option maxRecDepth 100000 in
set_option maxHeartbeats 4000000 in
theorem cfits_any (c : Cfg) (A : Option Addr) (cap : Nat) (s : Int) (w : World) (hC : CfgIs w (low w.heap.size) c A cap) (hs8 : u8k s) :
    Calls Tryd.prog 29 #[.agg (c.cells A cap).toArray, .int .u8 s] w fun e w' => e = .returned (.bool (fitsC c s)) ∧ Kept w w' := by
  obtain ⟨n, hn⟩ : ∃ n, c.ifs.length = n := ⟨_, rfl⟩
  have hnc := hC.len
  have hcm := hC.cap
  rw [hn] at hnc
  unfold maxLen at hcm
  obtain ⟨⟨d0, d1, d2, d3, d4, d5, d6⟩, L⟩ := c
  unfold Cfg.cells CfgD.cells
  simp only at hn ⊢
  rw [hn]
  obtain ⟨R, hR⟩ : ∃ R, fitsC ⟨⟨d0, d1, d2, d3, d4, d5, d6⟩, L⟩ s = R := ⟨_, rfl⟩
  rw [hR]
  have hRL : L.all (fitsI s) = R := hR
  have HC := hide hC
  have Hn := hide hn
  have HR := hide hRL
  have Hs8 := hide hs8
  clear hC hn hR hRL
  go_enter Tryd.func29, Tryd.ntmps29
  go_wp2_with fail
  refine wp_at (fun W => Kept w W) (by go_grown) (fun W hkW => ?_)
  go_loopg [14] n (fun g s14 wr => ∃ i : Nat, i + g = n ∧ s14 = .int .i64 i ∧ Kept w wr ∧ (L.take i).all (fitsI s) = true)
  case atStart => exact ⟨0, by omega, rfl, hkW, rfl⟩
  case round =>
    obtain ⟨i, hi, rfl, hk, hall⟩ := hrel
    have Hi := hide hi
    have Hall := hide hall
    clear hi hall
    by_cases hlt : i < n
    case neg =>
      have hge : (n : Int) ≤ (i : Int) := by omega
      have htk : L.take i = L := List.take_of_length_le (by have := Hn.out; omega)
      have hRt : R = true := by rw [← HR.out, ← htk]; exact Hall.out
      subst hRt
      clear htk
      go_wp2_with fail
      go_ret
      exact ⟨rfl, hk⟩
    case pos =>
    obtain ⟨x, b, off, A', c', hx, rfl, hbl, x0, hxc, hcm', hs⟩ := if_at HC.out hk (i := i) (by rw [Hn.out]; exact hlt)
    have hmem := List.mem_of_getElem? hx
    have h2 := all_takeS (fitsI s) (l := L) hx
    obtain ⟨m, hm⟩ : ∃ m, x.length = m := ⟨_, rfl⟩
    rw [hm] at x0 hxc hs
    have hi0 : (0 : Int) ≤ (i : Int) := by omega
    have hlt' : (i : Int) < (n : Int) := by omega
    unfold maxLen at hcm'
    have H2 := hide h2
    have Hm := hide hm
    have Hmem := hide hmem
    clear hx h2 hm hmem
    have hwi : IntKind.i64.wrap ((i : Int) + 1) = ((i + 1 : Nat) : Int) := by rw [IntKind.wrap_i64]; omega
    go_wp2_with fail
    obtain ⟨wo, rfl⟩ : ∃ wo, wo = wr := ⟨_, rfl⟩
    obtain ⟨go, rfl⟩ : ∃ go, go = gk := ⟨_, rfl⟩
    refine wp_at (fun V => Kept w V) (hk.trans' (by go_grown)) (fun V hkV => ?_)
    go_loopg [21] m (fun g s21 wr => ∃ j : Nat, j + g = m ∧ s21 = .int .i64 j ∧ Kept w wr ∧ (x.take j).all (fitsA s) = true)
    case atStart => exact ⟨0, by omega, rfl, hkV, rfl⟩
    case round =>
      clear hkV hk x0
      obtain ⟨j, hj, rfl, hk2, hall2⟩ := hrel
      have Hj := hide hj
      have Hall2 := hide hall2
      clear hj hall2
      by_cases hlj : j < m
      case neg =>
        have hge : (m : Int) ≤ (j : Int) := by omega
        have htk : x.take j = x := List.take_of_length_le (by have := Hm.out; omega)
        have hxt : fitsI s x = true := by
          have h := Hall2.out
          rw [htk] at h
          exact h
        have Hxt := hide hxt
        clear htk hxt
        go_wp2_with fail
        go_roundg (go - 1)
        case measure => have := Hi.out; omega
        case rel => exact ⟨i + 1, by have := Hi.out; omega, rfl, hk2, by rw [H2.out, Hall.out, Hxt.out]; rfl⟩
      case pos =>
      obtain ⟨a, b2, off2, X, cx, E, ce, ha, rfl, hbl2, hcells, hdo, q1, q2, q3, q4, q5, q6⟩ := alt_at hs hk2 hlj
      have h4 := all_takeS (fitsA s) (l := x) ha
      have ham := List.mem_of_getElem? ha
      unfold maxLen at q2 q4
      have y0 := hcells 0 _ rfl
      rw [Nat.add_zero] at y0
      have y1 := hcells 1 _ rfl
      have y2 := hcells 2 _ rfl
      have y3 := hcells 3 _ rfl
      have y4 := hcells 4 _ rfl
      have y5 := hcells 5 _ rfl
      have y6 := hcells 6 _ rfl
      have y7 := hcells 7 _ rfl
      have y8 := hcells 8 _ rfl
      have hj0 : (0 : Int) ≤ (j : Int) := by omega
      have hlj' : (j : Int) < (m : Int) := by omega
      obtain ⟨e1, he1⟩ : ∃ e1, a.extra.length = e1 := ⟨_, rfl⟩
      obtain ⟨e2, he2⟩ : ∃ e2, a.eps.length = e2 := ⟨_, rfl⟩
      rw [he1] at q1 y7
      rw [he2] at q3 y8 q6
      have H4 := hide h4
      have Ham := hide ham
      have He2 := hide he2
      have hwj : IntKind.i64.wrap ((j : Int) + 1) = ((j + 1 : Nat) : Int) := by rw [IntKind.wrap_i64]; omega
      clear hcells ha h4 ham he1 he2 q5
      go_wp2_with fail
      obtain ⟨wj, rfl⟩ : ∃ wj, wj = wr := ⟨_, rfl⟩
      obtain ⟨gj, rfl⟩ : ∃ gj, gj = gk := ⟨_, rfl⟩
      refine wp_at (fun V => Kept w V) (hk2.trans' (by go_grown)) (fun V2 hkV2 => ?_)
      go_loopg [28] e2 (fun g s28 wr => ∃ k : Nat, k + g = e2 ∧ s28 = .int .i64 k ∧ Kept w wr ∧ (a.eps.take k).all (fun e => fitsE e s) = true)
      case atStart => exact ⟨0, by omega, rfl, hkV2, rfl⟩
      case round =>
        clear hkV2 hk2 y0 y1 y2 y3 y4 y5 y6 y7 y8
        obtain ⟨k, hk, rfl, hk3, hall3⟩ := hrel
        have Hk := hide hk
        have Hall3 := hide hall3
        clear hk hall3
        by_cases hlk : k < e2
        case neg =>
          have hge : (e2 : Int) ≤ (k : Int) := by omega
          have htk : a.eps.take k = a.eps := List.take_of_length_le (by have := He2.out; omega)
          have hat : fitsA s a = true := by
            have h := Hall3.out
            rw [htk] at h
            exact h
          have Hat := hide hat
          clear htk hat
          go_wp2_with fail
          go_roundg (gj - 1)
          case measure => have := Hj.out; omega
          case rel => exact ⟨j + 1, by have := Hj.out; omega, rfl, hk3, by rw [H4.out, Hall2.out, Hat.out]; rfl⟩
        case pos =>
        obtain ⟨e, b3, off3, cs, hee, rfl, hb3, hrel', hce⟩ := q6.at hlk
        obtain ⟨rfl, heok⟩ : cs = e.cells ∧ e.ok := hrel'
        have h5 := all_takeS (fun e => fitsE e s) (l := a.eps) hee
        have hem := List.mem_of_getElem? hee
        have hb3' : b3 < wr.heap.size := Nat.lt_of_lt_of_le hb3 hk3.size
        have y := fun (o : Nat) v (hv : e.cells[o]? = some v) => (hk3.cell (p := ⟨b3, off3 + k * 5 + o, none⟩) hb3).trans (hce o v hv)
        have z0 := y 0 _ rfl
        rw [Nat.add_zero] at z0
        have z1 := y 1 _ rfl
        have z2 := y 2 _ rfl
        have z3 := y 3 _ rfl
        have z4 := y 4 _ rfl
        have hcall := fun w' => dfits_any e s w' heok Hs8.out
        obtain ⟨r, hr⟩ : ∃ r, fitsE e s = r := ⟨_, rfl⟩
        rw [hr] at h5 hcall
        unfold EpD.cells at hcall
        have hk0 : (0 : Int) ≤ (k : Int) := by omega
        have hlk' : (k : Int) < (e2 : Int) := by omega
        have hwk : IntKind.i64.wrap ((k : Int) + 1) = ((k + 1 : Nat) : Int) := by rw [IntKind.wrap_i64]; omega
        have H5 := hide h5
        have Hem := hide hem
        have Hr := hide hr
        clear y hce hee h5 hem hr heok
        cases r with
        | false =>
          have hRf : R = false := by
            rw [← HR.out]
            exact all_false Hmem.out (all_false Ham.out (all_false Hem.out Hr.out))
          subst hRf
          go_wp2_with (go_at_call 28; refine (hcall _).mono ?_; rintro e5 w5 ⟨rfl, hk5⟩)
          go_ret
          exact ⟨rfl, (hk3.trans' (by go_grown)).trans' hk5⟩
        | true =>
          go_wp2_with (go_at_call 28; refine (hcall _).mono ?_; rintro e5 w5 ⟨rfl, hk5⟩)
          go_roundg (gk - 1)
          case measure => have := Hk.out; omega
          case rel => exact ⟨k + 1, by have := Hk.out; omega, rfl, (hk3.trans' (by go_grown)).trans' hk5, by rw [H5.out, Hall3.out]; rfl⟩
end Go.Proofs.YtjgncofhobhjdaaDoor
