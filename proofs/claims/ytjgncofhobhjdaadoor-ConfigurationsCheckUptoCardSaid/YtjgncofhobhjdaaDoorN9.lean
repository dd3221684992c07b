/- Check, Encode, Same. -/
import Derived.Test.YtjgncofhobhjdaaDoorChecked
import Derived.Deep.RegionHeld3
import Derived.Deep.DrawnRows
import Derived.Deep.DeepCutAuto
import Derived.Deep.LoopGhost
import Derived.Outline
import Derived.Handy
import Derived.OwnWalk
import Derived.BigQuiet
import Derived.Test.YtjgncofhobhjdaaDoorN8
import Derived.Test.YtjgncofhobhjdaaDoorSqK
import Derived.Test.YtjgncofhobhjdaaDoorN4
set_option linter.unusedVariables false
set_option linter.unusedSimpArgs false
set_option linter.unusedSectionVars false
/- Check and Encode of a configuration. Printed by gen_st.py. -/
namespace Go.Proofs.YtjgncofhobhjdaaDoor
open Go.RowKit
attribute [local go_sem ↓] Go.wp_at_zero Go.wp_at_succ

def many1 : List Alt → Bool := fun l : List Alt => decide (16 < l.length)
theorem many1_eq {l : List Alt} {m : Nat} (hm : l.length = m) : decide ((16 : Int) < (m : Int)) = many1 l := by
  show _ = decide (16 < l.length)
  exact decide_eq_decide.2 (by omega)
theorem check1_any (A : Option Addr) (m c : Nat) (l : List Alt) (w : World) (hm : l.length = m) (hmc : m ≤ c) (hcm : c ≤ maxLen) :
    Calls Tryd.prog 46 #[.agg #[.slice A m c]] w fun e w' => e = .returned (.bool (many1 l)) ∧ Kept w w' := by
  rw [← many1_eq hm]
  unfold maxLen at hcm
  clear hm
  go_enter Tryd.func46, Tryd.ntmps46
  go_wp2
  go_ret
  exact ⟨rfl, by go_grown⟩
set_option maxRecDepth 100000 in
set_option maxHeartbeats 1000000 in
theorem ixIf1_any (A : Option Addr) (n c : Nat) (L : List (List Alt)) (w : World) (hnc : n ≤ c) (hc : c ≤ maxLen) (hl : Sl ifT w (low w.heap.size) A n L) :
    Calls Tryd.prog 87 #[.slice A n c, .func (.func 46) #[] #[]] w fun e w' => (∃ i : Int, e = .returned (.int .i64 i) ∧ decide (0 ≤ i) = L.any many1) ∧ Kept w w' := by
  unfold maxLen at hc
  go_enter Tryd.func87, Tryd.ntmps87
  go_wp2_with fail
  go_loopg [8] n (fun g s8 wr => ∃ i : Nat, i + g = n ∧ s8 = .int .i64 i ∧ Kept w wr ∧ ∀ j p, j < i → L[j]? = some p → many1 p = false)
  case atStart => exact ⟨0, by omega, rfl, Below.refl _ _, fun j f hj => by omega⟩
  case round =>
    obtain ⟨i, hi, rfl, hk, hno⟩ := hrel
    have Hno := hide hno
    have Hi := hide hi
    clear hno hi
    by_cases hlt : i < n
    · obtain ⟨p, b, off, cs, hp, rfl, hbb, ⟨A', c', rfl, hq1, hq2, hs⟩, hcs⟩ := (hl.kept hk).at hlt
      have x0 : wr.cell? ⟨b, off + i, none⟩ = some (.slice A' p.length c') := by have := hcs 0 _ rfl; simpa [Ty.slice] using this
      have hbl : b < wr.heap.size := hbb
      have hz := check1_any A' p.length c' p wr rfl hq1 hq2
      have hi0 : (0 : Int) ≤ (i : Int) := by omega
      have hlt' : (i : Int) < (n : Int) := by omega
      have Hp := hide hp
      obtain ⟨r, hr⟩ : ∃ r, many1 p = r := ⟨_, rfl⟩
      rw [hr] at hz
      have Hr := hide hr
      clear hcs hp hr
      cases r with
      | true =>
        go_wp2_with (go_at_call 46; refine hz.mono ?_; rintro e w1 ⟨rfl, hk1⟩)
        go_ret
        refine ⟨⟨i, rfl, ?_⟩, hk.trans' hk1⟩
        rw [show L.any many1 = true from List.any_eq_true.2 ⟨p, List.mem_of_getElem? Hp.out, Hr.out⟩]
        simp
      | false =>
        go_wp2_with (go_at_call 46; refine hz.mono ?_; rintro e w1 ⟨rfl, hk1⟩)
        go_roundg (gk - 1)
        case measure => have := Hi.out; omega
        case rel =>
          refine ⟨i + 1, by have := Hi.out; omega, by go_num, hk.trans' hk1, fun j g hj hg => ?_⟩
          by_cases e : j = i
          · subst e
            rw [Hp.out] at hg
            injection hg with hg
            subst hg
            exact Hr.out
          · exact Hno.out j g (by omega) hg
    · have hge : (n : Int) ≤ (i : Int) := by omega
      go_wp2_with fail
      go_ret
      refine ⟨⟨-1, rfl, ?_⟩, hk⟩
      have e : L.any many1 = false := by
        rw [List.any_eq_false]
        intro f hf
        obtain ⟨j, hj, rfl⟩ := List.getElem_of_mem hf
        have hln := hl.1
        have hii := Hi.out
        simpa using Hno.out j L[j] (by omega) (List.getElem?_eq_getElem hj)
      rw [e]; rfl
set_option maxRecDepth 100000 in
theorem anyIf1_any (A : Option Addr) (n c : Nat) (L : List (List Alt)) (w : World) (hnc : n ≤ c) (hc : c ≤ maxLen) (hl : Sl ifT w (low w.heap.size) A n L) :
    Calls Tryd.prog 45 #[.slice A n c, .func (.func 46) #[] #[]] w fun e w' => e = .returned (.bool (L.any many1)) ∧ Kept w w' := by
  have h56 := ixIf1_any A n c L w hnc hc hl
  go_enter Tryd.func45, Tryd.ntmps45
  go_wp2_with (go_at_call 87; refine h56.mono ?_; rintro e w1 ⟨⟨i, rfl, hi⟩, hk⟩)
  go_ret
  exact ⟨rfl, hk⟩
def many2 : List Alt → Bool := fun l : List Alt => l.isEmpty
theorem many2_eq {l : List Alt} {m : Nat} (hm : l.length = m) : ((m : Int) == 0) = many2 l := by
  cases l with
  | nil => simp only [List.length_nil] at hm; subst hm; rfl
  | cons x l =>
    simp only [List.length_cons] at hm
    show ((m : Int) == 0) = false
    simp
    omega
theorem check2_any (A : Option Addr) (m c : Nat) (l : List Alt) (w : World) (hm : l.length = m) (hmc : m ≤ c) (hcm : c ≤ maxLen) :
    Calls Tryd.prog 49 #[.agg #[.slice A m c]] w fun e w' => e = .returned (.bool (many2 l)) ∧ Kept w w' := by
  rw [← many2_eq hm]
  unfold maxLen at hcm
  clear hm
  go_enter Tryd.func49, Tryd.ntmps49
  go_wp2
  go_ret
  exact ⟨rfl, by go_grown⟩
set_option maxRecDepth 100000 in
set_option maxHeartbeats 1000000 in
theorem ixIf2_any (A : Option Addr) (n c : Nat) (L : List (List Alt)) (w : World) (hnc : n ≤ c) (hc : c ≤ maxLen) (hl : Sl ifT w (low w.heap.size) A n L) :
    Calls Tryd.prog 87 #[.slice A n c, .func (.func 49) #[] #[]] w fun e w' => (∃ i : Int, e = .returned (.int .i64 i) ∧ decide (0 ≤ i) = L.any many2) ∧ Kept w w' := by
  unfold maxLen at hc
  go_enter Tryd.func87, Tryd.ntmps87
  go_wp2_with fail
  go_loopg [8] n (fun g s8 wr => ∃ i : Nat, i + g = n ∧ s8 = .int .i64 i ∧ Kept w wr ∧ ∀ j p, j < i → L[j]? = some p → many2 p = false)
  case atStart => exact ⟨0, by omega, rfl, Below.refl _ _, fun j f hj => by omega⟩
  case round =>
    obtain ⟨i, hi, rfl, hk, hno⟩ := hrel
    have Hno := hide hno
    have Hi := hide hi
    clear hno hi
    by_cases hlt : i < n
    · obtain ⟨p, b, off, cs, hp, rfl, hbb, ⟨A', c', rfl, hq1, hq2, hs⟩, hcs⟩ := (hl.kept hk).at hlt
      have x0 : wr.cell? ⟨b, off + i, none⟩ = some (.slice A' p.length c') := by have := hcs 0 _ rfl; simpa [Ty.slice] using this
      have hbl : b < wr.heap.size := hbb
      have hz := check2_any A' p.length c' p wr rfl hq1 hq2
      have hi0 : (0 : Int) ≤ (i : Int) := by omega
      have hlt' : (i : Int) < (n : Int) := by omega
      have Hp := hide hp
      obtain ⟨r, hr⟩ : ∃ r, many2 p = r := ⟨_, rfl⟩
      rw [hr] at hz
      have Hr := hide hr
      clear hcs hp hr
      cases r with
      | true =>
        go_wp2_with (go_at_call 49; refine hz.mono ?_; rintro e w1 ⟨rfl, hk1⟩)
        go_ret
        refine ⟨⟨i, rfl, ?_⟩, hk.trans' hk1⟩
        rw [show L.any many2 = true from List.any_eq_true.2 ⟨p, List.mem_of_getElem? Hp.out, Hr.out⟩]
        simp
      | false =>
        go_wp2_with (go_at_call 49; refine hz.mono ?_; rintro e w1 ⟨rfl, hk1⟩)
        go_roundg (gk - 1)
        case measure => have := Hi.out; omega
        case rel =>
          refine ⟨i + 1, by have := Hi.out; omega, by go_num, hk.trans' hk1, fun j g hj hg => ?_⟩
          by_cases e : j = i
          · subst e
            rw [Hp.out] at hg
            injection hg with hg
            subst hg
            exact Hr.out
          · exact Hno.out j g (by omega) hg
    · have hge : (n : Int) ≤ (i : Int) := by omega
      go_wp2_with fail
      go_ret
      refine ⟨⟨-1, rfl, ?_⟩, hk⟩
      have e : L.any many2 = false := by
        rw [List.any_eq_false]
        intro f hf
        obtain ⟨j, hj, rfl⟩ := List.getElem_of_mem hf
        have hln := hl.1
        have hii := Hi.out
        simpa using Hno.out j L[j] (by omega) (List.getElem?_eq_getElem hj)
      rw [e]; rfl
set_option maxRecDepth 100000 in
theorem anyIf2_any (A : Option Addr) (n c : Nat) (L : List (List Alt)) (w : World) (hnc : n ≤ c) (hc : c ≤ maxLen) (hl : Sl ifT w (low w.heap.size) A n L) :
    Calls Tryd.prog 45 #[.slice A n c, .func (.func 49) #[] #[]] w fun e w' => e = .returned (.bool (L.any many2)) ∧ Kept w w' := by
  have h56 := ixIf2_any A n c L w hnc hc hl
  go_enter Tryd.func45, Tryd.ntmps45
  go_wp2_with (go_at_call 87; refine h56.mono ?_; rintro e w1 ⟨⟨i, rfl, hi⟩, hk⟩)
  go_ret
  exact ⟨rfl, hk⟩
theorem check_parts (c : Cfg) : checkS c = if decide (16 < c.ifs.length) || decide (4096 < sizeS c) || c.ifs.any many1 then 3 else if validS c && countedS c && apartS c && !(c.ifs.any many2) then 0 else 1 := rfl
set_option maxRecDepth 100000 in
set_option maxHeartbeats 4000000 in
theorem check_any (c : Cfg) (A : Option Addr) (cap : Nat) (w : World) (hC : CfgIs w (low w.heap.size) c A cap) (hz : sizeS c ≤ 1000000) :
    Calls Tryd.prog 19 #[.agg (c.cells A cap).toArray] w fun e w' => e = .returned (.int .i64 (checkS c)) ∧ Kept w w' := by
  have hsz := fun w' hk => size_any c A cap w' (hC.kept hk) hz
  have hby := fun w' hk (h : sizeS c ≤ 100000) => bytes_any c A cap w' (hC.kept hk) h
  have hco := fun w' hk => counted_any c A cap w' (hC.kept hk) hz
  have hap := fun w' hk => apart_any c A cap w' (hC.kept hk) hz
  have ha1 := fun w' hk => anyIf1_any A c.ifs.length cap c.ifs w' hC.len hC.cap (hC.kept hk).ifs
  have ha2 := fun w' hk => anyIf2_any A c.ifs.length cap c.ifs w' hC.len hC.cap (hC.kept hk).ifs
  have hnc := hC.len
  have hcm := hC.cap
  unfold maxLen at hcm
  rw [check_parts]
  obtain ⟨r1, h1⟩ : ∃ r, c.ifs.any many1 = r := ⟨_, rfl⟩
  obtain ⟨r2, h2⟩ : ∃ r, c.ifs.any many2 = r := ⟨_, rfl⟩
  obtain ⟨r3, h3⟩ : ∃ r, validS c = r := ⟨_, rfl⟩
  obtain ⟨r4, h4⟩ : ∃ r, countedS c = r := ⟨_, rfl⟩
  obtain ⟨r5, h5⟩ : ∃ r, apartS c = r := ⟨_, rfl⟩
  obtain ⟨S, hS⟩ : ∃ S, sizeS c = S := ⟨_, rfl⟩
  obtain ⟨bs, hbs⟩ : ∃ bs, bytesS c = bs := ⟨_, rfl⟩
  obtain ⟨n, hn⟩ : ∃ n, c.ifs.length = n := ⟨_, rfl⟩
  simp only [h1, h2, h3, h4, h5, hS, hbs, hn] at hsz hby hco hap ha1 ha2 hnc hz ⊢
  clear h1 h2 h3 h4 h5 hS hbs
  obtain ⟨⟨d0, d1, d2, d3, d4, d5, d6⟩, L⟩ := c
  unfold Cfg.cells CfgD.cells at hsz hby hco hap ⊢
  simp only at hn hsz hby hco hap ⊢
  simp only [hn] at hsz hby hco hap ⊢
  clear hn hC
  obtain ⟨r, hr⟩ : ∃ r : Int, (if decide (16 < n) || decide (4096 < S) || r1 then 3 else if r3 && r4 && r5 && !r2 then 0 else 1) = r := ⟨_, rfl⟩
  rw [hr]
  have Hr := hide hr
  clear hr
  go_enter Tryd.func19, Tryd.ntmps19
  go_upto_region 1 with (fail)
  refine wp_at (fun W => W.heap[w.heap.size]? = some (.cells #[.int .u16 d0, .int .u8 d1, .int .u8 d2, .int .u8 d3, .bool d4, .bool d5, .int .u8 d6, .slice A n cap] 32 (0, 0)) ∧ Kept w W) ⟨heap_at _ rfl, by go_grown⟩ (fun W hW => ?_)
  obtain ⟨hB, hkW⟩ := hW
  have hbl := heap_lt hB
  have b0 := cell_heap hB (o := 0) rfl
  have b1 := cell_heap hB (o := 1) rfl
  have b2 := cell_heap hB (o := 2) rfl
  have b3 := cell_heap hB (o := 3) rfl
  have b4 := cell_heap hB (o := 4) rfl
  have b5 := cell_heap hB (o := 5) rfl
  have b6 := cell_heap hB (o := 6) rfl
  have b7 := cell_heap hB (o := 7) rfl
  by_cases g1 : 16 < n
  · have e1 : decide ((16 : Int) < (n : Int)) = true := decide_eq_true (by omega)
    have hrf : r = 3 := by rw [← Hr.out]; simp [g1]
    have Hrf := hide hrf
    clear hrf
    go_wp2_with fail
    go_ret
    exact ⟨by rw [Hrf.out]; rfl, hkW⟩
  · have e1 : decide ((16 : Int) < (n : Int)) = false := decide_eq_false (by omega)
    by_cases g2 : 4096 < S
    · have e2 : decide ((4096 : Int) < (S : Int)) = true := decide_eq_true (by omega)
      have hrf : r = 3 := by rw [← Hr.out]; simp [g1, g2]
      have Hrf := hide hrf
      clear hrf
      go_wp2_with (go_at_call 44; refine (hsz _ hkW).mono ?_; rintro e w1 ⟨rfl, hk1⟩)
      go_ret
      exact ⟨by rw [Hrf.out]; rfl, hkW.trans' hk1⟩
    · have e2 : decide ((4096 : Int) < (S : Int)) = false := decide_eq_false (by omega)
      have hSle : S ≤ 100000 := by omega
      have hr2 : (if r1 then 3 else if r3 && r4 && r5 && !r2 then 0 else 1) = r := by rw [← Hr.out]; simp [g1, g2]
      clear Hr
      have Hr := hide hr2
      have HB := hide hB
      clear hB hr2 g1 g2
      cases r1 with
      | true =>
        have hrf : r = 3 := Hr.out.symm
        have Hrf := hide hrf
        clear hrf
        go_wp2_with (first
          | (go_at_call 44; refine (hsz _ hkW).mono ?_; rintro e w1 ⟨rfl, hk1⟩; have hB1 := heap_kept hk1 HB.out; have hkw1 := hkW.trans' hk1; have b71 := cell_heap hB1 (o := 7) rfl; have fb71 := frozen_heap hB1 (o := 7); have lb71 := heap_lt hB1)
          | (go_at_call 45; refine (ha1 _ hkw1).mono ?_; rintro e w2 ⟨rfl, hk2⟩))
        go_ret
        exact ⟨by rw [Hrf.out]; rfl, hkw1.trans' hk2⟩
      | false =>
        go_upto_region 3 with (first
          | (go_at_call 44; refine (hsz _ hkW).mono ?_; rintro e w1 ⟨rfl, hk1⟩; have hB1 := heap_kept hk1 HB.out; have hkw1 := hkW.trans' hk1; have b71 := cell_heap hB1 (o := 7) rfl; have fb71 := frozen_heap hB1 (o := 7); have lb71 := heap_lt hB1)
          | (go_at_call 45; refine (ha1 _ hkw1).mono ?_; rintro e w2 ⟨rfl, hk2⟩))
        refine wp_at (fun W => W.heap[w.heap.size]? = some (.cells #[.int .u16 d0, .int .u8 d1, .int .u8 d2, .int .u8 d3, .bool d4, .bool d5, .int .u8 d6, .slice A n cap] 32 (0, 0)) ∧ Kept w W) ⟨heap_kept hk2 hB1, hkw1.trans' hk2⟩ (fun W2 hW2 => ?_)
        clear hk2 hB1 hkw1 hk1 b71 fb71 lb71 HB b0 b1 b2 b3 b4 b5 b6 b7 hbl hkW
        obtain ⟨hB, hkW⟩ := hW2
        have hbl := heap_lt hB
        have c0 := cell_heap hB (o := 0) rfl
        have c1 := cell_heap hB (o := 1) rfl
        have c2 := cell_heap hB (o := 2) rfl
        have c3 := cell_heap hB (o := 3) rfl
        have c4 := cell_heap hB (o := 4) rfl
        have c5 := cell_heap hB (o := 5) rfl
        have c6 := cell_heap hB (o := 6) rfl
        have c7 := cell_heap hB (o := 7) rfl
        have HB := hide hB
        clear hB
        go_upto_region 4 with (go_at_call 31; refine (hby _ hkW hSle).mono ?_; rintro e W3 ⟨⟨A3, n3, rfl, _⟩, hk3⟩)
        have hB3 := heap_kept hk3 HB.out
        have hkw3 := hkW.trans' hk3
        clear c0 c1 c2 c3 c4 c5 c6 c7 hbl HB hk3 hkW
        have hbl := heap_lt hB3
        have d0 := cell_heap hB3 (o := 0) rfl
        have d1 := cell_heap hB3 (o := 1) rfl
        have d2 := cell_heap hB3 (o := 2) rfl
        have d3 := cell_heap hB3 (o := 3) rfl
        have d4 := cell_heap hB3 (o := 4) rfl
        have d5 := cell_heap hB3 (o := 5) rfl
        have d6 := cell_heap hB3 (o := 6) rfl
        have d7 := cell_heap hB3 (o := 7) rfl
        have HB := hide hB3
        clear hB3
        cases r3 with
        | false =>
          have hrf : r = 1 := Hr.out.symm
          have Hrf := hide hrf
          clear hrf
          go_wp2_with fail
          go_ret
          exact ⟨by rw [Hrf.out]; rfl, hkw3⟩
        | true =>
          cases r4 with
          | false =>
            have hrf : r = 1 := Hr.out.symm
            have Hrf := hide hrf
            clear hrf
            go_wp2_with (go_at_call 47; refine (hco _ hkw3).mono ?_; rintro e w4 ⟨rfl, hk4⟩)
            go_ret
            exact ⟨by rw [Hrf.out]; rfl, hkw3.trans' hk4⟩
          | true =>
            cases r5 with
            | false =>
              have hrf : r = 1 := Hr.out.symm
              have Hrf := hide hrf
              clear hrf
              go_wp2_with (first
                | (go_at_call 47; refine (hco _ hkw3).mono ?_; rintro e w4 ⟨rfl, hk4⟩; have hB4 := heap_kept hk4 HB.out; have hkw4 := hkw3.trans' hk4; have lq4 := heap_lt hB4; have q4_0 := cell_heap hB4 (o := 0) rfl; have fq4_0 := frozen_heap hB4 (o := 0); have q4_1 := cell_heap hB4 (o := 1) rfl; have fq4_1 := frozen_heap hB4 (o := 1); have q4_2 := cell_heap hB4 (o := 2) rfl; have fq4_2 := frozen_heap hB4 (o := 2); have q4_3 := cell_heap hB4 (o := 3) rfl; have fq4_3 := frozen_heap hB4 (o := 3); have q4_4 := cell_heap hB4 (o := 4) rfl; have fq4_4 := frozen_heap hB4 (o := 4); have q4_5 := cell_heap hB4 (o := 5) rfl; have fq4_5 := frozen_heap hB4 (o := 5); have q4_6 := cell_heap hB4 (o := 6) rfl; have fq4_6 := frozen_heap hB4 (o := 6); have q4_7 := cell_heap hB4 (o := 7) rfl; have fq4_7 := frozen_heap hB4 (o := 7))
                | (go_at_call 48; refine (hap _ hkw4).mono ?_; rintro e w5 ⟨rfl, hk5⟩))
              go_ret
              exact ⟨by rw [Hrf.out]; rfl, hkw4.trans' hk5⟩
            | true =>
              cases r2 with
              | true =>
                have hrf : r = 1 := Hr.out.symm
                have Hrf := hide hrf
                clear hrf
                go_wp2_with (first
                  | (go_at_call 47; refine (hco _ hkw3).mono ?_; rintro e w4 ⟨rfl, hk4⟩; have hB4 := heap_kept hk4 HB.out; have hkw4 := hkw3.trans' hk4; have lq4 := heap_lt hB4; have q4_0 := cell_heap hB4 (o := 0) rfl; have fq4_0 := frozen_heap hB4 (o := 0); have q4_1 := cell_heap hB4 (o := 1) rfl; have fq4_1 := frozen_heap hB4 (o := 1); have q4_2 := cell_heap hB4 (o := 2) rfl; have fq4_2 := frozen_heap hB4 (o := 2); have q4_3 := cell_heap hB4 (o := 3) rfl; have fq4_3 := frozen_heap hB4 (o := 3); have q4_4 := cell_heap hB4 (o := 4) rfl; have fq4_4 := frozen_heap hB4 (o := 4); have q4_5 := cell_heap hB4 (o := 5) rfl; have fq4_5 := frozen_heap hB4 (o := 5); have q4_6 := cell_heap hB4 (o := 6) rfl; have fq4_6 := frozen_heap hB4 (o := 6); have q4_7 := cell_heap hB4 (o := 7) rfl; have fq4_7 := frozen_heap hB4 (o := 7))
                  | (go_at_call 48; refine (hap _ hkw4).mono ?_; rintro e w5 ⟨rfl, hk5⟩; have hB5 := heap_kept hk5 hB4; have hkw5 := hkw4.trans' hk5; have lq5 := heap_lt hB5; have q5_0 := cell_heap hB5 (o := 0) rfl; have fq5_0 := frozen_heap hB5 (o := 0); have q5_1 := cell_heap hB5 (o := 1) rfl; have fq5_1 := frozen_heap hB5 (o := 1); have q5_2 := cell_heap hB5 (o := 2) rfl; have fq5_2 := frozen_heap hB5 (o := 2); have q5_3 := cell_heap hB5 (o := 3) rfl; have fq5_3 := frozen_heap hB5 (o := 3); have q5_4 := cell_heap hB5 (o := 4) rfl; have fq5_4 := frozen_heap hB5 (o := 4); have q5_5 := cell_heap hB5 (o := 5) rfl; have fq5_5 := frozen_heap hB5 (o := 5); have q5_6 := cell_heap hB5 (o := 6) rfl; have fq5_6 := frozen_heap hB5 (o := 6); have q5_7 := cell_heap hB5 (o := 7) rfl; have fq5_7 := frozen_heap hB5 (o := 7))
                  | (go_at_call 45; refine (ha2 _ hkw5).mono ?_; rintro e w6 ⟨rfl, hk6⟩))
                go_ret
                exact ⟨by rw [Hrf.out]; rfl, hkw5.trans' hk6⟩
              | false =>
                have hrf : r = 0 := Hr.out.symm
                have Hrf := hide hrf
                clear hrf
                go_wp2_with (first
                  | (go_at_call 47; refine (hco _ hkw3).mono ?_; rintro e w4 ⟨rfl, hk4⟩; have hB4 := heap_kept hk4 HB.out; have hkw4 := hkw3.trans' hk4; have lq4 := heap_lt hB4; have q4_0 := cell_heap hB4 (o := 0) rfl; have fq4_0 := frozen_heap hB4 (o := 0); have q4_1 := cell_heap hB4 (o := 1) rfl; have fq4_1 := frozen_heap hB4 (o := 1); have q4_2 := cell_heap hB4 (o := 2) rfl; have fq4_2 := frozen_heap hB4 (o := 2); have q4_3 := cell_heap hB4 (o := 3) rfl; have fq4_3 := frozen_heap hB4 (o := 3); have q4_4 := cell_heap hB4 (o := 4) rfl; have fq4_4 := frozen_heap hB4 (o := 4); have q4_5 := cell_heap hB4 (o := 5) rfl; have fq4_5 := frozen_heap hB4 (o := 5); have q4_6 := cell_heap hB4 (o := 6) rfl; have fq4_6 := frozen_heap hB4 (o := 6); have q4_7 := cell_heap hB4 (o := 7) rfl; have fq4_7 := frozen_heap hB4 (o := 7))
                  | (go_at_call 48; refine (hap _ hkw4).mono ?_; rintro e w5 ⟨rfl, hk5⟩; have hB5 := heap_kept hk5 hB4; have hkw5 := hkw4.trans' hk5; have lq5 := heap_lt hB5; have q5_0 := cell_heap hB5 (o := 0) rfl; have fq5_0 := frozen_heap hB5 (o := 0); have q5_1 := cell_heap hB5 (o := 1) rfl; have fq5_1 := frozen_heap hB5 (o := 1); have q5_2 := cell_heap hB5 (o := 2) rfl; have fq5_2 := frozen_heap hB5 (o := 2); have q5_3 := cell_heap hB5 (o := 3) rfl; have fq5_3 := frozen_heap hB5 (o := 3); have q5_4 := cell_heap hB5 (o := 4) rfl; have fq5_4 := frozen_heap hB5 (o := 4); have q5_5 := cell_heap hB5 (o := 5) rfl; have fq5_5 := frozen_heap hB5 (o := 5); have q5_6 := cell_heap hB5 (o := 6) rfl; have fq5_6 := frozen_heap hB5 (o := 6); have q5_7 := cell_heap hB5 (o := 7) rfl; have fq5_7 := frozen_heap hB5 (o := 7))
                  | (go_at_call 45; refine (ha2 _ hkw5).mono ?_; rintro e w6 ⟨rfl, hk6⟩))
                go_ret
                exact ⟨by rw [Hrf.out]; rfl, hkw5.trans' hk6⟩
end Go.Proofs.YtjgncofhobhjdaaDoor
/- Encode of a configuration. Printed by gen_su.py. -/
namespace Go.Proofs.YtjgncofhobhjdaaDoor
open Go.RowKit
attribute [local go_sem ↓] Go.wp_at_zero Go.wp_at_succ

/-- the bytes that Encode returns -/
def encB (c : Cfg) : List Int := if checkS c = 0 then bytesS c else []
theorem check_small {c : Cfg} (h : checkS c = 0) : sizeS c ≤ 4096 := (check_of h).size
set_option maxRecDepth 100000 in
set_option maxHeartbeats 2000000 in
theorem encode_any (c : Cfg) (A : Option Addr) (cap : Nat) (w : World) (hC : CfgIs w (low w.heap.size) c A cap) (hz : sizeS c ≤ 1000000) :
    Calls Tryd.prog 15 #[.agg (c.cells A cap).toArray] w fun e w' => (∃ A' n', e = .returned (.tuple #[.slice A' n' n', .int .i64 (checkS c)]) ∧ Sl u8T w' (fun b => w.heap.size ≤ b ∧ b < w'.heap.size) A' n' (encB c)) ∧ Kept w w' := by
  have hck := fun w' hk => check_any c A cap w' (hC.kept hk) hz
  have hby := fun w' hk (h : sizeS c ≤ 100000) => bytes_any c A cap w' (hC.kept hk) h
  have hsm : checkS c = 0 → sizeS c ≤ 100000 := fun h => by have := check_small h; omega
  have he0 : checkS c = 0 → encB c = bytesS c := fun h => by unfold encB; rw [if_pos h]
  have he1 : checkS c ≠ 0 → encB c = [] := fun h => by unfold encB; rw [if_neg h]
  have hnc := hC.len
  have hcm := hC.cap
  unfold maxLen at hcm
  obtain ⟨r, hr⟩ : ∃ r, checkS c = r := ⟨_, rfl⟩
  obtain ⟨S, hS⟩ : ∃ S, sizeS c = S := ⟨_, rfl⟩
  obtain ⟨bs, hbs⟩ : ∃ bs, bytesS c = bs := ⟨_, rfl⟩
  obtain ⟨eb, heb⟩ : ∃ eb, encB c = eb := ⟨_, rfl⟩
  obtain ⟨v, hv⟩ : ∃ v, validS c = v := ⟨_, rfl⟩
  obtain ⟨n, hn⟩ : ∃ n, c.ifs.length = n := ⟨_, rfl⟩
  simp only [hr, hS, hbs, hn, hv, heb] at hck hby hnc hsm he0 he1 ⊢
  clear hr hS hbs heb hv
  obtain ⟨⟨d0, d1, d2, d3, d4, d5, d6⟩, L⟩ := c
  unfold Cfg.cells CfgD.cells at hck hby ⊢
  simp only at hn hck hby ⊢
  simp only [hn] at hck hby ⊢
  clear hn hC
  by_cases h0 : r = 0
  · subst h0
    have hS := hsm rfl
    have he := he0 rfl
    subst he
    clear hsm he0 he1
    go_enter Tryd.func15, Tryd.ntmps15
    go_upto_region 1 with (fail)
    refine wp_at (fun W => W.heap[w.heap.size]? = some (.cells #[.int .u16 d0, .int .u8 d1, .int .u8 d2, .int .u8 d3, .bool d4, .bool d5, .int .u8 d6, .slice A n cap] 32 (0, 0)) ∧ Kept w W) ⟨heap_at _ rfl, by go_grown⟩ (fun W hW => ?_)
    obtain ⟨hB, hkW⟩ := hW
    have hbl := heap_lt hB
    have b0 := cell_heap hB (o := 0) rfl
    have b1 := cell_heap hB (o := 1) rfl
    have b2 := cell_heap hB (o := 2) rfl
    have b3 := cell_heap hB (o := 3) rfl
    have b4 := cell_heap hB (o := 4) rfl
    have b5 := cell_heap hB (o := 5) rfl
    have b6 := cell_heap hB (o := 6) rfl
    have b7 := cell_heap hB (o := 7) rfl
    have HB := hide hB
    clear hB
    go_upto_region 4 with (go_at_call 19; refine (hck _ hkW).mono ?_; rintro e W2 ⟨rfl, hk2⟩)
    have hB2 := heap_kept hk2 HB.out
    have hkw2 := hkW.trans' hk2
    clear b0 b1 b2 b3 b4 b5 b6 b7 hbl HB
    have hbl := heap_lt hB2
    have c0 := cell_heap hB2 (o := 0) rfl
    have c1 := cell_heap hB2 (o := 1) rfl
    have c2 := cell_heap hB2 (o := 2) rfl
    have c3 := cell_heap hB2 (o := 3) rfl
    have c4 := cell_heap hB2 (o := 4) rfl
    have c5 := cell_heap hB2 (o := 5) rfl
    have c6 := cell_heap hB2 (o := 6) rfl
    have c7 := cell_heap hB2 (o := 7) rfl
    clear hB2
    go_wp2_with (go_at_call 31; refine (hby _ hkw2 hS).mono ?_; rintro e W3 ⟨⟨A3, n3, rfl, hs3⟩, hk3⟩)
    refine bodyPost_ret (v := .tuple #[.slice A3 n3 n3, .int .i64 0]) (by simp [results, Tryd.results15, go_sem]) rfl ⟨⟨A3, n3, rfl, hs3.keep (fun b hb => ⟨Nat.le_trans hkw2.size hb.1, hb.2⟩) (fun _ _ _ => rfl)⟩, hkw2.trans' hk3⟩
  · have he := he1 h0
    subst he
    have hne : (r != 0) = true := by simpa using h0
    clear hsm he0 he1 h0
    go_enter Tryd.func15, Tryd.ntmps15
    go_upto_region 1 with (fail)
    refine wp_at (fun W => W.heap[w.heap.size]? = some (.cells #[.int .u16 d0, .int .u8 d1, .int .u8 d2, .int .u8 d3, .bool d4, .bool d5, .int .u8 d6, .slice A n cap] 32 (0, 0)) ∧ Kept w W) ⟨heap_at _ rfl, by go_grown⟩ (fun W hW => ?_)
    obtain ⟨hB, hkW⟩ := hW
    have hbl := heap_lt hB
    have b0 := cell_heap hB (o := 0) rfl
    have b1 := cell_heap hB (o := 1) rfl
    have b2 := cell_heap hB (o := 2) rfl
    have b3 := cell_heap hB (o := 3) rfl
    have b4 := cell_heap hB (o := 4) rfl
    have b5 := cell_heap hB (o := 5) rfl
    have b6 := cell_heap hB (o := 6) rfl
    have b7 := cell_heap hB (o := 7) rfl
    clear hB
    go_wp2_with (go_at_call 19; refine (hck _ hkW).mono ?_; rintro e W2 ⟨rfl, hk2⟩)
    refine bodyPost_ret (v := .tuple #[.slice none 0 0, .int .i64 r]) (by simp [results, Tryd.results15, go_sem]) rfl ⟨⟨none, 0, rfl, Sl.nil _ _ _ _⟩, hkW.trans' hk2⟩
end Go.Proofs.YtjgncofhobhjdaaDoor
/- Same: whether two configurations are equal. Printed by gen_su.py. -/
namespace Go.Proofs.YtjgncofhobhjdaaDoor
open Go.RowKit
attribute [local go_sem ↓] Go.wp_at_zero Go.wp_at_succ

theorem eqlEp (a b : EpD) (w : World) : (binOp .eql 59 (.agg a.cells.toArray) (.agg b.cells.toArray)).run Tryd.prog w = .ok (.bool (sameEp a b)) w := by
  obtain ⟨a0, a1, a2, a3, a4⟩ := a
  obtain ⟨b0, b1, b2, b3, b4⟩ := b
  unfold EpD.cells sameEp
  simp only
  go_simp
  repeat' split
  all_goals simp_all
theorem neqEp (a b : EpD) (w : World) : (binOp .neq 59 (.agg a.cells.toArray) (.agg b.cells.toArray)).run Tryd.prog w = .ok (.bool (!sameEp a b)) w := by
  obtain ⟨a0, a1, a2, a3, a4⟩ := a
  obtain ⟨b0, b1, b2, b3, b4⟩ := b
  unfold EpD.cells sameEp
  simp only
  go_simp
  repeat' split
  all_goals simp_all
theorem eqlIf (a b : IfD) (w : World) : (binOp .eql 53 (.agg a.cells.toArray) (.agg b.cells.toArray)).run Tryd.prog w = .ok (.bool (sameIfD a b)) w := by
  obtain ⟨a0, a1, a2, a3, a4, a5, a6⟩ := a
  obtain ⟨b0, b1, b2, b3, b4, b5, b6⟩ := b
  unfold IfD.cells sameIfD
  simp only
  go_simp
  repeat' split
  all_goals simp_all
theorem neqIf (a b : IfD) (w : World) : (binOp .neq 53 (.agg a.cells.toArray) (.agg b.cells.toArray)).run Tryd.prog w = .ok (.bool (!sameIfD a b)) w := by
  obtain ⟨a0, a1, a2, a3, a4, a5, a6⟩ := a
  obtain ⟨b0, b1, b2, b3, b4, b5, b6⟩ := b
  unfold IfD.cells sameIfD
  simp only
  go_simp
  repeat' split
  all_goals simp_all
theorem eqlCfg (a b : CfgD) (w : World) : (binOp .eql 29 (.agg a.cells.toArray) (.agg b.cells.toArray)).run Tryd.prog w = .ok (.bool (sameCfgD a b)) w := by
  obtain ⟨a0, a1, a2, a3, a4, a5, a6⟩ := a
  obtain ⟨b0, b1, b2, b3, b4, b5, b6⟩ := b
  unfold CfgD.cells sameCfgD
  simp only
  go_simp
  repeat' split
  all_goals simp_all
theorem neqCfg (a b : CfgD) (w : World) : (binOp .neq 29 (.agg a.cells.toArray) (.agg b.cells.toArray)).run Tryd.prog w = .ok (.bool (!sameCfgD a b)) w := by
  obtain ⟨a0, a1, a2, a3, a4, a5, a6⟩ := a
  obtain ⟨b0, b1, b2, b3, b4, b5, b6⟩ := b
  unfold CfgD.cells sameCfgD
  simp only
  go_simp
  repeat' split
  all_goals simp_all
def boolOf (p : Prop) [Decidable p] : Bool := decide p
set_option maxRecDepth 100000 in
set_option maxHeartbeats 2000000 in
theorem eqEp_any (A B : Option Addr) (n c m d : Nat) (x y : List EpD) (w : World) (hn : n ≤ maxLen) (hx : Sl epT w (low w.heap.size) A n x) (hy : Sl epT w (low w.heap.size) B m y) :
    Calls Tryd.prog 43 #[.slice A n c, .slice B m d] w fun e w' => e = .returned (.bool (sameL sameEp x y)) ∧ Kept w w' := by
  have hxn := hx.1
  have hyn := hy.1
  unfold maxLen at hn
  obtain ⟨r, hr0⟩ : ∃ r, sameL sameEp x y = r := ⟨_, rfl⟩
  rw [hr0]
  have hri : r = true ↔ x = y := by rw [← hr0]; exact sameL_iff fun a _ b _ => sameEp_iff a b
  have Hr := hide hri
  clear hr0 hri
  by_cases hnm : n = m
  · subst hnm
    go_enter Tryd.func43, Tryd.ntmps43
    go_wp2_with fail
    go_loopg [13] n (fun g s13 wr => ∃ i : Nat, i + g = n ∧ s13 = .int .i64 i ∧ Kept w wr ∧ x.take i = y.take i)
    case atStart => exact ⟨0, by omega, rfl, Below.refl _ _, rfl⟩
    case round =>
      obtain ⟨i, hi, rfl, hk, hsm⟩ := hrel
      have Hsm := hide hsm
      have Hi := hide hi
      have Hxn := hide hxn
      have Hyn := hide hyn
      clear hsm hi hxn hyn
      by_cases hlt : i < n
      · obtain ⟨u, b, off, cs, hu, rfl, hbb, hrl, hcs⟩ := (hx.kept hk).at hlt
        obtain ⟨v, b', off', cs', hv, rfl, hbb', hrl', hcs'⟩ := (hy.kept hk).at hlt
        obtain ⟨rfl, _⟩ : cs = u.cells ∧ u.ok := hrl
        obtain ⟨rfl, _⟩ : cs' = v.cells ∧ v.ok := hrl'
        have hx1 : ∀ (j : Nat) q, u.cells[j]? = some q → wr.cell? ⟨b, off + i * 5 + j, none⟩ = some q := fun j q h => hcs j q h
        have hy1 : ∀ (j : Nat) q, v.cells[j]? = some q → wr.cell? ⟨b', off' + i * 5 + j, none⟩ = some q := fun j q h => hcs' j q h
        have x0 : wr.cell? ⟨b, off + i * 5, none⟩ = _ := hx1 0 _ rfl
        have y0 : wr.cell? ⟨b', off' + i * 5, none⟩ = _ := hy1 0 _ rfl
        have x1 := hx1 1 _ rfl
        have y1 := hy1 1 _ rfl
        have x2 := hx1 2 _ rfl
        have y2 := hy1 2 _ rfl
        have x3 := hx1 3 _ rfl
        have y3 := hy1 3 _ rfl
        have x4 := hx1 4 _ rfl
        have y4 := hy1 4 _ rfl
        have hbl : b < wr.heap.size := hbb
        have hbl' : b' < wr.heap.size := hbb'
        have hi0 : (0 : Int) ≤ (i : Int) := by omega
        have hlt' : (i : Int) < (n : Int) := by omega
        have Hu := hide hu
        have Hv := hide hv
        have hq := fun w => neqEp u v w
        unfold EpD.cells at hq
        obtain ⟨z, hz⟩ : ∃ z, sameEp u v = z := ⟨_, rfl⟩
        rw [hz] at hq
        have Hz := hide hz
        clear hu hv hcs hcs' hx1 hy1 hz
        cases z with
        | true =>
          simp only [Bool.not_true] at hq
          go_upto_region 6 with (fail)
          go_quiet (fail)
          go_wp2_with fail
          go_roundg (gk - 1)
          case measure => have := Hi.out; omega
          case rel =>
            refine ⟨i + 1, by have := Hi.out; omega, by go_num, below_drewN hk _, ?_⟩
            obtain ⟨h1, h2⟩ := List.getElem?_eq_some_iff.1 Hu.out
            obtain ⟨h3, h4⟩ := List.getElem?_eq_some_iff.1 Hv.out
            rw [List.take_succ_eq_append_getElem h1, List.take_succ_eq_append_getElem h3, Hsm.out, h2, h4, (sameEp_iff u v).1 Hz.out]
        | false =>
          simp only [Bool.not_false] at hq
          have hrf : r = false := by
            cases hrr : r with
            | false => rfl
            | true =>
              have := Hr.out.1 hrr
              subst this
              have := Hu.out.symm.trans Hv.out
              injection this with this
              have h2 := (sameEp_iff u v).2 this
              rw [Hz.out] at h2
              cases h2
          have Hrf := hide hrf
          clear hrf
          go_upto_region 6 with (fail)
          go_quiet (fail)
          go_wp2_with fail
          go_ret
          exact ⟨by rw [Hrf.out]; rfl, below_drewN hk _⟩
      · have hge : (n : Int) ≤ (i : Int) := by omega
        have hrf : r = true := Hr.out.2 (by
          have h1 := Hsm.out
          have h2 := Hxn.out
          have h3 := Hyn.out
          rwa [List.take_of_length_le (by omega), List.take_of_length_le (by omega)] at h1)
        have Hrf := hide hrf
        clear hrf
        go_wp2_with fail
        go_ret
        exact ⟨by rw [Hrf.out]; rfl, hk⟩
  · have hrf : r = false := by
      cases hrr : r with
      | false => rfl
      | true => exact absurd (by rw [← hxn, ← hyn, Hr.out.1 hrr]) hnm
    have hne : ((n : Int) != (m : Int)) = true := by simp; omega
    subst hrf
    go_enter Tryd.func43, Tryd.ntmps43
    go_wp2_with fail
    go_ret
    exact ⟨rfl, by go_grown⟩
/-- a setting's cells read as data -/
structure AltAt (w : World) (a : Alt) (X : Option Addr) (cx : Nat) (E : Option Addr) (ce : Nat) : Prop where
  d : a.d.ok
  x1 : a.extra.length ≤ cx
  x2 : cx ≤ maxLen
  e1 : a.eps.length ≤ ce
  e2 : ce ≤ maxLen
  xs : Sl u8T w (low w.heap.size) X a.extra.length a.extra
  es : Sl epT w (low w.heap.size) E a.eps.length a.eps
theorem AltAt.kept {w w' : World} {a : Alt} {X : Option Addr} {cx : Nat} {E : Option Addr} {ce : Nat} (h : AltAt w a X cx E ce) (hk : Kept w w') : AltAt w' a X cx E ce := ⟨h.d, h.x1, h.x2, h.e1, h.e2, h.xs.kept hk, h.es.kept hk⟩
theorem beq_eq_decide_ints (x y : List Int) : (x == y) = decide (x = y) := by
  by_cases h : x = y
  · subst h; simp
  · simp [h]
set_option maxRecDepth 100000 in
set_option maxHeartbeats 2000000 in
theorem same11_any (a b : Alt) (X : Option Addr) (cx : Nat) (E : Option Addr) (ce : Nat) (X' : Option Addr) (cx' : Nat) (E' : Option Addr) (ce' : Nat) (w : World) (ha : AltAt w a X cx E ce) (hb : AltAt w b X' cx' E' ce') :
    Calls Tryd.prog 41 #[.agg (a.cells X cx E ce).toArray, .agg (b.cells X' cx' E' ce').toArray] w fun e w' => e = .returned (.bool (sameAlt a b)) ∧ Kept w w' := by
  have h1 := fun w' (hk : Kept w w') => eqB_any X X' a.extra.length cx b.extra.length cx' a.extra b.extra w' (Nat.le_trans ha.x1 ha.x2) (ha.xs.kept hk) (hb.xs.kept hk)
  have h2 := fun w' (hk : Kept w w') => eqEp_any E E' a.eps.length ce b.eps.length ce' a.eps b.eps w' (Nat.le_trans ha.e1 ha.e2) (ha.es.kept hk) (hb.es.kept hk)
  have hq := fun w => eqlIf a.d b.d w
  obtain ⟨r1, hr1⟩ : ∃ r, sameIfD a.d b.d = r := ⟨_, rfl⟩
  obtain ⟨r2, hr2⟩ : ∃ r, decide (a.extra = b.extra) = r := ⟨_, rfl⟩
  obtain ⟨r3, hr3⟩ : ∃ r, sameL sameEp a.eps b.eps = r := ⟨_, rfl⟩
  obtain ⟨r, hr⟩ : ∃ r, sameAlt a b = r := ⟨_, rfl⟩
  have hrr : (r1 && r2 && r3) = r := by
    rw [← hr, ← hr1, ← hr2, ← hr3]
    unfold sameAlt
    congr 2
    exact (beq_eq_decide_ints _ _).symm
  rw [hr1] at hq
  simp only [hr2] at h1
  simp only [hr3] at h2
  rw [hr]
  have q1 := ha.x1
  have q2 := ha.x2
  have q3 := ha.e1
  have q4 := ha.e2
  have q5 := hb.x1
  have q6 := hb.x2
  have q7 := hb.e1
  have q8 := hb.e2
  unfold maxLen at q2 q4 q6 q8
  clear hr1 hr2 hr3 hr ha hb
  obtain ⟨⟨a0, a1, a2, a3, a4, a5, a6⟩, ax, ae⟩ := a
  obtain ⟨⟨b0, b1, b2, b3, b4, b5, b6⟩, bx, be⟩ := b
  unfold Alt.cells
  unfold IfD.cells at hq ⊢
  simp only [List.cons_append, List.nil_append] at h1 h2 hq q1 q3 q5 q7 ⊢
  obtain ⟨n1, hn1⟩ : ∃ n, ax.length = n := ⟨_, rfl⟩
  obtain ⟨n2, hn2⟩ : ∃ n, ae.length = n := ⟨_, rfl⟩
  obtain ⟨n3, hn3⟩ : ∃ n, bx.length = n := ⟨_, rfl⟩
  obtain ⟨n4, hn4⟩ : ∃ n, be.length = n := ⟨_, rfl⟩
  simp only [hn1, hn2, hn3, hn4] at h1 h2 q1 q3 q5 q7 ⊢
  clear hn1 hn2 hn3 hn4
  go_enter Tryd.func41, Tryd.ntmps41
  go_upto_region 1 with (fail)
  refine wp_at (fun W => W.heap[w.heap.size]? = some (.cells #[.int .u8 a0, .int .u8 a1, .int .u8 a2, .int .u8 a3, .int .u8 a4, .int .u8 a5, .int .u8 a6, .slice X n1 cx, .slice E n2 ce] 56 (0, 0)) ∧ W.heap[w.heap.size + 1]? = some (.cells #[.int .u8 b0, .int .u8 b1, .int .u8 b2, .int .u8 b3, .int .u8 b4, .int .u8 b5, .int .u8 b6, .slice X' n3 cx', .slice E' n4 ce'] 56 (0, 0)) ∧ Kept w W) ⟨heap_past (heap_at _ rfl), heap_at _ (by simp), by go_grown⟩ (fun W hW => ?_)
  obtain ⟨hA, hB, hkW⟩ := hW
  have HA := hide hA
  have HB := hide hB
  have la := heap_lt hA
  have lb := heap_lt hB
  have p0 := cell_heap hA (o := 0) rfl
  have p1 := cell_heap hA (o := 1) rfl
  have p2 := cell_heap hA (o := 2) rfl
  have p3 := cell_heap hA (o := 3) rfl
  have p4 := cell_heap hA (o := 4) rfl
  have p5 := cell_heap hA (o := 5) rfl
  have p6 := cell_heap hA (o := 6) rfl
  have p7 := cell_heap hA (o := 7) rfl
  have p8 := cell_heap hA (o := 8) rfl
  have q0 := cell_heap hB (o := 0) rfl
  have q1 := cell_heap hB (o := 1) rfl
  have q2 := cell_heap hB (o := 2) rfl
  have q3 := cell_heap hB (o := 3) rfl
  have q4 := cell_heap hB (o := 4) rfl
  have q5 := cell_heap hB (o := 5) rfl
  have q6 := cell_heap hB (o := 6) rfl
  have q7 := cell_heap hB (o := 7) rfl
  have q8 := cell_heap hB (o := 8) rfl
  clear hA hB
  cases r1 with
  | false =>
    have hrf : r = false := hrr.symm
    have Hrf := hide hrf
    clear hrf hrr
    go_wp2_with fail
    go_ret
    exact ⟨by rw [Hrf.out]; rfl, hkW⟩
  | true =>
    cases r2 with
    | false =>
      have hrf : r = false := hrr.symm
      have Hrf := hide hrf
      clear hrf hrr
      go_wp2_with (go_at_call 42; refine (h1 _ hkW).mono ?_; rintro e w1 ⟨rfl, hk1⟩)
      go_ret
      exact ⟨by rw [Hrf.out]; rfl, hkW.trans' hk1⟩
    | true =>
      have Hrf := hide hrr
      clear hrr
      cases r3 with
      | false =>
        go_wp2_with (first
          | (go_at_call 42; refine (h1 _ hkW).mono ?_; rintro e w1 ⟨rfl, hk1⟩; have A1 := heap_kept hk1 HA.out; have B1 := heap_kept hk1 HB.out; have la1 := heap_lt A1; have lb1 := heap_lt B1; have fa1 := frozen_heap A1 (o := 8); have fb1 := frozen_heap B1 (o := 8); have ca1 := cell_heap A1 (o := 8) rfl; have cb1 := cell_heap B1 (o := 8) rfl)
          | (go_at_call 43; refine (h2 _ (hkW.trans' hk1)).mono ?_; rintro e w2 ⟨rfl, hk2⟩))
        go_ret
        exact ⟨by rw [← Hrf.out]; rfl, (hkW.trans' hk1).trans' hk2⟩
      | true =>
        go_wp2_with (first
          | (go_at_call 42; refine (h1 _ hkW).mono ?_; rintro e w1 ⟨rfl, hk1⟩; have A1 := heap_kept hk1 HA.out; have B1 := heap_kept hk1 HB.out; have la1 := heap_lt A1; have lb1 := heap_lt B1; have fa1 := frozen_heap A1 (o := 8); have fb1 := frozen_heap B1 (o := 8); have ca1 := cell_heap A1 (o := 8) rfl; have cb1 := cell_heap B1 (o := 8) rfl)
          | (go_at_call 43; refine (h2 _ (hkW.trans' hk1)).mono ?_; rintro e w2 ⟨rfl, hk2⟩))
        go_ret
        exact ⟨by rw [← Hrf.out]; rfl, (hkW.trans' hk1).trans' hk2⟩
set_option maxRecDepth 100000 in
set_option maxHeartbeats 4000000 in
theorem eqfAlt_any (A B : Option Addr) (n c d : Nat) (x y : List (Alt)) (w : World) (hn : n ≤ maxLen) (hx : Sl altT w (low w.heap.size) A n x) (hy : Sl altT w (low w.heap.size) B n y) :
    Calls Tryd.prog 86 #[.slice A n c, .slice B n d, .func (.func 41) #[] #[]] w fun e w' => e = .returned (.bool (sameL (sameAlt) x y)) ∧ Kept w w' := by
  have hxn := hx.1
  have hyn := hy.1
  unfold maxLen at hn
  obtain ⟨r, hr0⟩ : ∃ r, sameL (sameAlt) x y = r := ⟨_, rfl⟩
  rw [hr0]
  have hri : r = true ↔ x = y := by rw [← hr0]; exact sameL_iff fun a _ b _ => sameAlt_iff a b
  have Hr := hide hri
  have Hxn := hide hxn
  have Hyn := hide hyn
  clear hr0 hri hxn hyn
  go_enter Tryd.func86, Tryd.ntmps86
  go_wp2_with fail
  go_loopg [17] n (fun g s17 wr => ∃ i : Nat, i + g = n ∧ s17 = .int .i64 i ∧ Kept w wr ∧ x.take i = y.take i)
  case atStart => exact ⟨0, by omega, rfl, Below.refl _ _, rfl⟩
  case round =>
    obtain ⟨i, hi, rfl, hk, hsm⟩ := hrel
    have Hsm := hide hsm
    have Hi := hide hi
    clear hsm hi
    by_cases hlt : i < n
    · obtain ⟨u, b, off, cs, hu, rfl, hbb, hrl, hcs⟩ := (hx.kept hk).at hlt
      obtain ⟨v, b', off', cs', hv, rfl, hbb', hrl', hcs'⟩ := (hy.kept hk).at hlt
      obtain ⟨X, cx, E, ce, rfl, d0, d1, d2, d3, d4, d5, d6⟩ := hrl
      obtain ⟨X', cx', E', ce', rfl, k0, k1, k2, k3, k4, k5, k6⟩ := hrl'
      have hx1 : ∀ (j : Nat) q, (u.cells X cx E ce)[j]? = some q → wr.cell? ⟨b, off + i * 9 + j, none⟩ = some q := fun j q h => hcs j q h
      have hy1 : ∀ (j : Nat) q, (v.cells X' cx' E' ce')[j]? = some q → wr.cell? ⟨b', off' + i * 9 + j, none⟩ = some q := fun j q h => hcs' j q h
      have x0 : wr.cell? ⟨b, off + i * 9, none⟩ = _ := hx1 0 _ rfl
      have y0 : wr.cell? ⟨b', off' + i * 9, none⟩ = _ := hy1 0 _ rfl
      have x1 := hx1 1 _ rfl
      have y1 := hy1 1 _ rfl
      have x2 := hx1 2 _ rfl
      have y2 := hy1 2 _ rfl
      have x3 := hx1 3 _ rfl
      have y3 := hy1 3 _ rfl
      have x4 := hx1 4 _ rfl
      have y4 := hy1 4 _ rfl
      have x5 := hx1 5 _ rfl
      have y5 := hy1 5 _ rfl
      have x6 := hx1 6 _ rfl
      have y6 := hy1 6 _ rfl
      have x7 := hx1 7 _ rfl
      have y7 := hy1 7 _ rfl
      have x8 := hx1 8 _ rfl
      have y8 := hy1 8 _ rfl
      have hcall := fun w' (hk' : Kept wr w') => same11_any u v X cx E ce X' cx' E' ce' w' ⟨d0, d1, d2, d3, d4, d5.kept hk', d6.kept hk'⟩ ⟨k0, k1, k2, k3, k4, k5.kept hk', k6.kept hk'⟩
      unfold maxLen at d2 d4 k2 k4
      have hiff := sameAlt_iff u v
      obtain ⟨z, hz⟩ : ∃ z, sameAlt u v = z := ⟨_, rfl⟩
      simp only [hz] at hcall hiff
      have Hiff := hide hiff
      clear hz hiff hx1 hy1 hcs hcs' d5 d6 k5 k6
      obtain ⟨⟨a0, a1, a2, a3, a4, a5, a6⟩, ax, ae⟩ := u
      obtain ⟨⟨b0, b1, b2, b3, b4, b5, b6⟩, bx, be⟩ := v
      unfold Alt.cells IfD.cells at hcall
      simp only [List.cons_append, List.nil_append] at hcall d1 d3 k1 k3 x0 x1 x2 x3 x4 x5 x6 x7 x8 y0 y1 y2 y3 y4 y5 y6 y7 y8
      obtain ⟨n1, hn1⟩ : ∃ n, ax.length = n := ⟨_, rfl⟩
      obtain ⟨n2, hn2⟩ : ∃ n, ae.length = n := ⟨_, rfl⟩
      obtain ⟨n3, hn3⟩ : ∃ n, bx.length = n := ⟨_, rfl⟩
      obtain ⟨n4, hn4⟩ : ∃ n, be.length = n := ⟨_, rfl⟩
      simp only [hn1, hn2, hn3, hn4] at hcall d1 d3 k1 k3 x7 x8 y7 y8
      clear hn1 hn2 hn3 hn4
      have hbl : b < wr.heap.size := hbb
      have hbl' : b' < wr.heap.size := hbb'
      have hi0 : (0 : Int) ≤ (i : Int) := by omega
      have hlt' : (i : Int) < (n : Int) := by omega
      have hwi : IntKind.i64.wrap ((i : Int) + 1) = ((i + 1 : Nat) : Int) := by rw [IntKind.wrap_i64]; omega
      have Hu := hide hu
      have Hv := hide hv
      clear hu hv
      go_upto_region 6 with (refine wpList_store_row rfl 56 (.tmp 8) (.tmp 21) rfl wr.heap.size #[.int .u8 a0, .int .u8 a1, .int .u8 a2, .int .u8 a3, .int .u8 a4, .int .u8 a5, .int .u8 a6, .slice X n1 cx, .slice E n2 ce] (by rfl) (by rfl) 56 _ (heap_at _ rfl) (by kernel_rfl) (by rfl) (by simp [Value.oneCell']) ?_)
      refine wp_at (fun V => V.heap[wr.heap.size]? = some (.cells #[.int .u8 a0, .int .u8 a1, .int .u8 a2, .int .u8 a3, .int .u8 a4, .int .u8 a5, .int .u8 a6, .slice X n1 cx, .slice E n2 ce] 56 (0, 0)) ∧ Kept wr V) ⟨heap_row (heap_at _ rfl), below_row ((Below.refl _ _).alloc (Nat.le_refl _) _) (Nat.le_refl _) _⟩ (fun V1 hV1 => ?_)
      obtain ⟨hA1, hk1⟩ := hV1
      have y0' := (hk1.cell (p := ⟨b', off' + i * 9, none⟩) hbl').trans y0
      have y1' := (hk1.cell (p := ⟨b', off' + i * 9 + 1, none⟩) hbl').trans y1
      have y2' := (hk1.cell (p := ⟨b', off' + i * 9 + 2, none⟩) hbl').trans y2
      have y3' := (hk1.cell (p := ⟨b', off' + i * 9 + 3, none⟩) hbl').trans y3
      have y4' := (hk1.cell (p := ⟨b', off' + i * 9 + 4, none⟩) hbl').trans y4
      have y5' := (hk1.cell (p := ⟨b', off' + i * 9 + 5, none⟩) hbl').trans y5
      have y6' := (hk1.cell (p := ⟨b', off' + i * 9 + 6, none⟩) hbl').trans y6
      have y7' := (hk1.cell (p := ⟨b', off' + i * 9 + 7, none⟩) hbl').trans y7
      have y8' := (hk1.cell (p := ⟨b', off' + i * 9 + 8, none⟩) hbl').trans y8
      have hbv' : b' < V1.heap.size := Nat.lt_of_lt_of_le hbl' hk1.size
      have HA1 := hide hA1
      clear hA1 x0 y0 x1 y1 x2 y2 x3 y3 x4 y4 x5 y5 x6 y6 x7 y7 x8 y8
      go_upto_region 7 with (fail)
      refine wp_at (fun V => V.heap[wr.heap.size]? = some (.cells #[.int .u8 a0, .int .u8 a1, .int .u8 a2, .int .u8 a3, .int .u8 a4, .int .u8 a5, .int .u8 a6, .slice X n1 cx, .slice E n2 ce] 56 (0, 0)) ∧ V.heap[V1.heap.size]? = some (.cells #[.int .u8 b0, .int .u8 b1, .int .u8 b2, .int .u8 b3, .int .u8 b4, .int .u8 b5, .int .u8 b6, .slice X' n3 cx', .slice E' n4 ce'] 56 (0, 0)) ∧ Kept wr V) ⟨heap_past HA1.out, heap_at _ rfl, hk1.trans' (by go_grown)⟩ (fun V hV => ?_)
      obtain ⟨hA, hB, hkV⟩ := hV
      have la := heap_lt hA
      have lb := heap_lt hB
      have p0 := cell_heap hA (o := 0) rfl
      have q0 := cell_heap hB (o := 0) rfl
      have p1 := cell_heap hA (o := 1) rfl
      have q1 := cell_heap hB (o := 1) rfl
      have p2 := cell_heap hA (o := 2) rfl
      have q2 := cell_heap hB (o := 2) rfl
      have p3 := cell_heap hA (o := 3) rfl
      have q3 := cell_heap hB (o := 3) rfl
      have p4 := cell_heap hA (o := 4) rfl
      have q4 := cell_heap hB (o := 4) rfl
      have p5 := cell_heap hA (o := 5) rfl
      have q5 := cell_heap hB (o := 5) rfl
      have p6 := cell_heap hA (o := 6) rfl
      have q6 := cell_heap hB (o := 6) rfl
      have p7 := cell_heap hA (o := 7) rfl
      have q7 := cell_heap hB (o := 7) rfl
      have p8 := cell_heap hA (o := 8) rfl
      have q8 := cell_heap hB (o := 8) rfl
      have HkV := hide hkV
      clear hA hB HA1 hkV y0' y1' y2' y3' y4' y5' y6' y7' y8'
      cases z with
      | true =>
        go_wp2_with (go_at_call 41; refine (hcall _ HkV.out).mono ?_; rintro e w8 ⟨rfl, hk8⟩)
        go_roundg (gk - 1)
        case measure => have := Hi.out; omega
        case rel =>
          refine ⟨i + 1, by have := Hi.out; omega, by first | rfl | go_num, (hk.trans' HkV.out).trans' hk8, ?_⟩
          obtain ⟨h1, h2⟩ := List.getElem?_eq_some_iff.1 Hu.out
          obtain ⟨h3, h4⟩ := List.getElem?_eq_some_iff.1 Hv.out
          rw [List.take_succ_eq_append_getElem h1, List.take_succ_eq_append_getElem h3, Hsm.out, h2, h4, Hiff.out.1 (by simp)]
      | false =>
        have hrf : r = false := by
          cases hrr : r with
          | false => rfl
          | true =>
            have := Hr.out.1 hrr
            subst this
            have := Hu.out.symm.trans Hv.out
            injection this with this
            have h2 := Hiff.out.2 this
            cases h2
        have Hrf := hide hrf
        clear hrf
        go_wp2_with (go_at_call 41; refine (hcall _ HkV.out).mono ?_; rintro e w8 ⟨rfl, hk8⟩)
        go_ret
        exact ⟨by rw [Hrf.out]; rfl, (hk.trans' HkV.out).trans' hk8⟩
    · have hge : (n : Int) ≤ (i : Int) := by omega
      have hrf : r = true := Hr.out.2 (by
        have h1 := Hsm.out
        have h2 := Hxn.out
        have h3 := Hyn.out
        rwa [List.take_of_length_le (by omega), List.take_of_length_le (by omega)] at h1)
      have Hrf := hide hrf
      clear hrf
      go_wp2_with fail
      go_ret
      exact ⟨by rw [Hrf.out]; rfl, hk⟩
theorem eqAlt_any (A B : Option Addr) (n c m d : Nat) (x y : List (Alt)) (w : World) (hn : n ≤ maxLen) (hx : Sl altT w (low w.heap.size) A n x) (hy : Sl altT w (low w.heap.size) B m y) :
    Calls Tryd.prog 40 #[.slice A n c, .slice B m d, .func (.func 41) #[] #[]] w fun e w' => e = .returned (.bool (sameL (sameAlt) x y)) ∧ Kept w w' := by
  have hxn := hx.1
  have hyn := hy.1
  by_cases hnm : n = m
  · subst hnm
    have hc := fun w' (hk : Kept w w') => eqfAlt_any A B n c d x y w' hn (hx.kept hk) (hy.kept hk)
    obtain ⟨r, hr0⟩ : ∃ r, sameL (sameAlt) x y = r := ⟨_, rfl⟩
    simp only [hr0] at hc ⊢
    clear hr0 hxn hyn
    go_enter Tryd.func40, Tryd.ntmps40
    go_wp2_with (go_at_call 86; refine (hc _ (Below.refl _ _)).mono ?_; rintro e w1 ⟨rfl, hk1⟩)
    go_ret
    exact ⟨rfl, hk1⟩
  · have hrf : sameL (sameAlt) x y = false := by
      cases hrr : sameL (sameAlt) x y with
      | false => rfl
      | true => exact absurd (by rw [← hxn, ← hyn, (sameL_iff fun a _ b _ => sameAlt_iff a b).1 hrr]) hnm
    rw [hrf]
    have hne : ((n : Int) == (m : Int)) = false := by simp; omega
    clear hxn hyn hrf
    go_enter Tryd.func40, Tryd.ntmps40
    go_wp2_with fail
    go_ret
    exact ⟨rfl, by go_grown⟩
set_option maxRecDepth 100000 in
theorem same1_any (A B : Option Addr) (n c m d : Nat) (x y : List Alt) (w : World) (h1 : n ≤ c) (h2 : c ≤ maxLen) (h3 : m ≤ d) (h4 : d ≤ maxLen) (hx : Sl altT w (low w.heap.size) A n x) (hy : Sl altT w (low w.heap.size) B m y) :
    Calls Tryd.prog 39 #[.agg #[.slice A n c], .agg #[.slice B m d]] w fun e w' => e = .returned (.bool (sameL sameAlt x y)) ∧ Kept w w' := by
  have hc := fun w' (hk : Kept w w') => eqAlt_any A B n c m d x y w' (Nat.le_trans h1 h2) (hx.kept hk) (hy.kept hk)
  obtain ⟨r, hr0⟩ : ∃ r, sameL sameAlt x y = r := ⟨_, rfl⟩
  simp only [hr0] at hc ⊢
  unfold maxLen at h2 h4
  clear hr0
  go_enter Tryd.func39, Tryd.ntmps39
  go_wp2_with (go_at_call 40; refine (hc _ (by go_grown)).mono ?_; rintro e w1 ⟨rfl, hk1⟩)
  go_ret
  exact ⟨rfl, Kept.trans' (by go_grown) hk1⟩
set_option maxRecDepth 100000 in
set_option maxHeartbeats 4000000 in
theorem eqfIf_any (A B : Option Addr) (n c d : Nat) (x y : List (List Alt)) (w : World) (hn : n ≤ maxLen) (hx : Sl ifT w (low w.heap.size) A n x) (hy : Sl ifT w (low w.heap.size) B n y) :
    Calls Tryd.prog 85 #[.slice A n c, .slice B n d, .func (.func 39) #[] #[]] w fun e w' => e = .returned (.bool (sameL (sameL sameAlt) x y)) ∧ Kept w w' := by
  have hxn := hx.1
  have hyn := hy.1
  unfold maxLen at hn
  obtain ⟨r, hr0⟩ : ∃ r, sameL (sameL sameAlt) x y = r := ⟨_, rfl⟩
  rw [hr0]
  have hri : r = true ↔ x = y := by rw [← hr0]; exact sameL_iff fun a _ b _ => sameL_iff fun a _ b _ => sameAlt_iff a b
  have Hr := hide hri
  have Hxn := hide hxn
  have Hyn := hide hyn
  clear hr0 hri hxn hyn
  go_enter Tryd.func85, Tryd.ntmps85
  go_wp2_with fail
  go_loopg [17] n (fun g s17 wr => ∃ i : Nat, i + g = n ∧ s17 = .int .i64 i ∧ Kept w wr ∧ x.take i = y.take i)
  case atStart => exact ⟨0, by omega, rfl, Below.refl _ _, rfl⟩
  case round =>
    obtain ⟨i, hi, rfl, hk, hsm⟩ := hrel
    have Hsm := hide hsm
    have Hi := hide hi
    clear hsm hi
    by_cases hlt : i < n
    · obtain ⟨u, b, off, cs, hu, rfl, hbb, ⟨A', c', rfl, d1, d2, d3⟩, hcs⟩ := (hx.kept hk).at hlt
      obtain ⟨v, b', off', cs', hv, rfl, hbb', ⟨B', e', rfl, k1, k2, k3⟩, hcs'⟩ := (hy.kept hk).at hlt
      have x0 : wr.cell? ⟨b, off + i, none⟩ = some (.slice A' u.length c') := by have := hcs 0 _ rfl; simpa [Ty.slice] using this
      have y0 : wr.cell? ⟨b', off' + i, none⟩ = some (.slice B' v.length e') := by have := hcs' 0 _ rfl; simpa [Ty.slice] using this
      have hcall := fun w' (hk' : Kept wr w') => same1_any A' B' u.length c' v.length e' u v w' d1 d2 k1 k2 (d3.kept hk') (k3.kept hk')
      unfold maxLen at d2 k2
      have hiff : sameL sameAlt u v = true ↔ u = v := sameL_iff fun a _ b _ => sameAlt_iff a b
      obtain ⟨z, hz⟩ : ∃ z, sameL sameAlt u v = z := ⟨_, rfl⟩
      simp only [hz] at hcall hiff
      have Hiff := hide hiff
      clear hz hiff hcs hcs' d3 k3
      obtain ⟨n1, hn1⟩ : ∃ n, u.length = n := ⟨_, rfl⟩
      obtain ⟨n2, hn2⟩ : ∃ n, v.length = n := ⟨_, rfl⟩
      simp only [hn1, hn2] at hcall d1 k1 x0 y0
      clear hn1 hn2
      have hbl : b < wr.heap.size := hbb
      have hbl' : b' < wr.heap.size := hbb'
      have hi0 : (0 : Int) ≤ (i : Int) := by omega
      have hlt' : (i : Int) < (n : Int) := by omega
      have hwi : IntKind.i64.wrap ((i : Int) + 1) = ((i + 1 : Nat) : Int) := by rw [IntKind.wrap_i64]; omega
      have Hu := hide hu
      have Hv := hide hv
      clear hu hv
      go_upto_region 6 with (fail)
      refine wp_at (fun V => V.heap[wr.heap.size]? = some (.cells #[.slice A' n1 c'] 50 (0, 0)) ∧ Kept wr V) ⟨heap_at _ rfl, by go_grown⟩ (fun V1 hV1 => ?_)
      obtain ⟨hA1, hk1⟩ := hV1
      have y0' := (hk1.cell (p := ⟨b', off' + i, none⟩) hbl').trans y0
      have hbv' : b' < V1.heap.size := Nat.lt_of_lt_of_le hbl' hk1.size
      have HA1 := hide hA1
      clear hA1 x0 y0
      go_upto_region 7 with (fail)
      refine wp_at (fun V => V.heap[wr.heap.size]? = some (.cells #[.slice A' n1 c'] 50 (0, 0)) ∧ V.heap[V1.heap.size]? = some (.cells #[.slice B' n2 e'] 50 (0, 0)) ∧ Kept wr V) ⟨heap_past HA1.out, heap_at _ rfl, hk1.trans' (by go_grown)⟩ (fun V hV => ?_)
      obtain ⟨hA, hB, hkV⟩ := hV
      have la := heap_lt hA
      have lb := heap_lt hB
      have p0 := cell_heap hA (o := 0) rfl
      have q0 := cell_heap hB (o := 0) rfl
      have HkV := hide hkV
      clear hA hB HA1 hkV y0'
      cases z with
      | true =>
        go_wp2_with (go_at_call 39; refine (hcall _ HkV.out).mono ?_; rintro e w8 ⟨rfl, hk8⟩)
        go_roundg (gk - 1)
        case measure => have := Hi.out; omega
        case rel =>
          refine ⟨i + 1, by have := Hi.out; omega, by first | rfl | go_num, (hk.trans' HkV.out).trans' hk8, ?_⟩
          obtain ⟨h1, h2⟩ := List.getElem?_eq_some_iff.1 Hu.out
          obtain ⟨h3, h4⟩ := List.getElem?_eq_some_iff.1 Hv.out
          rw [List.take_succ_eq_append_getElem h1, List.take_succ_eq_append_getElem h3, Hsm.out, h2, h4, Hiff.out.1 (by simp)]
      | false =>
        have hrf : r = false := by
          cases hrr : r with
          | false => rfl
          | true =>
            have := Hr.out.1 hrr
            subst this
            have := Hu.out.symm.trans Hv.out
            injection this with this
            have h2 := Hiff.out.2 this
            cases h2
        have Hrf := hide hrf
        clear hrf
        go_wp2_with (go_at_call 39; refine (hcall _ HkV.out).mono ?_; rintro e w8 ⟨rfl, hk8⟩)
        go_ret
        exact ⟨by rw [Hrf.out]; rfl, (hk.trans' HkV.out).trans' hk8⟩
    · have hge : (n : Int) ≤ (i : Int) := by omega
      have hrf : r = true := Hr.out.2 (by
        have h1 := Hsm.out
        have h2 := Hxn.out
        have h3 := Hyn.out
        rwa [List.take_of_length_le (by omega), List.take_of_length_le (by omega)] at h1)
      have Hrf := hide hrf
      clear hrf
      go_wp2_with fail
      go_ret
      exact ⟨by rw [Hrf.out]; rfl, hk⟩
theorem eqIf_any (A B : Option Addr) (n c m d : Nat) (x y : List (List Alt)) (w : World) (hn : n ≤ maxLen) (hx : Sl ifT w (low w.heap.size) A n x) (hy : Sl ifT w (low w.heap.size) B m y) :
    Calls Tryd.prog 38 #[.slice A n c, .slice B m d, .func (.func 39) #[] #[]] w fun e w' => e = .returned (.bool (sameL (sameL sameAlt) x y)) ∧ Kept w w' := by
  have hxn := hx.1
  have hyn := hy.1
  by_cases hnm : n = m
  · subst hnm
    have hc := fun w' (hk : Kept w w') => eqfIf_any A B n c d x y w' hn (hx.kept hk) (hy.kept hk)
    obtain ⟨r, hr0⟩ : ∃ r, sameL (sameL sameAlt) x y = r := ⟨_, rfl⟩
    simp only [hr0] at hc ⊢
    clear hr0 hxn hyn
    go_enter Tryd.func38, Tryd.ntmps38
    go_wp2_with (go_at_call 85; refine (hc _ (Below.refl _ _)).mono ?_; rintro e w1 ⟨rfl, hk1⟩)
    go_ret
    exact ⟨rfl, hk1⟩
  · have hrf : sameL (sameL sameAlt) x y = false := by
      cases hrr : sameL (sameL sameAlt) x y with
      | false => rfl
      | true => exact absurd (by rw [← hxn, ← hyn, (sameL_iff fun a _ b _ => sameL_iff fun a _ b _ => sameAlt_iff a b).1 hrr]) hnm
    rw [hrf]
    have hne : ((n : Int) == (m : Int)) = false := by simp; omega
    clear hxn hyn hrf
    go_enter Tryd.func38, Tryd.ntmps38
    go_wp2_with fail
    go_ret
    exact ⟨rfl, by go_grown⟩
set_option maxRecDepth 100000 in
set_option maxHeartbeats 2000000 in
theorem same_any (a b : Cfg) (A B : Option Addr) (c d : Nat) (w : World) (ha : CfgIs w (low w.heap.size) a A c) (hb : CfgIs w (low w.heap.size) b B d) :
    Calls Tryd.prog 18 #[.agg (a.cells A c).toArray, .agg (b.cells B d).toArray] w fun e w' => e = .returned (.bool (sameS a b)) ∧ Kept w w' := by
  have hc := fun w' (hk : Kept w w') => eqIf_any A B a.ifs.length c b.ifs.length d a.ifs b.ifs w' (Nat.le_trans ha.len ha.cap) (ha.kept hk).ifs (hb.kept hk).ifs
  have hq := fun w => eqlCfg a.d b.d w
  have h1 := ha.len
  have h2 := ha.cap
  have h3 := hb.len
  have h4 := hb.cap
  obtain ⟨r1, hr1⟩ : ∃ r, sameCfgD a.d b.d = r := ⟨_, rfl⟩
  obtain ⟨r2, hr2⟩ : ∃ r, sameL (sameL sameAlt) a.ifs b.ifs = r := ⟨_, rfl⟩
  obtain ⟨r, hr⟩ : ∃ r, sameS a b = r := ⟨_, rfl⟩
  have hrr : (r1 && r2) = r := by rw [← hr, ← hr1, ← hr2]; rfl
  rw [hr]
  simp only [hr1] at hq
  simp only [hr2] at hc
  clear hr1 hr2 hr ha hb
  obtain ⟨⟨a0, a1, a2, a3, a4, a5, a6⟩, ai⟩ := a
  obtain ⟨⟨b0, b1, b2, b3, b4, b5, b6⟩, bi⟩ := b
  unfold Cfg.cells
  unfold CfgD.cells at hq ⊢
  simp only [List.cons_append, List.nil_append] at hc hq h1 h3 ⊢
  obtain ⟨n, hn⟩ : ∃ n, ai.length = n := ⟨_, rfl⟩
  obtain ⟨m, hm⟩ : ∃ m, bi.length = m := ⟨_, rfl⟩
  simp only [hn, hm] at hc h1 h3 ⊢
  unfold maxLen at h2 h4
  clear hn hm
  have Hrf := hide hrr
  clear hrr
  cases r1 with
  | false =>
    go_enter Tryd.func18, Tryd.ntmps18
    go_wp2_with fail
    go_ret
    exact ⟨by rw [← Hrf.out]; rfl, by go_grown⟩
  | true =>
    go_enter Tryd.func18, Tryd.ntmps18
    go_wp2_with (go_at_call 38; refine (hc _ (by go_grown)).mono ?_; rintro e w1 ⟨rfl, hk1⟩)
    go_ret
    exact ⟨by rw [← Hrf.out]; rfl, Kept.trans' (by go_grown) hk1⟩
end Go.Proofs.YtjgncofhobhjdaaDoor
