
/- The law's own check of a driver. The list reads as drivers. -/
import Derived.Test.YtgkhenplbljbbaaChecked
import Derived.Deep.RegionHeld3
import Derived.Deep.DrawnRows
import Derived.Deep.DeepCutAuto
import Derived.Deep.LoopGhost
import Derived.Outline
import Derived.Handy
import Derived.Test.YtgkhenplbljbbaaWg
import Derived.Test.YtgkhenplbljbbaaFa
import Derived.OwnWalk
import Derived.Test.YtgkhenplbljbbaaCt
import Derived.Test.YtgkhenplbljbbaaFr
import Derived.Test.YtgkhenplbljbbaaPd
set_option linter.unusedVariables false
set_option linter.unusedSimpArgs false
set_option linter.unusedSectionVars false
namespace Go.Proofs.Ytgkhenplbljbbaa
open Go.RowKit
attribute [local go_sem ↓] Go.wp_at_zero Go.wp_at_succ

theorem bad_name {l : List Drv} {i : Nat} {d : Drv} (h : badName d.name = true) : oneErr l i d = 1 := oneErr_bad (by simp [Drv.bad, h])
theorem bad_empty {s : ByteArray} (h : s.size = 0) : badName s = true := by unfold badName; rw [h]; rfl
theorem bad_rule {l : List Drv} {i : Nat} {d : Drv} {r : Rule} (hr : r ∈ d.rules) (h : r.bad = true) : oneErr l i d = 1 := oneErr_bad (by simp only [Drv.bad, Bool.or_eq_true, List.any_eq_true]; exact .inr ⟨r, hr, h⟩)
theorem apart_all {l : List Drv} {i : Nat} {s : ByteArray} (hi : i < l.length) (h : ∀ (j : Nat) (y : Drv), j < i → l[j]? = some y → sameB y.name s = false) : ((l.take i).map Drv.name).any (fun x => sameB x s) = false := by
  rw [List.any_eq_false]
  intro x hx
  obtain ⟨d, hd, rfl⟩ := List.mem_map.1 hx
  obtain ⟨j, hj, e⟩ := List.getElem_of_mem hd
  have hj' : j < i := by simp at hj; omega
  have : l[j]? = some d := by rw [← e, List.getElem_take]; exact List.getElem?_eq_getElem (by omega)
  rw [h j d hj' this]; simp
theorem apart_hit {l : List Drv} {i j : Nat} {y : Drv} {s : ByteArray} (hj : j < i) (hy : l[j]? = some y) (h : sameB y.name s = true) : ((l.take i).map Drv.name).any (fun x => sameB x s) = true := by
  rw [List.any_eq_true]
  refine ⟨y.name, List.mem_map.2 ⟨y, ?_, rfl⟩, h⟩
  exact List.mem_of_getElem? (by rw [List.getElem?_take_of_lt hj]; exact hy)
theorem sameL (x y : ByteArray) : (x.toList == y.toList) = sameB x y := by rw [ByteArray.toList_eq, ByteArray.toList_eq]; rfl
theorem good_all {d : Drv} (h0 : badName d.name = false) (h : ∀ (j : Nat) (y : Rule), j < d.rules.length → d.rules[j]? = some y → y.bad = false) : d.bad = false := by
  unfold Drv.bad
  rw [h0]
  have : d.rules.any Rule.bad = false := by
    rw [List.any_eq_false]
    intro x hx
    obtain ⟨j, hj, e⟩ := List.getElem_of_mem hx
    rw [h j x hj (by rw [← e]; exact List.getElem?_eq_getElem hj)]; simp
  rw [this]; rfl
theorem Rule.lbad (r : Rule) (h : r.ok) : r.bad = lbadR r.use r.vendor r.product r.cls r.sub r.proto := lbad_eq _ _ _ _ _ _ h.1 h.2
set_option maxRecDepth 100000 in
set_option maxHeartbeats 8000000 in
theorem lcheck_any (A : Option Addr) (n c : Nat) (l : List Drv) (i : Nat) (d : Drv) (w : World) (hn : n ≤ maxLen) (hl : Sl drvT w (low w.heap.size) A n l) (hi : i < n) (hd : l[i]? = some d) :
    Calls Try.prog 28 #[.slice A n c, .int .i64 (i : Int)] w fun e w' => e = .returned (.int .i64 (oneErr l i d)) ∧ Kept w w' := by
  have hn' := hn
  unfold maxLen at hn
  obtain ⟨d', b, off, A', c', hd2, rfl, hbw, hbr, hc1, hc2, hns, hd0, hd1, hrs⟩ := drv_at hl (Below.refl _ w) hi
  obtain rfl : d = d' := by rw [hd] at hd2; injection hd2
  clear hd2
  unfold maxLen at hns hc2
  have Hd := hide hd
  clear hd
  have hi' : (i : Int) < (n : Int) := by omega
  have hi0 : (0 : Int) ≤ (i : Int) := by omega
  by_cases h0 : d.name.size < 1
  · have Hb := hide (bad_name (l := l) (i := i) (d := d) (bad_empty (by omega)))
    have h0' : decide ((d.name.size : Int) < 1) = true := decide_eq_true (by omega)
    have h0'' : decide (d.name.size < 1) = true := decide_eq_true h0
    clear h0
    go_enter Try.func28, Try.ntmps28
    go_wp2
    go_ret
    exact ⟨by rw [Hb.out]; rfl, Below.refl _ _⟩
  by_cases h1 : 32 < d.name.size
  · have Hb := hide (bad_name (l := l) (i := i) (d := d) (by simp [badName, h1]))
    have h0' : decide ((d.name.size : Int) < 1) = false := decide_eq_false (by omega)
    have h1' : decide ((32 : Int) < (d.name.size : Int)) = true := decide_eq_true (by omega)
    clear h0
    go_enter Try.func28, Try.ntmps28
    go_wp2
    all_goals go_ret
    all_goals exact ⟨by rw [Hb.out]; rfl, Below.refl _ _⟩
  have h0' : decide ((d.name.size : Int) < 1) = false := decide_eq_false (by omega)
  have h1' : decide ((32 : Int) < (d.name.size : Int)) = false := decide_eq_false (by omega)
  have H0 := hide h0
  have H1 := hide h1
  clear h0 h1
  go_enter Try.func28, Try.ntmps28
  go_wp2_with fail
  go_loopg [6] d.name.size (fun g s6 wr => ∃ k : Nat, k + g = d.name.size ∧ s6 = .int .i64 k ∧ Hid (∀ (j : Nat) (y : UInt8), j < k → d.name.data.toList[j]? = some y → badC y = false) ∧ w = wr)
  case atStart => exact ⟨0, by omega, rfl, fun j y h => by omega, rfl⟩
  case round =>
    clear h0' h1'
    obtain ⟨k, hk, rfl, Hc, rfl⟩ := hrel
    have Hk := hide hk
    clear hk
    by_cases hlt : k < d.name.size
    · have hlt' : (k : Int) < (d.name.size : Int) := by omega
      have hk0 : (0 : Int) ≤ (k : Int) := by omega
      have Hat := hide (byte_at hlt)
      have By : Hid (badC d.name[k] = true → oneErr l i d = 1) := fun hbt => by
        have ha : d.name.data.toList.any badC = true := List.any_eq_true.2 ⟨_, List.mem_of_getElem? Hat.out, hbt⟩
        exact bad_name (by simp [badName, ha])
      go_wp2
      · have hbt : badC d.name[k] = true := by simp only [badC, Bool.or_eq_true, decide_eq_true_eq]; omega
        go_ret
        exact ⟨by rw [By.out hbt]; rfl, Below.refl _ _⟩
      · have hbf : badC d.name[k] = false := by simp only [badC, Bool.or_eq_false_iff, decide_eq_false_iff_not]; omega
        go_roundg (gk - 1)
        case measure => have := Hk.out; omega
        case rel => exact ⟨k + 1, by have := Hk.out; omega, by go_num, clear_succ Hat.out hbf Hc.out, rfl⟩
      · have hbt : badC d.name[k] = true := by simp only [badC, Bool.or_eq_true, decide_eq_true_eq]; omega
        go_ret
        exact ⟨by rw [By.out hbt]; rfl, Below.refl _ _⟩
    · have hkn : k = d.name.data.toList.length := by
        have := Hk.out; have : d.name.data.toList.length = d.name.size := by simp
        omega
      have ha : badName d.name = false := by
        have h1 : d.name.data.toList.any badC = false := by
          rw [List.any_eq_false]
          intro x hx
          obtain ⟨j, hj, e⟩ := List.getElem_of_mem hx
          rw [← e, Hc.out j _ (by omega) (List.getElem?_eq_getElem hj)]; simp
        have h2 := H0.out
        have h3 := H1.out
        have h4 : (d.name.size == 0) = false := beq_false_of_ne (by omega)
        have h5 : decide (32 < d.name.size) = false := decide_eq_false h3
        unfold badName
        rw [h1, h4, h5]; rfl
      have Ha := hide ha
      clear hkn ha Hc Hk
      go_wp2_with fail
      go_loopg [7] d.rules.length (fun g s7 wr => ∃ k : Nat, k + g = d.rules.length ∧ s7 = .int .i64 k ∧ Hid (∀ (j : Nat) (y : Rule), j < k → d.rules[j]? = some y → y.bad = false) ∧ Kept w wr)
      case atStart => exact ⟨0, by omega, rfl, fun j y h => by omega, Below.refl _ _⟩
      case round =>
        obtain ⟨k, hk, rfl, Hc, hkw⟩ := hrel
        obtain ⟨hcr, hfr⟩ := bcell hkw
        have Hk := hide hk
        clear hk
        by_cases hlt : k < d.rules.length
        · obtain ⟨r, b2, off2, hr, rfl, hb2, hb2r, hok, hc0', hc1', hc2', hc3', hc4', hc5'⟩ := rule_at hrs (Below.refl _ w) hlt
          have hlt' : (k : Int) < (d.rules.length : Int) := by omega
          have hk0 : (0 : Int) ≤ (k : Int) := by omega
          have By : Hid (lbadR r.use r.vendor r.product r.cls r.sub r.proto = true → oneErr l i d = 1) := fun hbt => bad_rule (List.mem_of_getElem? hr) (by rw [r.lbad hok]; exact hbt)
          have Bn : Hid (lbadR r.use r.vendor r.product r.cls r.sub r.proto = false → ∀ (j : Nat) (y : Rule), j < k + 1 → d.rules[j]? = some y → y.bad = false) := fun hbf => clear_succ hr (by rw [r.lbad hok]; exact hbf) Hc.out
          obtain ⟨hok0, hok1⟩ := hok
          clear hr Hc
          generalize r.use = u at *
          generalize r.vendor = v at *
          generalize r.product = p at *
          generalize r.cls = cl at *
          generalize r.sub = sb at *
          generalize r.proto = pr at *
          go_upto_region 13 with (fail)
          refine wp_at (fun W => W.heap[wr.heap.size]? = some (.cells #[.int .u8 (u), .int .u16 (v), .int .u16 (p), .int .u8 (cl), .int .u8 (sb), .int .u8 (pr)] 43 (0, 0)) ∧ Kept w W) ⟨heap_at _ rfl, Below.alloc hkw hkw.size _⟩ (fun W hW => ?_)
          obtain ⟨HX, hkW⟩ := hW
          have hXl := heap_lt HX
          have x0 := cell_heap HX (o := 0) rfl
          have x1 := cell_heap HX (o := 1) rfl
          have x2 := cell_heap HX (o := 2) rfl
          have x3 := cell_heap HX (o := 3) rfl
          have x4 := cell_heap HX (o := 4) rfl
          have x5 := cell_heap HX (o := 5) rfl
          clear HX hc0' hc1' hc2' hc3' hc4' hc5' hcr hfr
          generalize wr.heap.size = X at *
          refine wp_region_lit ?_
          refine wpList_cutF 9 (fun a0 a1 w1 => ∃ C : Bool, a1.tmps.size = 136 ∧ a1.defers = [] ∧ a1.tmps.toList.take 57 = a0.tmps.toList.take 57 ∧ a1.tmps.toList.drop 124 = a0.tmps.toList.drop 124 ∧ a1.tmps[65]? = some (.bool C) ∧ Hid (C = (decide (u < 1) || decide (31 < u))) ∧ W = w1) (fun RR hRR => ?_) ?_
          · conv => enter [4]; whnf; enter [2]; whnf; enter [2]; whnf; enter [2]; whnf; enter [2]; whnf; enter [2]; whnf; enter [2]; whnf; enter [2]; whnf; enter [2]; whnf; enter [2]; whnf
            go_wp2
            all_goals
              refine hRR.out _ _ ⟨_, rfl, rfl, rfl, rfl, rfl, ?_, rfl⟩
              clear hRR
              unfold Hid
              first
                | (rw [decide_eq_true (by omega : u < 1)] <;> rfl)
                | (rw [decide_eq_false (by omega : ¬ u < 1)] <;> first | rfl | (rw [decide_eq_true (by omega : 31 < u)] <;> rfl) | (rw [decide_eq_false (by omega : ¬ 31 < u)] <;> rfl))
          intro a1 w1 hcut
          obtain ⟨B, hsz, hdf, htk, htd, sc, hB0, rfl⟩ := hcut
          obtain ⟨g, hg, hgs⟩ := frame57 a1 _ _ hsz htk htd
          rw [hdf] at hg
          have ec := hgs 65 _ sc
          clear hsz hdf htk htd sc hgs
          subst hg
          rw [ec]
          clear ec
          simp only [List.take_succ_cons, List.take_zero, List.cons_append, List.nil_append, List.drop_succ_cons, List.drop_zero]
          conv => enter [4]; whnf
          refine wpList_cutF 12 (fun a0 a1 w1 => ∃ C : Bool, a1.tmps.size = 136 ∧ a1.defers = [] ∧ a1.tmps.toList.take 57 = a0.tmps.toList.take 57 ∧ a1.tmps.toList.drop 124 = a0.tmps.toList.drop 124 ∧ a1.tmps[77]? = some (.bool C) ∧ Hid (C = (B || (u / 16 % 2 == 0 && v != 0))) ∧ W = w1) (fun RR hRR => ?_) ?_
          · conv => enter [4]; whnf; enter [2]; whnf; enter [2]; whnf; enter [2]; whnf; enter [2]; whnf; enter [2]; whnf; enter [2]; whnf; enter [2]; whnf; enter [2]; whnf; enter [2]; whnf; enter [2]; whnf; enter [2]; whnf; enter [2]; whnf
            cases B
            all_goals
              go_wp2
            all_goals
              refine hRR.out _ _ ⟨_, rfl, rfl, rfl, rfl, rfl, ?_, rfl⟩
              clear hRR
              unfold Hid
              first
                | rfl
                | (rw [show (u / 16 % 2 == 0) = false from beq_false_of_ne (by omega)] <;> rfl)
                | (rw [show (u / 16 % 2 == 0) = true from beq_iff_eq.2 (by omega)] <;> first | rfl | (rw [show (v != 0) = true from bne_iff_ne.2 (by omega)] <;> rfl) | (rw [show (v != 0) = false by simp; omega] <;> rfl))
          intro a1 w1 hcut
          obtain ⟨B, hsz, hdf, htk, htd, sc, hB1, rfl⟩ := hcut
          obtain ⟨g, hg, hgs⟩ := frame57 a1 _ _ hsz htk htd
          rw [hdf] at hg
          have ec := hgs 77 _ sc
          clear hsz hdf htk htd sc hgs
          subst hg
          rw [ec]
          clear ec
          simp only [List.take_succ_cons, List.take_zero, List.cons_append, List.nil_append, List.drop_succ_cons, List.drop_zero]
          conv => enter [4]; whnf
          refine wpList_cutF 12 (fun a0 a1 w1 => ∃ C : Bool, a1.tmps.size = 136 ∧ a1.defers = [] ∧ a1.tmps.toList.take 57 = a0.tmps.toList.take 57 ∧ a1.tmps.toList.drop 124 = a0.tmps.toList.drop 124 ∧ a1.tmps[89]? = some (.bool C) ∧ Hid (C = (B || (u / 8 % 2 == 0 && p != 0))) ∧ W = w1) (fun RR hRR => ?_) ?_
          · conv => enter [4]; whnf; enter [2]; whnf; enter [2]; whnf; enter [2]; whnf; enter [2]; whnf; enter [2]; whnf; enter [2]; whnf; enter [2]; whnf; enter [2]; whnf; enter [2]; whnf; enter [2]; whnf; enter [2]; whnf; enter [2]; whnf
            cases B
            all_goals
              go_wp2
            all_goals
              refine hRR.out _ _ ⟨_, rfl, rfl, rfl, rfl, rfl, ?_, rfl⟩
              clear hRR
              unfold Hid
              first
                | rfl
                | (rw [show (u / 8 % 2 == 0) = false from beq_false_of_ne (by omega)] <;> rfl)
                | (rw [show (u / 8 % 2 == 0) = true from beq_iff_eq.2 (by omega)] <;> first | rfl | (rw [show (p != 0) = true from bne_iff_ne.2 (by omega)] <;> rfl) | (rw [show (p != 0) = false by simp; omega] <;> rfl))
          intro a1 w1 hcut
          obtain ⟨B, hsz, hdf, htk, htd, sc, hB2, rfl⟩ := hcut
          obtain ⟨g, hg, hgs⟩ := frame57 a1 _ _ hsz htk htd
          rw [hdf] at hg
          have ec := hgs 89 _ sc
          clear hsz hdf htk htd sc hgs
          subst hg
          rw [ec]
          clear ec
          simp only [List.take_succ_cons, List.take_zero, List.cons_append, List.nil_append, List.drop_succ_cons, List.drop_zero]
          conv => enter [4]; whnf
          refine wpList_cutF 12 (fun a0 a1 w1 => ∃ C : Bool, a1.tmps.size = 136 ∧ a1.defers = [] ∧ a1.tmps.toList.take 57 = a0.tmps.toList.take 57 ∧ a1.tmps.toList.drop 124 = a0.tmps.toList.drop 124 ∧ a1.tmps[101]? = some (.bool C) ∧ Hid (C = (B || (u / 4 % 2 == 0 && cl != 0))) ∧ W = w1) (fun RR hRR => ?_) ?_
          · conv => enter [4]; whnf; enter [2]; whnf; enter [2]; whnf; enter [2]; whnf; enter [2]; whnf; enter [2]; whnf; enter [2]; whnf; enter [2]; whnf; enter [2]; whnf; enter [2]; whnf; enter [2]; whnf; enter [2]; whnf; enter [2]; whnf
            cases B
            all_goals
              go_wp2
            all_goals
              refine hRR.out _ _ ⟨_, rfl, rfl, rfl, rfl, rfl, ?_, rfl⟩
              clear hRR
              unfold Hid
              first
                | rfl
                | (rw [show (u / 4 % 2 == 0) = false from beq_false_of_ne (by omega)] <;> rfl)
                | (rw [show (u / 4 % 2 == 0) = true from beq_iff_eq.2 (by omega)] <;> first | rfl | (rw [show (cl != 0) = true from bne_iff_ne.2 (by omega)] <;> rfl) | (rw [show (cl != 0) = false by simp; omega] <;> rfl))
          intro a1 w1 hcut
          obtain ⟨B, hsz, hdf, htk, htd, sc, hB3, rfl⟩ := hcut
          obtain ⟨g, hg, hgs⟩ := frame57 a1 _ _ hsz htk htd
          rw [hdf] at hg
          have ec := hgs 101 _ sc
          clear hsz hdf htk htd sc hgs
          subst hg
          rw [ec]
          clear ec
          simp only [List.take_succ_cons, List.take_zero, List.cons_append, List.nil_append, List.drop_succ_cons, List.drop_zero]
          conv => enter [4]; whnf
          refine wpList_cutF 12 (fun a0 a1 w1 => ∃ C : Bool, a1.tmps.size = 136 ∧ a1.defers = [] ∧ a1.tmps.toList.take 57 = a0.tmps.toList.take 57 ∧ a1.tmps.toList.drop 124 = a0.tmps.toList.drop 124 ∧ a1.tmps[113]? = some (.bool C) ∧ Hid (C = (B || (u / 2 % 2 == 0 && sb != 0))) ∧ W = w1) (fun RR hRR => ?_) ?_
          · conv => enter [4]; whnf; enter [2]; whnf; enter [2]; whnf; enter [2]; whnf; enter [2]; whnf; enter [2]; whnf; enter [2]; whnf; enter [2]; whnf; enter [2]; whnf; enter [2]; whnf; enter [2]; whnf; enter [2]; whnf; enter [2]; whnf
            cases B
            all_goals
              go_wp2
            all_goals
              refine hRR.out _ _ ⟨_, rfl, rfl, rfl, rfl, rfl, ?_, rfl⟩
              clear hRR
              unfold Hid
              first
                | rfl
                | (rw [show (u / 2 % 2 == 0) = false from beq_false_of_ne (by omega)] <;> rfl)
                | (rw [show (u / 2 % 2 == 0) = true from beq_iff_eq.2 (by omega)] <;> first | rfl | (rw [show (sb != 0) = true from bne_iff_ne.2 (by omega)] <;> rfl) | (rw [show (sb != 0) = false by simp; omega] <;> rfl))
          intro a1 w1 hcut
          obtain ⟨B, hsz, hdf, htk, htd, sc, hB4, rfl⟩ := hcut
          obtain ⟨g, hg, hgs⟩ := frame57 a1 _ _ hsz htk htd
          rw [hdf] at hg
          have ec := hgs 113 _ sc
          clear hsz hdf htk htd sc hgs
          subst hg
          rw [ec]
          clear ec
          simp only [List.take_succ_cons, List.take_zero, List.cons_append, List.nil_append, List.drop_succ_cons, List.drop_zero]
          conv => enter [4]; whnf
          have HL : Hid (lbadR u v p cl sb pr = (B || (u % 2 == 0 && pr != 0))) := by
            show _ = _
            unfold lbadR
            rw [hB4.out, hB3.out, hB2.out, hB1.out, hB0.out]
          clear hB0 hB1 hB2 hB3 hB4
          cases B
          all_goals
            go_wp2
          all_goals first
            | (go_ret
               exact ⟨by rw [By.out (by rw [HL.out]; first | rfl | (rw [show (u % 2 == 0) = true from beq_iff_eq.2 (by omega), show (pr != 0) = true from (by first | assumption | exact bne_iff_ne.2 (by omega))] <;> rfl))]; rfl, hkW⟩)
            | (have hbf : lbadR u v p cl sb pr = false := by
                 rw [HL.out]
                 first
                   | (rw [show (u % 2 == 0) = false from beq_false_of_ne (by omega)] <;> rfl)
                   | (rw [show (pr != 0) = false from (by first | assumption | (simp; omega))]; simp)
               have Hbf := hide hbf
               clear hbf
               go_roundg (gk - 1)
               case measure => have := Hk.out; omega
               case rel => exact ⟨k + 1, by have := Hk.out; omega, by go_num, Bn.out Hbf.out, hkW⟩)
        · have hkr : k = d.rules.length := by have := Hk.out; omega
          have Hdb := hide (good_all Ha.out (hkr ▸ Hc.out))
          have hil := hide (show i < l.length by have := hl.1; omega)
          clear hkr Hc Hk Ha
          go_wp2_with fail
          obtain ⟨wo, rfl⟩ : ∃ wo, wo = wr := ⟨_, rfl⟩
          go_loopg [9] i (fun g s9 wr => ∃ q : Nat, q + g = i ∧ s9 = .int .i64 q ∧ Hid (∀ (j : Nat) (y : Drv), j < q → l[j]? = some y → sameB y.name d.name = false) ∧ Kept w wr)
          case atStart => exact ⟨0, by omega, rfl, fun j y h => by omega, hkw⟩
          case round =>
            clear hkw hcr hfr
            obtain ⟨q, hq, rfl, Hq, hkw⟩ := hrel
            obtain ⟨hcr, hfr⟩ := bcell hkw
            have Hk := hide hq
            clear hq
            by_cases hlt : q < i
            · obtain ⟨y, b3, off3, A3, c3, hy, hA3, hb3, hb3r, _, _, _, hy0, hy1, _⟩ := drv_at hl (Below.refl _ w) (show q < n by omega)
              injection hA3 with hA3; injection hA3 with e1 e2 e3
              subst e1 e2
              have hlt' : (q : Int) < (i : Int) := by omega
              have hk0 : (0 : Int) ≤ (q : Int) := by omega
              have Hy := hide hy
              clear hy hy1
              cases hs : (y.name.toList == d.name.toList)
              · have Hn : Hid (sameB y.name d.name = false) := (sameL _ _).symm.trans hs
                go_wp2
                go_roundg (gk - 1)
                case measure => have := Hk.out; omega
                case rel => exact ⟨q + 1, by have := Hk.out; omega, by go_num, hide (clear_succ (p := fun x => sameB x.name d.name) Hy.out Hn.out Hq.out), hkw⟩
              · have Hn : Hid (oneErr l i d = 8) := oneErr_dup Hdb.out (apart_hit hlt Hy.out ((sameL _ _).symm.trans hs))
                go_wp2
                go_ret
                exact ⟨by rw [Hn.out]; rfl, hkw⟩
            · have hqi : q = i := by have := Hk.out; omega
              have Hz : Hid (oneErr l i d = 0) := oneErr_ok Hdb.out (apart_all hil.out (hqi ▸ Hq.out))
              clear hqi
              go_wp2
              go_ret
              exact ⟨by rw [Hz.out]; rfl, hkw⟩
end Go.Proofs.Ytgkhenplbljbbaa
