/- ConfigurationsBytes, walked. No condition but that the tables lie. Printed by gen_lb.py. -/
import Derived.Test.YtjgncofhobhjdaaDoorChecked
import Derived.Deep.RegionHeld3
import Derived.Deep.DrawnRows
import Derived.Deep.DeepCutAuto
import Derived.Deep.LoopGhost
import Derived.Outline
import Derived.Handy
import Derived.OwnWalk
import Derived.BigQuiet
import Derived.Test.YtjgncofhobhjdaaDoorAkK
import Derived.Test.YtjgncofhobhjdaaDoorN17
import Derived.Test.YtjgncofhobhjdaaDoorN11
import Derived.Test.YtjgncofhobhjdaaDoorZaK
set_option linter.unusedVariables false
set_option linter.unusedSimpArgs false
set_option linter.unusedSectionVars false
namespace Go.Proofs.YtjgncofhobhjdaaDoor
open Go.RowKit
attribute [local go_sem ↓] Go.wp_at_zero Go.wp_at_succ

theorem small_valid' {C : Cfg} (h : checkS C = 0) : SmallE C := by
  intro l hl a ha e he
  have h1 := (check_of h).valid.alts l hl a ha
  unfold altOk at h1
  rw [Bool.and_eq_true] at h1
  have := okEp_num (List.all_eq_true.1 h1.2 e he)
  omega
theorem told_size {C : Cfg} (h : checkS C = 0) : (toldS C).length ≤ 4096 := by
  rw [← bytes_told (check_of h).valid, bytes_len (check_of h).valid]
  exact (check_of h).size
noncomputable def codeB : Code := (Tryd.f5.body.bind (findR 14)).getD .skip
noncomputable def opsB : Array Oper := opsOf (headC codeB)
set_option maxRecDepth 100000 in
set_option maxHeartbeats 16000000 in
theorem bytes_law (A : Option Addr) (m c : Nat) (l : List Int) (mo : Int) (w : World) (hl : Sl u8T w (low w.heap.size) A m l) (hmc : m ≤ c) (hcm : c ≤ maxLen) (hmo : 0 ≤ mo ∧ mo < 65536) (hT : Tabs w) :
    Calls Tryd.prog 5 #[.slice A m c, .int .u16 mo] w fun e w' => e = .returned (.bool true) ∧ Kept w w' := by
  obtain ⟨i5, hi5, hz0, hz1, hz2⟩ := info_parts info5
  have hlv := fun w' (hk : Kept w w') => lives_any w' (hT.kept hk)
  obtain ⟨q, hq⟩ : ∃ q : Nat, mo % 5000 = (q : Int) := ⟨(mo % 5000).toNat, by omega⟩
  have hq5 : q ≤ 4999 := by omega
  have hwm : IntKind.i64.wrap mo = mo := by rw [IntKind.wrap_i64]; omega
  have hqm : mo.tmod 5000 = (q : Int) := by rw [Int.tmod_eq_emod_of_nonneg hmo.1]; exact hq
  clear hq
  by_cases h200 : m ≤ 200
  case neg =>
    have h201 : (200 : Int) < (m : Int) := by omega
    go_enter Tryd.func5, Tryd.ntmps5
    go_wp2_with (go_at_call 13; refine (hlv _ (Below.refl _ _)).mono ?_; rintro e w2 ⟨rfl, hk2⟩)
    go_ret
    exact ⟨rfl, hk2⟩
  case pos =>
  have h201 : (m : Int) ≤ 200 := by omega
  have Hl := hide hl
  have Hl8 := hide hl.all8
  have Hlm := hide hl.1
  clear hl
  go_enter Tryd.func5, Tryd.ntmps5
  go_upto_region 5 with (at_builtin; refine wpList_append_sl (T := u8T) rfl (.tmp 17) (.tmp 18) 34 rfl w.heap.size 5 i5 _ 1 Tryd.underlying34 hi5 hz0 hz1 hz2 rfl (by exact Nat.one_pos) _ 0 [] (by rfl) ⟨rfl, [], ⟨rfl, .inr ⟨w.heap.size, 0, #[], rfl, Nat.le_refl _, heap_at _ rfl, Nat.le_refl _, Nat.zero_le _, rfl, rfl⟩⟩, fun i x h => by simp at h⟩ A m c l (by rfl) (by exact Hl.out.keep (fun b hb => ⟨by rw [World.size_alloc]; exact Nat.lt_succ_of_lt hb, fun e => by simp [Value.ownBlock] at e; have hb' : b < w.heap.size := hb; omega⟩) (fun b o hb => ((Below.refl _ w).alloc (Nat.le_refl _) _).cell (p := ⟨b, o, none⟩) hb)) (by_one8 _ _) (by unfold maxLen; omega) (by omega) (by simp) ?_; intro v9 w9 hown9 hg9 hb9 hat9)
  rw [Nat.zero_add, List.nil_append] at hown9
  have hk9 : Kept w w9 := ((Below.refl _ w).alloc (Nat.le_refl _) _).trans hb9
  have Hown9 := hide hown9
  have Hk9 := hide hk9
  clear hown9 hk9 hg9 hb9 hat9
  go_wp2_with fail
  go_loopg [6, 7] q (fun g s6 s7 wx => ∃ k : Nat, k + g = q ∧ s7 = .int .i64 k ∧ Own u8T 5 w.heap.size wx s6 (m + k) (l ++ List.replicate k 2) ∧ Kept w wx)
  case atStart => exact ⟨0, by omega, rfl, by simpa using Hown9.out, Hk9.out⟩
  case round =>
    clear Hown9 Hk9
    obtain ⟨k, hk, rfl, hown, hkr⟩ := hrel
    have Hk := hide hk
    obtain ⟨AB, cN, rfl, hcN1, hcN2⟩ := hown.isSlice
    have Hown := hide hown
    clear hk hown
    by_cases hlt : k < q
    case pos =>
      have hki : (k : Int) < (q : Int) := by omega
      have hwk : IntKind.i64.wrap ((k : Int) + 1) = ((k + 1 : Nat) : Int) := by rw [IntKind.wrap_i64]; omega
      have hbase := hkr.size
      go_upto_region 7 with (at_builtin; refine wpList_append_el (T := u8T) rfl (.tmp 25) (.tmp 26) 34 rfl w.heap.size 5 i5 _ 1 Tryd.underlying34 hi5 hz0 hz1 hz2 rfl (by exact Nat.one_pos) _ (m + k) (l ++ List.replicate k 2) (by rfl) (Hown.out.alloc _) wr.heap.size _ _ 2 (by rfl) (heap_at _ rfl) (by exact ⟨rfl, by unfold u8k; omega⟩) (by simp [Value.oneCell']) (by unfold maxLen; omega) (by omega) (by simp; omega) ?_; intro g9 cap9 w9 hown9 hg9 hb9 hat9 hlt9)
      have hk9 : Kept w w9 := (hkr.alloc hbase _).trans hb9
      rw [List.append_assoc, ← List.replicate_succ'] at hown9
      have Hown9 := hide hown9
      clear hown9 hg9 hb9 hat9 Hown
      go_wp2_with fail
      go_roundg (gk - 1)
      case measure => have := Hk.out; omega
      case rel => exact ⟨k + 1, by have := Hk.out; omega, by first | rfl | go_num, Hown9.out, hk9⟩
    case neg =>
    have hki : (q : Int) ≤ (k : Int) := by omega
    have hki2 : ¬ (k : Int) < (q : Int) := by omega
    have hkq : k = q := by have := Hk.out; omega
    subst hkq
    obtain ⟨N, hN⟩ : ∃ N, m + k = N := ⟨_, rfl⟩
    obtain ⟨al, hal⟩ : ∃ al, l ++ List.replicate k 2 = al := ⟨_, rfl⟩
    have hown := Hown.out
    rw [hN, hal] at hown
    rw [hN] at hcN1
    simp only [hN]
    have hu8 : ∀ z ∈ al, u8k z := by
      intro z hz
      rw [← hal] at hz
      rcases List.mem_append.1 hz with hz | hz
      · exact Hl8.out z hz
      · rw [List.mem_replicate] at hz
        unfold u8k
        omega
    have hsl := hown.sl
    have haln : al.length = N := hsl.1
    have hN5 : N ≤ 5199 := by omega
    have Hsl := hide hsl
    have Hu8 := hide hu8
    have Haln := hide haln
    clear Hown hown hal hsl hu8 haln hN Hk
    have hac : ∀ w', Kept wr w' → Calls Tryd.prog 20 #[.slice AB N cN] w' (fun e w2 => e = .returned (retB (accB al)) ∧ Kept w' w2) := fun w' hk => acc_any AB N cN al w' (Hsl.out.kept hk) hcN1 hcN2 (by omega)
    have hpa : ∀ w', Kept wr w' → Calls Tryd.prog 16 #[.slice AB N cN] w' (ParsePost w' al) := fun w' hk => parse_any AB N cN al w' hcN1 hcN2 (Hsl.out.kept hk)
    have hai := fun h => acc_iff (b := al) Hu8.out (by rw [Haln.out]; exact h)
    obtain ⟨pc, hpc⟩ : ∃ pc, parseC al = pc := ⟨_, rfl⟩
    have hpi := fun C (h : pc = some C) => parse_inv (b := al) (c := C) Hu8.out (by rw [hpc]; exact h)
    have hpe : pc = none → parseE al = if 4096 < N then 3 else 4 := fun h => by
      unfold parseE
      rw [Haln.out, hpc, h]
      rfl
    unfold ParsePost at hpa
    simp only [hpc] at hpa hai
    clear hpc
    cases pc with
    | none =>
      obtain ⟨er, her⟩ : ∃ er, parseE al = er := ⟨_, rfl⟩
      have hpe' := hpe rfl
      simp only [her] at hpa hpe'
      have Her := hide hpe'
      clear her hpe hpi hpe'
      go_upto_region 10 with (first
        | (go_at_call 16; refine (hpa _ (Below.refl _ _)).mono ?_; rintro e w7 ⟨rfl, hk7⟩)
        | (refine wpList_store_row rfl 32 (.tmp 8) (.tmp 31) rfl w7.heap.size #[.int .u16 0, .int .u8 0, .int .u8 0, .int .u8 0, .bool false, .bool false, .int .u8 0, .slice none 0 0] (by rfl) (by rfl) 32 _ (heap_at _ rfl) (by kernel_rfl) (by rfl) (by simp [Value.oneCell']) ?_))
      refine wp_at (fun Y => Y.heap[w7.heap.size]? = some (.cells #[.int .u16 0, .int .u8 0, .int .u8 0, .int .u8 0, .bool false, .bool false, .int .u8 0, .slice none 0 0] 32 (0, 0)) ∧ Kept w7 Y) ⟨heap_row (heap_at _ rfl), by first | exact below_row ((Below.refl _ _).alloc (Nat.le_refl _) _) (Nat.le_refl _) _ | go_grown⟩ (fun Y hY => ?_)
      obtain ⟨hTB, hkY⟩ := hY
      obtain ⟨TB, hTBd⟩ : ∃ TB, w7.heap.size = TB := ⟨_, rfl⟩
      rw [hTBd] at hTB
      simp only [hTBd]
      have t0 := cell_heap hTB (o := 0) rfl
      have t1 := cell_heap hTB (o := 1) rfl
      have t2 := cell_heap hTB (o := 2) rfl
      have t3 := cell_heap hTB (o := 3) rfl
      have t4 := cell_heap hTB (o := 4) rfl
      have t5 := cell_heap hTB (o := 5) rfl
      have t6 := cell_heap hTB (o := 6) rfl
      have t7 := cell_heap hTB (o := 7) rfl
      have lT := heap_lt hTB
      have hkZ := hkr.trans' (hk7.trans' hkY)
      have hkWY : Kept wr Y := hk7.trans' hkY
      have hac2 := hac _ hkWY
      clear hk7 hkY hTBd
      by_cases h4 : N ≤ 4096
      case neg =>
        have h41 : (4096 : Int) < (N : Int) := by omega
        have he3 : er = 3 := by rw [Her.out, if_pos (by omega)]
        subst he3
        go_wp2_with (go_at_call 13; refine (hlv _ hkZ).mono ?_; rintro e w8 ⟨rfl, hk8⟩)
        go_ret
        exact ⟨rfl, hkZ.trans' hk8⟩
      case pos =>
      have h41 : (N : Int) ≤ 4096 := by omega
      have he4 : er = 4 := by rw [Her.out, if_neg (by omega)]
      subst he4
      rw [hai h4] at hac2
      have hac3 : Calls Tryd.prog 20 #[.slice AB N cN] Y (fun e w2 => e = .returned (.int .i64 0) ∧ Kept Y w2) := hac2
      clear hac2 hac hai
      go_upto_region 13 with (go_at_call 20; refine hac3.mono ?_; rintro e w8 ⟨rfl, hk8⟩)
      have hT8 := heap_kept hk8 hTB
      clear t0 t1 t2 t3 t4 t5 t6 t7 lT
      have t0 := cell_heap hT8 (o := 0) rfl
      have t1 := cell_heap hT8 (o := 1) rfl
      have t2 := cell_heap hT8 (o := 2) rfl
      have t3 := cell_heap hT8 (o := 3) rfl
      have t4 := cell_heap hT8 (o := 4) rfl
      have t5 := cell_heap hT8 (o := 5) rfl
      have t6 := cell_heap hT8 (o := 6) rfl
      have t7 := cell_heap hT8 (o := 7) rfl
      have lT := heap_lt hT8
      have hkZ8 := hkZ.trans' hk8
      go_wp2_with (go_at_call 13; refine (hlv _ hkZ8).mono ?_; rintro e w8 ⟨rfl, hk9⟩)
      go_ret
      exact ⟨rfl, hkZ8.trans' hk9⟩
    | some C =>
    obtain ⟨hto, hch, hok⟩ := hpi C rfl
    have h4 : N ≤ 4096 := by rw [← Haln.out, ← hto]; exact told_size hch
    have h41 : (N : Int) ≤ 4096 := by omega
    have hsz := (check_of hch).size
    have hsm := small_valid' hch
    obtain ⟨D, IFS⟩ := C
    obtain ⟨n, hn⟩ : ∃ n, IFS.length = n := ⟨_, rfl⟩
    unfold Cfg.cells CfgD.cells at hpa
    simp only [hn, List.cons_append, List.nil_append] at hpa
    have Hsz := hide hsz
    have Hto := hide hto
    have Hn := hide hn
    have Hsm := hide hsm
    have hai2 := hai h4
    clear hpe hpi hto hch hok hsz hsm hn hai
    go_upto_region 10 with (first
      | (go_at_call 16; refine (hpa _ (Below.refl _ _)).mono ?_; rintro e w7 ⟨⟨A9, rfl, hcf⟩, hk7⟩)
      | (refine wpList_store_row rfl 32 (.tmp 8) (.tmp 31) rfl w7.heap.size #[.int .u16 D.total, .int .u8 D.ifs, .int .u8 D.number, .int .u8 D.text, .bool D.self, .bool D.wake, .int .u8 D.power, .slice A9 n n] (by rfl) (by rfl) 32 _ (heap_at _ rfl) (by kernel_rfl) (by rfl) (by simp [Value.oneCell']) ?_))
    refine wp_at (fun Y => Y.heap[w7.heap.size]? = some (.cells #[.int .u16 D.total, .int .u8 D.ifs, .int .u8 D.number, .int .u8 D.text, .bool D.self, .bool D.wake, .int .u8 D.power, .slice A9 n n] 32 (0, 0)) ∧ Kept w7 Y) ⟨heap_row (heap_at _ rfl), by first | exact below_row ((Below.refl _ _).alloc (Nat.le_refl _) _) (Nat.le_refl _) _ | go_grown⟩ (fun Y hY => ?_)
    obtain ⟨hTB, hkY⟩ := hY
    obtain ⟨TB, hTBd⟩ : ∃ TB, w7.heap.size = TB := ⟨_, rfl⟩
    rw [hTBd] at hTB
    simp only [hTBd]
    have t0 := cell_heap hTB (o := 0) rfl
    have t1 := cell_heap hTB (o := 1) rfl
    have t2 := cell_heap hTB (o := 2) rfl
    have t3 := cell_heap hTB (o := 3) rfl
    have t4 := cell_heap hTB (o := 4) rfl
    have t5 := cell_heap hTB (o := 5) rfl
    have t6 := cell_heap hTB (o := 6) rfl
    have t7 := cell_heap hTB (o := 7) rfl
    have lT := heap_lt hTB
    have hkZ := hkr.trans' (hk7.trans' hkY)
    have hkWY : Kept wr Y := hk7.trans' hkY
    have hac2 := hac _ hkWY
    rw [hai2] at hac2
    have hac3 : Calls Tryd.prog 20 #[.slice AB N cN] Y (fun e w2 => e = .returned (.int .i64 1) ∧ Kept Y w2) := hac2
    have HcfY := hide (hcf.keep (fun b hb => Nat.lt_of_lt_of_le hb.2 hkY.size) (fun b o hb => hkY.cell (p := ⟨b, o, none⟩) hb.2) : CfgIs Y (low Y.heap.size) ⟨D, IFS⟩ A9 n)
    clear hk7 hkY hTBd hac hac2 hcf hpa hai2
    go_upto_region 14 with (go_at_call 20; refine hac3.mono ?_; rintro e w8 ⟨rfl, hk8⟩)
    have hTY := heap_kept hk8 hTB
    have hkZ8 := hkZ.trans' hk8
    have Hcf8 := hide (HcfY.out.kept hk8)
    have hsl8 := Hsl.out.kept (hkWY.trans' hk8)
    clear t0 t1 t2 t3 t4 t5 t6 t7 lT hTB hkZ HcfY hac3
    refine wp_at (fun Y => Y = w8) rfl (fun Y2 hY2 => ?_)
    subst hY2
    rename World => Y
    clear hk8 hkWY
    have t0 := cell_heap hTY (o := 0) rfl
    have t1 := cell_heap hTY (o := 1) rfl
    have t2 := cell_heap hTY (o := 2) rfl
    have t3 := cell_heap hTY (o := 3) rfl
    have t4 := cell_heap hTY (o := 4) rfl
    have t5 := cell_heap hTY (o := 5) rfl
    have t6 := cell_heap hTY (o := 6) rfl
    have t7 := cell_heap hTY (o := 7) rfl
    have lT := heap_lt hTY
    obtain ⟨S0, hS0⟩ : ∃ S0, strB al = S0 := ⟨_, rfl⟩
    have hcv := fun w' (hk : Kept Y w') => conv_sl cN hsl8 hk
    rw [hS0] at hcv
    have HS0 := hide hS0
    clear hS0 hsl8
    have hstart : ((∀ b o, b < Y.heap.size → Y.drew.cell? ⟨b, o, none⟩ = Y.cell? ⟨b, o, none⟩) ∧ Below Y.heap.size Y Y.drew) ∧ (convert 34 9 (.slice AB N cN)).run Tryd.prog Y.drew = .ok (.string S0) Y.drew := ⟨since_start, hcv _ (Below.refl _ _).drew⟩
    have hstep : ∀ w' w1, (((∀ b o, b < Y.heap.size → w'.cell? ⟨b, o, none⟩ = Y.cell? ⟨b, o, none⟩) ∧ Below Y.heap.size Y w') ∧ (convert 34 9 (.slice AB N cN)).run Tryd.prog w' = .ok (.string S0) w') → Kept w' w1 → (((∀ b o, b < Y.heap.size → w1.cell? ⟨b, o, none⟩ = Y.cell? ⟨b, o, none⟩) ∧ Below Y.heap.size Y w1) ∧ (convert 34 9 (.slice AB N cN)).run Tryd.prog w1 = .ok (.string S0) w1) := fun w' w1 h hk => by
      have h2 := since_keep h.1 (Nat.le_refl _) hk
      exact ⟨h2, hcv _ h2.2⟩
    have htd : ∀ w', (((∀ b o, b < Y.heap.size → w'.cell? ⟨b, o, none⟩ = Y.cell? ⟨b, o, none⟩) ∧ Below Y.heap.size Y w') ∧ (convert 34 9 (.slice AB N cN)).run Tryd.prog w' = .ok (.string S0) w') → Calls Tryd.prog 17 #[.agg #[.int .u16 D.total, .int .u8 D.ifs, .int .u8 D.number, .int .u8 D.text, .bool D.self, .bool D.wake, .int .u8 D.power, .slice A9 n n]] w' (fun e w2 => e = .returned (.string S0) ∧ Kept w' w2) := fun w' h => by
      have h2 := told_any ⟨D, IFS⟩ A9 n w' (Hcf8.out.kept h.1.2) (by have := Hsz.out; omega) Hsm.out
      unfold Cfg.cells CfgD.cells at h2
      simp only [Hn.out, Hto.out, HS0.out, List.cons_append, List.nil_append] at h2
      exact h2
    have hgl : ∀ w', (((∀ b o, b < Y.heap.size → w'.cell? ⟨b, o, none⟩ = Y.cell? ⟨b, o, none⟩) ∧ Below Y.heap.size Y w') ∧ (convert 34 9 (.slice AB N cN)).run Tryd.prog w' = .ok (.string S0) w') → Calls Tryd.prog 13 #[] w' (fun e w2 => e = .returned (.bool true) ∧ Kept w' w2) := fun w' h => hlv w' (hkZ8.trans' h.1.2)
    clear hTY hcv
    refine wp_region_held_named (ops' := opsB) (n := 13) (S := fun w' => ((∀ b o, b < Y.heap.size → w'.cell? ⟨b, o, none⟩ = Y.cell? ⟨b, o, none⟩) ∧ Below Y.heap.size Y w') ∧ (convert 34 9 (.slice AB N cN)).run Tryd.prog w' = .ok (.string S0) w') (by kernel_rfl) (by kernel_rfl) (by kernel_rfl) hstart (fun hS => ?_)
    have ho : opsB[0]? = some (opAt opsB 0) := by kernel_rfl
    conv at ho => rhs; arg 1; whnf
    refine wpAnyH_take (i := 0) (v := ?_) ho (by kernel_rfl) (by kernel_rfl) (by kernel_rfl) (fun _ _ _ h => h) (Or.inl ⟨by kernel_rfl, ?_⟩) hS ?_
    clear ho
    rotate_left
    · intro w' hS'
      have hq := hS'.1
      have hq2 := hS'.2
      clear hS'
      first | (go_simp; done) | (go_simp; with_reducible rfl)
    try clear ho
    try simp only [Act.put, List.getElem_toArray, List.getElem_cons_zero, List.getElem_cons_succ, List.setIfInBounds_toArray, List.set_cons_zero, List.set_cons_succ]
    have ho : opsB[1]? = some (opAt opsB 1) := by kernel_rfl
    conv at ho => rhs; arg 1; whnf
    refine wpAnyH_take (i := 1) (v := ?_) ho (by kernel_rfl) (by kernel_rfl) (by kernel_rfl) (fun _ _ _ h => h) (Or.inl ⟨by kernel_rfl, ?_⟩) hS ?_
    clear ho
    rotate_left
    · intro w' hS'
      have hq := hS'.1
      have hq2 := hS'.2
      clear hS'
      first | (go_simp; done) | (go_simp; with_reducible rfl)
    try clear ho
    try simp only [Act.put, List.getElem_toArray, List.getElem_cons_zero, List.getElem_cons_succ, List.setIfInBounds_toArray, List.set_cons_zero, List.set_cons_succ]
    have ho : opsB[2]? = some (opAt opsB 2) := by kernel_rfl
    conv at ho => rhs; arg 1; whnf
    refine wpAnyH_take (i := 2) (v := ?_) ho (by kernel_rfl) (by kernel_rfl) (by kernel_rfl) (fun _ _ _ h => h) (Or.inl ⟨by kernel_rfl, ?_⟩) hS ?_
    clear ho
    rotate_left
    · intro w' hS'
      have hq := hS'.1
      have hq2 := hS'.2
      clear hS'
      first | (go_simp; done) | (go_simp; with_reducible rfl)
    try clear ho
    try simp only [Act.put, List.getElem_toArray, List.getElem_cons_zero, List.getElem_cons_succ, List.setIfInBounds_toArray, List.set_cons_zero, List.set_cons_succ]
    have ho : opsB[3]? = some (opAt opsB 3) := by kernel_rfl
    conv at ho => rhs; arg 1; whnf
    refine wpAnyH_take (i := 3) (v := ?_) ho (by kernel_rfl) (by kernel_rfl) (by kernel_rfl) (fun _ _ _ h => h) (Or.inl ⟨by kernel_rfl, ?_⟩) hS ?_
    clear ho
    rotate_left
    · intro w' hS'
      have hq := hS'.1
      have hq2 := hS'.2
      clear hS'
      first | (go_simp; done) | (go_simp; with_reducible rfl)
    try clear ho
    try simp only [Act.put, List.getElem_toArray, List.getElem_cons_zero, List.getElem_cons_succ, List.setIfInBounds_toArray, List.set_cons_zero, List.set_cons_succ]
    have ho : opsB[5]? = some (opAt opsB 5) := by kernel_rfl
    conv at ho => rhs; arg 1; whnf
    refine wpAnyH_take (i := 5) (v := ?_) ho (by kernel_rfl) (by kernel_rfl) (by kernel_rfl) (fun _ _ _ h => h) (Or.inl ⟨by kernel_rfl, ?_⟩) hS ?_
    clear ho
    rotate_left
    · intro w' hS'
      have hq := hS'.1
      have hq2 := hS'.2
      clear hS'
      first | (go_simp; done) | (go_simp; with_reducible rfl)
    try clear ho
    try simp only [Act.put, List.getElem_toArray, List.getElem_cons_zero, List.getElem_cons_succ, List.setIfInBounds_toArray, List.set_cons_zero, List.set_cons_succ]
    have ho : opsB[6]? = some (opAt opsB 6) := by kernel_rfl
    conv at ho => rhs; arg 1; whnf
    refine wpAnyH_take (i := 6) (v := ?_) ho (by kernel_rfl) (by kernel_rfl) (by kernel_rfl) (fun _ _ _ h => h) (Or.inl ⟨by kernel_rfl, ?_⟩) hS ?_
    clear ho
    rotate_left
    · intro w' hS'
      have hq := hS'.1
      have hq2 := hS'.2
      clear hS'
      first | (go_simp; done) | (go_simp; with_reducible rfl)
    try clear ho
    try simp only [Act.put, List.getElem_toArray, List.getElem_cons_zero, List.getElem_cons_succ, List.setIfInBounds_toArray, List.set_cons_zero, List.set_cons_succ]
    have ho4 : opsB[4]? = some (opAt opsB 4) := by kernel_rfl
    conv at ho4 => rhs; arg 1; whnf
    refine wpAnyH_ready (rs := [4]) (by kernel_rfl) (by simp) ?_
    refine (AllReadyH.cons ho4 (fun K hK => ?_) AllReadyH.nil)
    all_goals clear ho4
    rw [if_pos (by kernel_rfl)]
    go_simp
    go_at_call 17
    refine (htd _ hS).mono ?_
    rintro e w9 ⟨rfl, hk⟩
    try dsimp only
    refine hK.out _ _ ?_ (fun hS => ?_)
    · exact hstep _ _ hS hk
    clear hK K
    try simp only [Act.put, List.getElem_toArray, List.getElem_cons_zero, List.getElem_cons_succ, List.setIfInBounds_toArray, List.set_cons_zero, List.set_cons_succ]
    have ho : opsB[7]? = some (opAt opsB 7) := by kernel_rfl
    conv at ho => rhs; arg 1; whnf
    refine wpAnyH_take (i := 7) (v := ?_) ho (by kernel_rfl) (by kernel_rfl) (by kernel_rfl) (fun _ _ _ h => h) (Or.inl ⟨by kernel_rfl, ?_⟩) hS ?_
    clear ho
    rotate_left
    · intro w' hS'
      have hq := hS'.1
      have hq2 := hS'.2
      clear hS'
      first | (go_simp; done) | (go_simp; with_reducible rfl)
    try clear ho
    try simp only [Act.put, List.getElem_toArray, List.getElem_cons_zero, List.getElem_cons_succ, List.setIfInBounds_toArray, List.set_cons_zero, List.set_cons_succ]
    have ho : opsB[8]? = some (opAt opsB 8) := by kernel_rfl
    conv at ho => rhs; arg 1; whnf
    refine wpAnyH_take (i := 8) (v := ?_) ho (by kernel_rfl) (by kernel_rfl) (by kernel_rfl) (fun _ _ _ h => h) (Or.inl ⟨by kernel_rfl, ?_⟩) hS ?_
    clear ho
    rotate_left
    · intro w' hS'
      have hq := hS'.1
      have hq2 := hS'.2
      clear hS'
      first | (go_simp; done) | (go_simp; with_reducible rfl)
    try clear ho
    try simp only [Act.put, List.getElem_toArray, List.getElem_cons_zero, List.getElem_cons_succ, List.setIfInBounds_toArray, List.set_cons_zero, List.set_cons_succ]
    have ho : opsB[9]? = some (opAt opsB 9) := by kernel_rfl
    conv at ho => rhs; arg 1; whnf
    refine wpAnyH_take (i := 9) (v := ?_) ho (by kernel_rfl) (by kernel_rfl) (by kernel_rfl) (fun _ _ _ h => h) (Or.inl ⟨by kernel_rfl, ?_⟩) hS ?_
    clear ho
    rotate_left
    · intro w' hS'
      have hq := hS'.1
      have hq2 := hS'.2
      clear hS'
      first | (go_simp; done) | (go_simp; with_reducible rfl)
    try clear ho
    try simp only [Act.put, List.getElem_toArray, List.getElem_cons_zero, List.getElem_cons_succ, List.setIfInBounds_toArray, List.set_cons_zero, List.set_cons_succ]
    have ho10 : opsB[10]? = some (opAt opsB 10) := by kernel_rfl
    conv at ho10 => rhs; arg 1; whnf
    refine wpAnyH_ready (rs := [10]) (by kernel_rfl) (by simp) ?_
    refine (AllReadyH.cons ho10 (fun K hK => ?_) AllReadyH.nil)
    all_goals clear ho10
    rw [if_pos (by kernel_rfl)]
    go_simp
    go_at_call 13
    refine (hgl _ hS).mono ?_
    rintro e w9 ⟨rfl, hk⟩
    try dsimp only
    refine hK.out _ _ ?_ (fun hS => ?_)
    · exact hstep _ _ hS hk
    clear hK K
    try simp only [Act.put, List.getElem_toArray, List.getElem_cons_zero, List.getElem_cons_succ, List.setIfInBounds_toArray, List.set_cons_zero, List.set_cons_succ]
    have ho : opsB[11]? = some (opAt opsB 11) := by kernel_rfl
    conv at ho => rhs; arg 1; whnf
    refine wpAnyH_take (i := 11) (v := ?_) ho (by kernel_rfl) (by kernel_rfl) (by kernel_rfl) (fun _ _ _ h => h) (Or.inl ⟨by kernel_rfl, ?_⟩) hS ?_
    clear ho
    rotate_left
    · intro w' hS'
      have hq := hS'.1
      have hq2 := hS'.2
      clear hS'
      first | (go_simp; done) | (go_simp; with_reducible rfl)
    try clear ho
    try simp only [Act.put, List.getElem_toArray, List.getElem_cons_zero, List.getElem_cons_succ, List.setIfInBounds_toArray, List.set_cons_zero, List.set_cons_succ]
    have ho : opsB[12]? = some (opAt opsB 12) := by kernel_rfl
    conv at ho => rhs; arg 1; whnf
    refine wpAnyH_take (i := 12) (v := ?_) ho (by kernel_rfl) (by kernel_rfl) (by kernel_rfl) (fun _ _ _ h => h) (Or.inl ⟨by kernel_rfl, ?_⟩) hS ?_
    clear ho
    rotate_left
    · intro w' hS'
      have hq := hS'.1
      have hq2 := hS'.2
      clear hS'
      first | (go_simp; done) | (go_simp; with_reducible rfl)
    try clear ho
    try simp only [Act.put, List.getElem_toArray, List.getElem_cons_zero, List.getElem_cons_succ, List.setIfInBounds_toArray, List.set_cons_zero, List.set_cons_succ]
    refine wpAnyH_done (by kernel_rfl) ?_ _
    refine (show ∀ (a : Act) (w : World), Code.wp Tryd.prog _ _ a w → _ from by assumption) _ _ ?_
    go_wp2_with fail
    go_ret
    exact ⟨rfl, hkZ8.trans' hS.1.2⟩
end Go.Proofs.YtjgncofhobhjdaaDoor
