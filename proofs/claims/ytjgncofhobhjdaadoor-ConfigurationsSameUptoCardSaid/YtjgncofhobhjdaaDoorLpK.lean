/- The law Parse: from the bytes on. Printed by gen_lp.py. -/
import Derived.Test.YtjgncofhobhjdaaDoorChecked
import Derived.Deep.RegionHeld3
import Derived.Deep.DrawnRows
import Derived.Deep.DeepCutAuto
import Derived.Deep.LoopGhost
import Derived.Outline
import Derived.Handy
import Derived.OwnWalk
import Derived.BigQuiet
import Derived.Test.YtjgncofhobhjdaaDoorLbK
import Derived.Test.YtjgncofhobhjdaaDoorN24
set_option linter.unusedVariables false
set_option linter.unusedSimpArgs false
set_option linter.unusedSectionVars false
namespace Go.Proofs.YtjgncofhobhjdaaDoor
open Go.RowKit
attribute [local go_sem ↓] Go.wp_at_zero Go.wp_at_succ

noncomputable def codeP14 : Code := (Tryd.f4.body.bind (fromR 14)).getD .skip
set_option maxRecDepth 1000000 in
set_option maxHeartbeats 16000000 in
theorem parse_tail {u0 u1 u2 u3 u4 u5 u6 u8 u9 u10 u11 u12 u13 u14 u15 u16 u17 u18 u19 u20 u21 u22 u23 u24 u25 u26 u27 u28 u29 u30 u31 u32 u33 u34 u35 u36 u37 u38 u39 u40 u41 u42 u43 u44 u45 u46 u47 u48 u49 u50 u51 u52 u53 u54 u55 u56 u57 u58 u59 u60 u61 u62 u63 u64 u65 u66 u67 u68 u69 u70 u71 u72 u73 u74 u75 u76 u77 u78 u79 u80 u81 u82 u83 u84 u85 u86 u87 u88 u89 u90 u91 u92 u93 u94 u95 u96 u97 u98 u99 u100 u101 u102 u103 : Value} {A : Option Addr} {n c : Nat} {l : List Int} {w W : World} (hkW : Kept w W) (hl : Sl u8T W (low W.heap.size) A n l) (hnc : n ≤ c) (hcm : c ≤ maxLen) (hn : n ≤ 4000) (hT : Tabs w)
    (K : Act → World → Prop) (hK : ∀ a w', Code.wp Tryd.prog (restC codeP14) (bodyPost Tryd.prog Tryd.f4 fun e w' => e = .returned (.bool true) ∧ Kept w w') a w' → K a w') :
    Code.wp Tryd.prog (headC codeP14) (Exit.then K (bodyPost Tryd.prog Tryd.f4 fun e w' => e = .returned (.bool true) ∧ Kept w w')) ⟨#[u0, u1, u2, u3, u4, u5, u6, .slice A n c, u8, u9, u10, u11, u12, u13, u14, u15, u16, u17, u18, u19, u20, u21, u22, u23, u24, u25, u26, u27, u28, u29, u30, u31, u32, u33, u34, u35, u36, u37, u38, u39, u40, u41, u42, u43, u44, u45, u46, u47, u48, u49, u50, u51, u52, u53, u54, u55, u56, u57, u58, u59, u60, u61, u62, u63, u64, u65, u66, u67, u68, u69, u70, u71, u72, u73, u74, u75, u76, u77, u78, u79, u80, u81, u82, u83, u84, u85, u86, u87, u88, u89, u90, u91, u92, u93, u94, u95, u96, u97, u98, u99, u100, u101, u102, u103], []⟩ W := by
  have hlv := fun w' (hk : Kept w w') => lives_any w' (hT.kept hk)
  have hu := hl.all8
  have hln := hl.1
  have hac : ∀ w', Kept W w' → Calls Tryd.prog 20 #[.slice A n c] w' (fun e w2 => e = .returned (retB (accB l)) ∧ Kept w' w2) := fun w' hk => acc_any A n c l w' (hl.kept hk) hnc hcm (by omega)
  have hpa : ∀ w', Kept W w' → Calls Tryd.prog 16 #[.slice A n c] w' (ParsePost w' l) := fun w' hk => parse_any A n c l w' hnc hcm (hl.kept hk)
  have hai := acc_iff (b := l) hu (by omega)
  obtain ⟨S0, hS0⟩ : ∃ S0, strB l = S0 := ⟨_, rfl⟩
  have hcv := fun w' (hk : Kept W w') => conv_sl c hl hk
  rw [hS0] at hcv
  have hcvW := hcv _ (Below.refl _ _)
  obtain ⟨pc, hpc⟩ : ∃ pc, parseC l = pc := ⟨_, rfl⟩
  have hpi := fun C (h : pc = some C) => parse_inv (b := l) (c := C) hu (by rw [hpc]; exact h)
  have hpe : pc = none → parseE l = 4 := fun h => by
    unfold parseE
    rw [if_neg (by omega), hpc, h]
    rfl
  unfold ParsePost at hpa
  simp only [hpc] at hpa hai
  have HS0 := hide hS0
  have hse : (S0.toList == S0.toList) = true := by simp
  clear hpc hl hu hln hT hS0
  conv => arg 2; whnf
  conv at hK => enter [a, w', 1, 2]; whnf
  cases pc with
  | none =>
    rw [hpe rfl] at hpa
    rw [hai] at hac
    clear hpi hpe hai
    go_upto_region 16 with (first
      | (go_at_call 16; refine (hpa _ (by first | exact Below.refl _ _ | exact below_drewN (Below.refl _ _) _)).mono ?_; rintro e w7 ⟨rfl, hk7⟩)
      | (refine wpList_store_row rfl 32 (.tmp 10) (.tmp 73) rfl w7.heap.size #[.int .u16 0, .int .u8 0, .int .u8 0, .int .u8 0, .bool false, .bool false, .int .u8 0, .slice none 0 0] (by rfl) (by rfl) 32 _ (heap_at _ rfl) (by kernel_rfl) (by rfl) (by simp [Value.oneCell']) ?_))
    refine wp_at (fun Y => Y.heap[w7.heap.size]? = some (.cells #[.int .u16 0, .int .u8 0, .int .u8 0, .int .u8 0, .bool false, .bool false, .int .u8 0, .slice none 0 0] 32 (0, 0)) ∧ Kept w7 Y) ⟨heap_row (heap_at _ rfl), by first | exact below_row ((Below.refl _ _).alloc (Nat.le_refl _) _) (Nat.le_refl _) _ | go_grown⟩ (fun Y hY => ?_)
    obtain ⟨hTB, hkY⟩ := hY
    obtain ⟨TB, hTBd⟩ : ∃ TB, w7.heap.size = TB := ⟨_, rfl⟩
    rw [hTBd] at hTB
    simp only [hTBd]
    have t0 := cell_heap hTB (o := 0) rfl
    have t1 := cell_heap hTB (o := 1) rfl
    have t2 := cell_heap hTB (o := 2) rfl
    have t3 := cell_heap hTB (o := 3) rfl
    have t4 := cell_heap hTB (o := 4) rfl
    have t5 := cell_heap hTB (o := 5) rfl
    have t6 := cell_heap hTB (o := 6) rfl
    have t7 := cell_heap hTB (o := 7) rfl
    have lT := heap_lt hTB
    have hkWY : Kept W Y := hk7.trans' hkY
    have hkZ := hkW.trans' hkWY
    have hcvY := hcv _ hkWY
    have hac3 : Calls Tryd.prog 20 #[.slice A n c] Y (fun e w2 => e = .returned (.int .i64 0) ∧ Kept Y w2) := hac _ hkWY
    clear hk7 hkY hTBd hac hpa
    go_upto_region 19 with (go_at_call 20; refine hac3.mono ?_; rintro e w8 ⟨rfl, hk8⟩)
    have hT8 := heap_kept hk8 hTB
    clear t0 t1 t2 t3 t4 t5 t6 t7 lT
    have t0 := cell_heap hT8 (o := 0) rfl
    have t1 := cell_heap hT8 (o := 1) rfl
    have t2 := cell_heap hT8 (o := 2) rfl
    have t3 := cell_heap hT8 (o := 3) rfl
    have t4 := cell_heap hT8 (o := 4) rfl
    have t5 := cell_heap hT8 (o := 5) rfl
    have t6 := cell_heap hT8 (o := 6) rfl
    have t7 := cell_heap hT8 (o := 7) rfl
    have lT := heap_lt hT8
    have hkZ8 := hkZ.trans' hk8
    go_wp2_with (go_at_call 13; refine (hlv _ hkZ8).mono ?_; rintro e w8 ⟨rfl, hk9⟩)
    go_ret
    exact ⟨rfl, hkZ8.trans' hk9⟩
  | some C =>
  obtain ⟨hto, hch, hok⟩ := hpi C rfl
  have hsz := (check_of hch).size
  have hsm := small_valid' hch
  obtain ⟨D, IFS⟩ := C
  obtain ⟨m, hm⟩ : ∃ m, IFS.length = m := ⟨_, rfl⟩
  unfold Cfg.cells CfgD.cells at hpa
  simp only [hm, List.cons_append, List.nil_append] at hpa
  have Hsz := hide hsz
  have Hto := hide hto
  have Hm := hide hm
  have Hsm := hide hsm
  rw [hai] at hac
  clear hpe hpi hto hch hok hsz hsm hm hai
  go_upto_region 16 with (first
    | (go_at_call 16; refine (hpa _ (by first | exact Below.refl _ _ | exact below_drewN (Below.refl _ _) _)).mono ?_; rintro e w7 ⟨⟨A9, rfl, hcf⟩, hk7⟩)
    | (refine wpList_store_row rfl 32 (.tmp 10) (.tmp 73) rfl w7.heap.size #[.int .u16 D.total, .int .u8 D.ifs, .int .u8 D.number, .int .u8 D.text, .bool D.self, .bool D.wake, .int .u8 D.power, .slice A9 m m] (by rfl) (by rfl) 32 _ (heap_at _ rfl) (by kernel_rfl) (by rfl) (by simp [Value.oneCell']) ?_))
  refine wp_at (fun Y => Y.heap[w7.heap.size]? = some (.cells #[.int .u16 D.total, .int .u8 D.ifs, .int .u8 D.number, .int .u8 D.text, .bool D.self, .bool D.wake, .int .u8 D.power, .slice A9 m m] 32 (0, 0)) ∧ Kept w7 Y) ⟨heap_row (heap_at _ rfl), by first | exact below_row ((Below.refl _ _).alloc (Nat.le_refl _) _) (Nat.le_refl _) _ | go_grown⟩ (fun Y hY => ?_)
  obtain ⟨hTB, hkY⟩ := hY
  obtain ⟨TB, hTBd⟩ : ∃ TB, w7.heap.size = TB := ⟨_, rfl⟩
  rw [hTBd] at hTB
  simp only [hTBd]
  have t0 := cell_heap hTB (o := 0) rfl
  have t1 := cell_heap hTB (o := 1) rfl
  have t2 := cell_heap hTB (o := 2) rfl
  have t3 := cell_heap hTB (o := 3) rfl
  have t4 := cell_heap hTB (o := 4) rfl
  have t5 := cell_heap hTB (o := 5) rfl
  have t6 := cell_heap hTB (o := 6) rfl
  have t7 := cell_heap hTB (o := 7) rfl
  have lT := heap_lt hTB
  have hkWY : Kept W Y := hk7.trans' hkY
  have hkZ := hkW.trans' hkWY
  have hcvY := hcv _ hkWY
  have hac3 : Calls Tryd.prog 20 #[.slice A n c] Y (fun e w2 => e = .returned (.int .i64 1) ∧ Kept Y w2) := hac _ hkWY
  have HcfY := hide (hcf.keep (fun b hb => Nat.lt_of_lt_of_le hb.2 hkY.size) (fun b o hb => hkY.cell (p := ⟨b, o, none⟩) hb.2) : CfgIs Y (low Y.heap.size) ⟨D, IFS⟩ A9 m)
  clear hk7 hkY hTBd hac hcf hpa
  go_upto_region 20 with (go_at_call 20; refine hac3.mono ?_; rintro e w8 ⟨rfl, hk8⟩)
  have hT8 := heap_kept hk8 hTB
  clear t0 t1 t2 t3 t4 t5 t6 t7 lT
  have t0 := cell_heap hT8 (o := 0) rfl
  have t1 := cell_heap hT8 (o := 1) rfl
  have t2 := cell_heap hT8 (o := 2) rfl
  have t3 := cell_heap hT8 (o := 3) rfl
  have t4 := cell_heap hT8 (o := 4) rfl
  have t5 := cell_heap hT8 (o := 5) rfl
  have t6 := cell_heap hT8 (o := 6) rfl
  have t7 := cell_heap hT8 (o := 7) rfl
  have lT := heap_lt hT8
  have hkZ8 := hkZ.trans' hk8
  have htd : Calls Tryd.prog 17 #[.agg #[.int .u16 D.total, .int .u8 D.ifs, .int .u8 D.number, .int .u8 D.text, .bool D.self, .bool D.wake, .int .u8 D.power, .slice A9 m m]] w8 (fun e w2 => e = .returned (.string S0) ∧ Kept w8 w2) := by
    have h2 := told_any ⟨D, IFS⟩ A9 m w8 (HcfY.out.kept hk8) (by have := Hsz.out; omega) Hsm.out
    unfold Cfg.cells CfgD.cells at h2
    simp only [Hm.out, Hto.out, HS0.out, List.cons_append, List.nil_append] at h2
    exact h2
  clear hcvY hkWY hkZ hac3
  go_wp2_with (first
    | (go_at_call 17; refine htd.mono ?_; rintro e w9 ⟨rfl, hk9⟩)
    | (go_at_call 13; refine (hlv _ (hkZ8.trans' hk9)).mono ?_; rintro e w10 ⟨rfl, hk10⟩))
  go_ret
  exact ⟨rfl, (hkZ8.trans' hk9).trans' hk10⟩
end Go.Proofs.YtjgncofhobhjdaaDoor
