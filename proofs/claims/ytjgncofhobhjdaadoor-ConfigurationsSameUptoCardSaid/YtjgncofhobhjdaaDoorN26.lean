/- The law Same, its parts. -/
import Derived.Test.YtjgncofhobhjdaaDoorChecked
import Derived.Deep.RegionHeld3
import Derived.Deep.DrawnRows
import Derived.Deep.DeepCutAuto
import Derived.Deep.LoopGhost
import Derived.Outline
import Derived.Handy
import Derived.OwnWalk
import Derived.BigQuiet
import Derived.Test.YtjgncofhobhjdaaDoorN14
import Derived.Test.YtjgncofhobhjdaaDoorN11
import Derived.Test.YtjgncofhobhjdaaDoorYeK
import Derived.Test.YtjgncofhobhjdaaDoorN15
import Derived.Test.YtjgncofhobhjdaaDoorN9
import Derived.Test.YtjgncofhobhjdaaDoorN1
import Derived.Test.YtjgncofhobhjdaaDoorN25
import Derived.Test.YtjgncofhobhjdaaDoorN3
set_option linter.unusedVariables false
set_option linter.unusedSimpArgs false
set_option linter.unusedSectionVars false
/- The law Same: from the comparison on. Printed by gen_kc.py. -/
namespace Go.Proofs.YtjgncofhobhjdaaDoor
open Go.RowKit
attribute [local go_sem ↓] Go.wp_at_zero Go.wp_at_succ

noncomputable def code20s : Code := (Tryd.f9.body.bind (fromR 20)).getD .skip
noncomputable def ops20 : Array Oper := opsOf (headC code20s)
theorem sameS_comm (a b : Cfg) : sameS a b = sameS b a := by
  rcases h1 : sameS a b with _ | _
  · rcases h2 : sameS b a with _ | _
    · rfl
    · have := (sameS_iff b a).1 h2
      subst this
      rw [h2] at h1
      exact h1.symm
  · have := (sameS_iff a b).1 h1
    subst this
    exact h1.symm
set_option maxRecDepth 1000000 in
set_option maxHeartbeats 16000000 in
theorem same_tail {u0 u1 u2 u3 u4 u5 u6 u9 u10 u11 u12 u13 u14 u15 u16 u17 u18 u19 u20 u21 u22 u23 u24 u25 u26 u27 u28 u29 u30 u31 u32 u33 u34 u35 u36 u37 u38 u39 u40 u41 u42 u43 u44 u45 u46 u47 u48 u49 u50 u51 u52 u53 u54 u55 u56 u57 u58 u59 u60 u61 u62 u63 u64 u65 u66 u67 u68 u69 u70 u71 u72 u73 u74 u75 u76 u77 u78 u79 u80 u81 u82 u83 u84 u85 u86 u87 u88 u89 u90 u91 u92 u93 u94 u95 u96 u97 u98 u99 u100 u101 u102 u103 u104 u105 u106 u107 u108 u109 u110 u111 u112 u113 u114 u115 u116 u117 u118 u119 u120 u121 u122 u123 u124 u125 u126 u127 u128 u129 u130 u131 u132 u133 u134 u135 u136 u137 u138 u139 u140 u141 : Value} {w W : World} {AB BB n1 n2 c1 c2 : Nat} {A1 A2 : Option Addr} {D1 D2 : CfgD} {I1 I2 : List (List Alt)} (hkW : Kept w W)
    (hA : W.heap[AB]? = some (.cells #[.int .u16 D1.total, .int .u8 D1.ifs, .int .u8 D1.number, .int .u8 D1.text, .bool D1.self, .bool D1.wake, .int .u8 D1.power, .slice A1 n1 c1] 32 (0, 0))) (hB : W.heap[BB]? = some (.cells #[.int .u16 D2.total, .int .u8 D2.ifs, .int .u8 D2.number, .int .u8 D2.text, .bool D2.self, .bool D2.wake, .int .u8 D2.power, .slice A2 n2 c2] 32 (0, 0))) (h1 : CfgIs W (low W.heap.size) ⟨D1, I1⟩ A1 c1) (h2 : CfgIs W (low W.heap.size) ⟨D2, I2⟩ A2 c2) (hn1 : I1.length = n1) (hn2 : I2.length = n2)
    (z1 : sizeS ⟨D1, I1⟩ ≤ 100000) (z2 : sizeS ⟨D2, I2⟩ ≤ 100000) (m1 : SmallE ⟨D1, I1⟩) (m2 : SmallE ⟨D2, I2⟩) (hT : Tabs w)
    (hv : ((strB (toldS ⟨D1, I1⟩)).toList == (strB (toldS ⟨D2, I2⟩)).toList) = sameS ⟨D1, I1⟩ ⟨D2, I2⟩)
    (K : Act → World → Prop) (hK : ∀ a w', Code.wp Tryd.prog (restC code20s) (bodyPost Tryd.prog Tryd.f9 fun e w' => e = .returned (.bool true) ∧ Kept w w') a w' → K a w') :
    Code.wp Tryd.prog (headC code20s) (Exit.then K (bodyPost Tryd.prog Tryd.f9 fun e w' => e = .returned (.bool true) ∧ Kept w w')) ⟨#[u0, u1, u2, u3, u4, u5, u6, .pointer (some ⟨AB, 0, none⟩), .pointer (some ⟨BB, 0, none⟩), u9, u10, u11, u12, u13, u14, u15, u16, u17, u18, u19, u20, u21, u22, u23, u24, u25, u26, u27, u28, u29, u30, u31, u32, u33, u34, u35, u36, u37, u38, u39, u40, u41, u42, u43, u44, u45, u46, u47, u48, u49, u50, u51, u52, u53, u54, u55, u56, u57, u58, u59, u60, u61, u62, u63, u64, u65, u66, u67, u68, u69, u70, u71, u72, u73, u74, u75, u76, u77, u78, u79, u80, u81, u82, u83, u84, u85, u86, u87, u88, u89, u90, u91, u92, u93, u94, u95, u96, u97, u98, u99, u100, u101, u102, u103, u104, u105, u106, u107, u108, u109, u110, u111, u112, u113, u114, u115, u116, u117, u118, u119, u120, u121, u122, u123, u124, u125, u126, u127, u128, u129, u130, u131, u132, u133, u134, u135, u136, u137, u138, u139, u140, u141], []⟩ W := by
  have hlv := fun w' (hk : Kept w w') => lives_any w' (hT.kept hk)
  obtain ⟨S1, hS1⟩ : ∃ S1, strB (toldS ⟨D1, I1⟩) = S1 := ⟨_, rfl⟩
  obtain ⟨S2, hS2⟩ : ∃ S2, strB (toldS ⟨D2, I2⟩) = S2 := ⟨_, rfl⟩
  obtain ⟨R, hs12⟩ : ∃ R, sameS ⟨D1, I1⟩ ⟨D2, I2⟩ = R := ⟨_, rfl⟩
  have hs21 : sameS ⟨D2, I2⟩ ⟨D1, I1⟩ = R := by rw [sameS_comm]; exact hs12
  have hs11 : sameS ⟨D1, I1⟩ ⟨D1, I1⟩ = true := (sameS_iff _ _).2 rfl
  rw [hS1, hS2, hs12] at hv
  have ht1 : ∀ w', Kept W w' → Calls Tryd.prog 17 #[.agg #[.int .u16 D1.total, .int .u8 D1.ifs, .int .u8 D1.number, .int .u8 D1.text, .bool D1.self, .bool D1.wake, .int .u8 D1.power, .slice A1 n1 c1]] w' (fun e w2 => e = .returned (.string S1) ∧ Kept w' w2) := fun w' hk => by
    have h := told_any ⟨D1, I1⟩ A1 c1 w' (h1.kept hk) z1 m1
    unfold Cfg.cells CfgD.cells at h
    simp only [hn1, hS1, List.cons_append, List.nil_append] at h
    exact h
  have ht2 : ∀ w', Kept W w' → Calls Tryd.prog 17 #[.agg #[.int .u16 D2.total, .int .u8 D2.ifs, .int .u8 D2.number, .int .u8 D2.text, .bool D2.self, .bool D2.wake, .int .u8 D2.power, .slice A2 n2 c2]] w' (fun e w2 => e = .returned (.string S2) ∧ Kept w' w2) := fun w' hk => by
    have h := told_any ⟨D2, I2⟩ A2 c2 w' (h2.kept hk) z2 m2
    unfold Cfg.cells CfgD.cells at h
    simp only [hn2, hS2, List.cons_append, List.nil_append] at h
    exact h
  have hab : ∀ w', Kept W w' → Calls Tryd.prog 18 #[.agg #[.int .u16 D1.total, .int .u8 D1.ifs, .int .u8 D1.number, .int .u8 D1.text, .bool D1.self, .bool D1.wake, .int .u8 D1.power, .slice A1 n1 c1], .agg #[.int .u16 D2.total, .int .u8 D2.ifs, .int .u8 D2.number, .int .u8 D2.text, .bool D2.self, .bool D2.wake, .int .u8 D2.power, .slice A2 n2 c2]] w' (fun e w2 => e = .returned (.bool R) ∧ Kept w' w2) := fun w' hk => by
    have h := same_any ⟨D1, I1⟩ ⟨D2, I2⟩ A1 A2 c1 c2 w' (h1.kept hk) (h2.kept hk)
    unfold Cfg.cells CfgD.cells at h
    simp only [hn1, hn2, hs12, List.cons_append, List.nil_append] at h
    exact h
  have hba : ∀ w', Kept W w' → Calls Tryd.prog 18 #[.agg #[.int .u16 D2.total, .int .u8 D2.ifs, .int .u8 D2.number, .int .u8 D2.text, .bool D2.self, .bool D2.wake, .int .u8 D2.power, .slice A2 n2 c2], .agg #[.int .u16 D1.total, .int .u8 D1.ifs, .int .u8 D1.number, .int .u8 D1.text, .bool D1.self, .bool D1.wake, .int .u8 D1.power, .slice A1 n1 c1]] w' (fun e w2 => e = .returned (.bool R) ∧ Kept w' w2) := fun w' hk => by
    have h := same_any ⟨D2, I2⟩ ⟨D1, I1⟩ A2 A1 c2 c1 w' (h2.kept hk) (h1.kept hk)
    unfold Cfg.cells CfgD.cells at h
    simp only [hn1, hn2, hs21, List.cons_append, List.nil_append] at h
    exact h
  have haa : ∀ w', Kept W w' → Calls Tryd.prog 18 #[.agg #[.int .u16 D1.total, .int .u8 D1.ifs, .int .u8 D1.number, .int .u8 D1.text, .bool D1.self, .bool D1.wake, .int .u8 D1.power, .slice A1 n1 c1], .agg #[.int .u16 D1.total, .int .u8 D1.ifs, .int .u8 D1.number, .int .u8 D1.text, .bool D1.self, .bool D1.wake, .int .u8 D1.power, .slice A1 n1 c1]] w' (fun e w2 => e = .returned (.bool true) ∧ Kept w' w2) := fun w' hk => by
    have h := same_any ⟨D1, I1⟩ ⟨D1, I1⟩ A1 A1 c1 c1 w' (h1.kept hk) (h1.kept hk)
    unfold Cfg.cells CfgD.cells at h
    simp only [hn1, hn2, hs11, List.cons_append, List.nil_append] at h
    exact h
  have hRR : (R == R) = true := by simp
  have a0 := cell_heap hA (o := 0) rfl
  have a1 := cell_heap hA (o := 1) rfl
  have a2 := cell_heap hA (o := 2) rfl
  have a3 := cell_heap hA (o := 3) rfl
  have a4 := cell_heap hA (o := 4) rfl
  have a5 := cell_heap hA (o := 5) rfl
  have a6 := cell_heap hA (o := 6) rfl
  have a7 := cell_heap hA (o := 7) rfl
  have b0 := cell_heap hB (o := 0) rfl
  have b1 := cell_heap hB (o := 1) rfl
  have b2 := cell_heap hB (o := 2) rfl
  have b3 := cell_heap hB (o := 3) rfl
  have b4 := cell_heap hB (o := 4) rfl
  have b5 := cell_heap hB (o := 5) rfl
  have b6 := cell_heap hB (o := 6) rfl
  have b7 := cell_heap hB (o := 7) rfl
  have lA := heap_lt hA
  have lB := heap_lt hB
  have HA := hide hA
  have HB := hide hB
  have Hkw := hide hkW
  clear h1 h2 hn1 hn2 z1 z2 m1 m2 hT hS1 hS2 hs12 hs21 hs11 hA hB hkW
  conv => arg 2; whnf
  conv at hK => enter [a, w', 1, 2]; whnf
  refine wp_region_held_named (ops' := ops20) (n := 6) (S := fun w' => (∀ b o, b < W.heap.size → w'.cell? ⟨b, o, none⟩ = W.cell? ⟨b, o, none⟩) ∧ Below W.heap.size W w') (by kernel_rfl) (by kernel_rfl) (by kernel_rfl) since_start (fun hS => ?_)
  have ho : ops20[0]? = some (opAt ops20 0) := by kernel_rfl
  conv at ho => rhs; arg 1; whnf
  refine wpAnyH_take (i := 0) (v := ?_) ho (by kernel_rfl) (by kernel_rfl) (by kernel_rfl) (fun _ _ _ h => h) (Or.inl ⟨by kernel_rfl, ?_⟩) hS ?_
  clear ho
  rotate_left
  · intro w' hS'
    have hq := hS'.1
    have hq2 := hS'.2
    clear hS'
    first | (go_simp; done) | (go_simp; with_reducible rfl)
  try clear ho
  try simp only [Act.put, List.getElem_toArray, List.getElem_cons_zero, List.getElem_cons_succ, List.setIfInBounds_toArray, List.set_cons_zero, List.set_cons_succ]
  have ho : ops20[2]? = some (opAt ops20 2) := by kernel_rfl
  conv at ho => rhs; arg 1; whnf
  refine wpAnyH_take (i := 2) (v := ?_) ho (by kernel_rfl) (by kernel_rfl) (by kernel_rfl) (fun _ _ _ h => h) (Or.inl ⟨by kernel_rfl, ?_⟩) hS ?_
  clear ho
  rotate_left
  · intro w' hS'
    have hq := hS'.1
    have hq2 := hS'.2
    clear hS'
    first | (go_simp; done) | (go_simp; with_reducible rfl)
  try clear ho
  try simp only [Act.put, List.getElem_toArray, List.getElem_cons_zero, List.getElem_cons_succ, List.setIfInBounds_toArray, List.set_cons_zero, List.set_cons_succ]
  have ho1 : ops20[1]? = some (opAt ops20 1) := by kernel_rfl
  conv at ho1 => rhs; arg 1; whnf
  refine wpAnyH_ready (rs := [1]) (by kernel_rfl) (by simp) ?_
  refine (AllReadyH.cons ho1 (fun K hK => ?_) AllReadyH.nil)
  all_goals clear ho1
  go_simp
  go_at_call 17
  refine (ht1 _ hS.2).mono ?_
  rintro e w5 ⟨rfl, hk⟩
  try dsimp only
  refine hK.out _ _ ?_ (fun hS => ?_)
  · exact since_keep hS (Nat.le_refl _) hk
  clear hK K
  try simp only [Act.put, List.getElem_toArray, List.getElem_cons_zero, List.getElem_cons_succ, List.setIfInBounds_toArray, List.set_cons_zero, List.set_cons_succ]
  have ho3 : ops20[3]? = some (opAt ops20 3) := by kernel_rfl
  conv at ho3 => rhs; arg 1; whnf
  refine wpAnyH_ready (rs := [3]) (by kernel_rfl) (by simp) ?_
  refine (AllReadyH.cons ho3 (fun K hK => ?_) AllReadyH.nil)
  all_goals clear ho3
  go_simp
  go_at_call 17
  refine (ht2 _ hS.2).mono ?_
  rintro e w5 ⟨rfl, hk⟩
  try dsimp only
  refine hK.out _ _ ?_ (fun hS => ?_)
  · exact since_keep hS (Nat.le_refl _) hk
  clear hK K
  try simp only [Act.put, List.getElem_toArray, List.getElem_cons_zero, List.getElem_cons_succ, List.setIfInBounds_toArray, List.set_cons_zero, List.set_cons_succ]
  have ho : ops20[4]? = some (opAt ops20 4) := by kernel_rfl
  conv at ho => rhs; arg 1; whnf
  refine wpAnyH_take (i := 4) (v := ?_) ho (by kernel_rfl) (by kernel_rfl) (by kernel_rfl) (fun _ _ _ h => h) (Or.inl ⟨by kernel_rfl, ?_⟩) hS ?_
  clear ho
  rotate_left
  · intro w' hS'
    have hq := hS'.1
    have hq2 := hS'.2
    clear hS'
    first | (go_simp; done) | (go_simp; with_reducible rfl)
  try clear ho
  try simp only [Act.put, List.getElem_toArray, List.getElem_cons_zero, List.getElem_cons_succ, List.setIfInBounds_toArray, List.set_cons_zero, List.set_cons_succ]
  have ho : ops20[5]? = some (opAt ops20 5) := by kernel_rfl
  conv at ho => rhs; arg 1; whnf
  refine wpAnyH_take (i := 5) (v := ?_) ho (by kernel_rfl) (by kernel_rfl) (by kernel_rfl) (fun _ _ _ h => h) (Or.inl ⟨by kernel_rfl, ?_⟩) hS ?_
  clear ho
  rotate_left
  · intro w' hS'
    have hq := hS'.1
    have hq2 := hS'.2
    clear hS'
    first | (go_simp; done) | (go_simp; with_reducible rfl)
  try clear ho
  try simp only [Act.put, List.getElem_toArray, List.getElem_cons_zero, List.getElem_cons_succ, List.setIfInBounds_toArray, List.set_cons_zero, List.set_cons_succ]
  refine wpAnyH_done (by kernel_rfl) ?_ _
  have hk5 : Kept W w5 := hS.2
  have hA5 := heap_kept hk5 HA.out
  have hB5 := heap_kept hk5 HB.out
  clear a0 a1 a2 a3 a4 a5 a6 a7 b0 b1 b2 b3 b4 b5 b6 b7 lA lB ht1 ht2
  have a0 := cell_heap hA5 (o := 0) rfl; have a1 := cell_heap hA5 (o := 1) rfl; have a2 := cell_heap hA5 (o := 2) rfl; have a3 := cell_heap hA5 (o := 3) rfl; have a4 := cell_heap hA5 (o := 4) rfl; have a5 := cell_heap hA5 (o := 5) rfl; have a6 := cell_heap hA5 (o := 6) rfl; have a7 := cell_heap hA5 (o := 7) rfl
  have b0 := cell_heap hB5 (o := 0) rfl; have b1 := cell_heap hB5 (o := 1) rfl; have b2 := cell_heap hB5 (o := 2) rfl; have b3 := cell_heap hB5 (o := 3) rfl; have b4 := cell_heap hB5 (o := 4) rfl; have b5 := cell_heap hB5 (o := 5) rfl; have b6 := cell_heap hB5 (o := 6) rfl; have b7 := cell_heap hB5 (o := 7) rfl
  have lA := heap_lt hA5
  have lB := heap_lt hB5
  refine (show ∀ (a : Act) (w : World), Code.wp Tryd.prog _ _ a w → _ from by assumption) _ _ ?_
  clear hv hS
  go_wp2_with (first
    | (go_at_call 13; refine (hlv _ (Hkw.out.trans' (hk7W.trans' hk8))).mono ?_; rintro e w9 ⟨rfl, hk9⟩)
    | (go_at_call 18; have hg7 := hk7W; refine (haa _ hk7W).mono ?_; rintro e w8 ⟨rfl, hk8⟩)
    | (go_at_call 18; have hg6 := hk6W; refine (hba _ hk6W).mono ?_; rintro e w7 ⟨rfl, hk7⟩; have hk7W := hk6W.trans' hk7; have hA7 := heap_kept hk7W HA.out; have a70 := cell_heap hA7 (o := 0) rfl; have a71 := cell_heap hA7 (o := 1) rfl; have a72 := cell_heap hA7 (o := 2) rfl; have a73 := cell_heap hA7 (o := 3) rfl; have a74 := cell_heap hA7 (o := 4) rfl; have a75 := cell_heap hA7 (o := 5) rfl; have a76 := cell_heap hA7 (o := 6) rfl; have a77 := cell_heap hA7 (o := 7) rfl; have lA7 := heap_lt hA7)
    | (go_at_call 18; refine (hab _ hk5).mono ?_; rintro e w6 ⟨rfl, hk6⟩; have hk6W := hk5.trans' hk6; have hA6 := heap_kept hk6W HA.out; have hB6 := heap_kept hk6W HB.out; have a60 := cell_heap hA6 (o := 0) rfl; have a61 := cell_heap hA6 (o := 1) rfl; have a62 := cell_heap hA6 (o := 2) rfl; have a63 := cell_heap hA6 (o := 3) rfl; have a64 := cell_heap hA6 (o := 4) rfl; have a65 := cell_heap hA6 (o := 5) rfl; have a66 := cell_heap hA6 (o := 6) rfl; have a67 := cell_heap hA6 (o := 7) rfl; have b60 := cell_heap hB6 (o := 0) rfl; have b61 := cell_heap hB6 (o := 1) rfl; have b62 := cell_heap hB6 (o := 2) rfl; have b63 := cell_heap hB6 (o := 3) rfl; have b64 := cell_heap hB6 (o := 4) rfl; have b65 := cell_heap hB6 (o := 5) rfl; have b66 := cell_heap hB6 (o := 6) rfl; have b67 := cell_heap hB6 (o := 7) rfl; have lA6 := heap_lt hA6; have lB6 := heap_lt hB6))
  go_ret
  exact ⟨rfl, (Hkw.out.trans' (hk7W.trans' hk8)).trans' hk9⟩
end Go.Proofs.YtjgncofhobhjdaaDoor
/- The law Same: bytes that differ; cells of a setting whose row is the call's own. No condition but those named. -/
namespace Go.Proofs.YtjgncofhobhjdaaDoor
open Go.RowKit

theorem hv_of {a b : Cfg} (ha : ∀ z ∈ toldS a, u8k z) (hb : ∀ z ∈ toldS b, u8k z) (h : toldS a = toldS b → a = b) : ((strB (toldS a)).toList == (strB (toldS b)).toList) = sameS a b := by
  rw [strB_eq ha hb]
  by_cases e : a = b
  · rw [decide_eq_true (by rw [e]), (sameS_iff a b).2 e]
  · rw [decide_eq_false (fun h2 => e (h h2))]
    rcases hs : sameS a b with _ | _
    · rfl
    · exact absurd ((sameS_iff a b).1 hs) e
theorem told_text {D : CfgD} {I : List (List Alt)} {t : Int} (h : toldS ⟨D, I⟩ = toldS ⟨{ D with text := t }, I⟩) : (⟨D, I⟩ : Cfg) = ⟨{ D with text := t }, I⟩ := by
  unfold toldS at h
  have h1 := List.append_cancel_right h
  unfold rawCfg at h1
  injections
  congr 1
  obtain ⟨d0, d1, d2, d3, d4, d5, d6⟩ := D
  simp_all
theorem set_split {α : Type} {l : List α} {i : Nat} {x y : α} (h : l[i]? = some x) : l = l.take i ++ x :: l.drop (i + 1) ∧ l.set i y = l.take i ++ y :: l.drop (i + 1) := by
  obtain ⟨hi, rfl⟩ := List.getElem?_eq_some_iff.1 h
  refine ⟨?_, ?_⟩
  · rw [← List.drop_eq_getElem_cons hi, List.take_append_drop]
  · rw [List.set_eq_take_append_cons_drop, if_pos hi]
theorem flat_set {α β : Type} {f : α → List β} {l : List α} {i : Nat} {x y : α} (h : l[i]? = some x) (he : l.flatMap f = (l.set i y).flatMap f) : f x = f y := by
  obtain ⟨h1, h2⟩ := set_split (y := y) h
  rw [h2] at he
  conv at he => lhs; rw [h1]
  rw [List.flatMap_append, List.flatMap_append, List.flatMap_cons, List.flatMap_cons] at he
  exact List.append_cancel_right (List.append_cancel_left he)
theorem told_if {D : CfgD} {I : List (List Alt)} {i : Nat} {l l' : List Alt} (hl : I[i]? = some l) (h : toldS ⟨D, I⟩ = toldS ⟨D, I.set i l'⟩) : rawI l = rawI l' := by
  unfold toldS at h
  exact flat_set hl (List.append_cancel_left h)
theorem told_alt {D : CfgD} {I : List (List Alt)} {i j : Nat} {l : List Alt} {a a' : Alt} (hl : I[i]? = some l) (ha : l[j]? = some a) (h : toldS ⟨D, I⟩ = toldS ⟨D, I.set i (l.set j a')⟩) : rawAlt a = rawAlt a' :=
  flat_set ha (told_if hl h)
theorem rawEps_len : ∀ l : List EpD, (l.flatMap rawEp).length = 7 * l.length
  | [] => rfl
  | e :: l => by
    rw [List.flatMap_cons, List.length_append, rawEps_len l]
    show 7 + _ = 7 * (l.length + 1)
    omega
theorem rawAlt_len (a : Alt) : (rawAlt a).length = 9 + a.extra.length + 7 * a.eps.length := by
  unfold rawAlt
  rw [List.length_append, List.length_append, rawEps_len]
  rfl
theorem told_proto {D : CfgD} {I : List (List Alt)} {i j : Nat} {l : List Alt} {a : Alt} {q : Int} (hl : I[i]? = some l) (ha : l[j]? = some a) (h : toldS ⟨D, I⟩ = toldS ⟨D, I.set i (l.set j { a with d := { a.d with proto := q } })⟩) : (⟨D, I⟩ : Cfg) = ⟨D, I.set i (l.set j { a with d := { a.d with proto := q } })⟩ := by
  have h1 := told_alt hl ha h
  unfold rawAlt at h1
  simp only [List.append_assoc] at h1
  unfold rawIf at h1
  simp only [List.cons_append, List.nil_append, List.cons.injEq, true_and] at h1
  have hq : a.d.proto = q := h1.1
  have e : ({ a with d := { a.d with proto := q } } : Alt) = a := by rw [← hq]
  rw [e]
  have e2 : l.set j a = l := by
    obtain ⟨h2, h3⟩ := List.getElem?_eq_some_iff.1 ha
    rw [← h3, List.set_getElem_self]
  rw [e2]
  obtain ⟨h2, h3⟩ := List.getElem?_eq_some_iff.1 hl
  rw [← h3, List.set_getElem_self]
theorem told_more {D : CfgD} {I : List (List Alt)} {i j : Nat} {l : List Alt} {a a' : Alt} (hl : I[i]? = some l) (ha : l[j]? = some a) (hne : 9 + a.extra.length + 7 * a.eps.length ≠ 9 + a'.extra.length + 7 * a'.eps.length) : toldS ⟨D, I⟩ ≠ toldS ⟨D, I.set i (l.set j a')⟩ := by
  intro h
  have h1 := congrArg List.length (told_alt hl ha h)
  rw [rawAlt_len, rawAlt_len] at h1
  exact hne h1
theorem told_behind {D : CfgD} {I : List (List Alt)} {i : Nat} {l : List Alt} {a : Alt} (hl : I[i]? = some l) : toldS ⟨D, I⟩ ≠ toldS ⟨D, I.set i (l ++ [a])⟩ := by
  intro h
  have h1 := congrArg List.length (told_if hl h)
  unfold rawI at h1
  rw [List.flatMap_append, List.length_append] at h1
  have := rawAlt_len a
  simp only [List.flatMap_cons, List.flatMap_nil, List.append_nil] at h1
  omega
section
variable {base : Nat} {w : World} {v : Value} {L : List LF} {i j : Nat} {y : LF} {p : LA}
/-- a row that holds something has a block of its own -/
theorem own_block {α : Type} {t : Ty α} {e : TypeId} {n : Nat} {xs : List α} (h : Own t e base w v n xs) (hn : 0 < n) : ∃ g cap cur, v = .slice (some ⟨g, 0, none⟩) n cap ∧ v.ownBlock = some g ∧ w.heap[g]? = some (.cells cur e (0, 0)) ∧ n ≤ cap ∧ cap ≤ maxLen ∧ base ≤ g := by
  obtain ⟨_, cells, ⟨_, h2⟩, _⟩ := h
  rcases h2 with ⟨_, h0⟩ | ⟨g, cap, cur, rfl, hb, hh, h3, h4, _⟩
  · omega
  · exact ⟨g, cap, cur, rfl, rfl, hh, h3, h4, hb⟩
theorem own_cells {α : Type} {t : Ty α} {e : TypeId} {n g cap : Nat} {xs : List α} {x : α} {cs : List Value} (h : Own t e base w (.slice (some ⟨g, 0, none⟩) n cap) n xs) (hx : xs[j]? = some x) (hr : ∀ F c, t.rel w F x c → c = cs) : ∀ o u, cs[o]? = some u → w.cell? ⟨g, j * t.size + o, none⟩ = some u := by
  have hs := h.sl
  obtain ⟨b, off, c, e1, _, hrel, hc⟩ := hs.2 j x hx
  injection e1 with e1
  injection e1 with e2 e3 _
  subst e2 e3
  intro o u hu
  rw [← hr _ _ hrel] at hu
  have := hc o u hu
  rwa [Nat.zero_add] at this
end
end Go.Proofs.YtjgncofhobhjdaaDoor
