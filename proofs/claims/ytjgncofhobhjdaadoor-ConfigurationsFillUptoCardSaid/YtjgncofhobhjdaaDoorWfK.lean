/- The law Fill: the comparisons. Printed by gen_wf.py. -/
import Derived.Test.YtjgncofhobhjdaaDoorChecked
import Derived.Deep.RegionHeld3
import Derived.Deep.DrawnRows
import Derived.Deep.DeepCutAuto
import Derived.Deep.LoopGhost
import Derived.Outline
import Derived.Handy
import Derived.OwnWalk
import Derived.BigQuiet
import Derived.Test.YtjgncofhobhjdaaDoorN28
import Derived.Test.YtjgncofhobhjdaaDoorSxK
import Derived.Test.YtjgncofhobhjdaaDoorN9
import Derived.Test.YtjgncofhobhjdaaDoorYeK
import Derived.Test.YtjgncofhobhjdaaDoorN11
import Derived.Test.YtjgncofhobhjdaaDoorN1
import Derived.Test.YtjgncofhobhjdaaDoorN3
set_option linter.unusedVariables false
set_option linter.unusedSimpArgs false
set_option linter.unusedSectionVars false
namespace Go.Proofs.YtjgncofhobhjdaaDoor
open Go.RowKit
attribute [local go_sem ↓] Go.wp_at_zero Go.wp_at_succ

noncomputable def code21f : Code := (Tryd.f7.body.bind (findR 21)).getD .skip
noncomputable def ops21f : Array Oper := opsOf (headC code21f)
set_option maxRecDepth 1000000 in
set_option maxHeartbeats 16000000 in
theorem fill_cmp {u0 u2 u3 u4 u7 u8 u9 u11 u12 u13 u14 u15 u16 u17 u18 u19 u20 u21 u22 u23 u24 u25 u26 u27 u28 u29 u30 u31 u32 u33 u34 u35 u36 u37 u38 u39 u40 u41 u42 u43 u44 u45 u46 u47 u48 u49 u50 u51 u52 u53 u54 u55 u56 u57 u58 u59 u60 u61 u62 u63 u64 u65 u66 u67 u68 u69 u70 u71 u72 u73 u74 u75 u76 u77 u78 u79 u80 u81 u82 u83 u84 u85 u86 u87 u88 u89 u90 u91 u92 u93 u94 u95 u96 u97 u98 u99 u100 u101 u102 u103 u104 u105 u106 u107 u108 u109 u110 u111 u112 u113 u114 u115 u116 u117 u118 u119 u120 u121 u122 u123 u124 u125 u126 u127 u128 u129 u130 u131 u132 u133 u134 u135 u136 u137 u138 u139 u140 u141 u142 u143 u144 u145 u146 u147 u148 u149 u150 u151 u152 u153 u154 u155 u156 u157 u158 u159 u160 u161 u162 u163 u164 u165 u166 u167 u168 u169 u170 u171 u172 u173 u174 u175 u176 u177 u178 u179 u180 u181 u182 u183 u184 u185 u186 u187 u188 u189 u190 u191 u192 u193 u194 u195 u196 u197 u198 u199 u200 u201 u202 u203 u204 u205 u206 u207 u208 u209 u210 u211 u212 u213 u214 : Value} {W : World} {AB DB FB n1 c1 : Nat} {A1 A3 : Option Addr} {D1 : CfgD} {I1 : List (List Alt)} {bz td : Int} (hA : W.heap[AB]? = some (.cells #[.int .u16 D1.total, .int .u8 D1.ifs, .int .u8 D1.number, .int .u8 D1.text, .bool D1.self, .bool D1.wake, .int .u8 D1.power, .slice A1 n1 c1] 32 (0, 0))) (hF : W.heap[FB]? = some (.cells #[.int .u16 D1.total, .int .u8 D1.ifs, .int .u8 D1.number, .int .u8 D1.text, .bool D1.self, .bool D1.wake, .int .u8 D1.power, .slice A3 n1 n1] 32 (0, 0))) (hc : CfgIs W (low W.heap.size) ⟨D1, I1⟩ A1 c1) (hf : CfgIs W (low W.heap.size) ⟨D1, I1⟩ A3 n1) (hn : I1.length = n1) (hz : sizeS ⟨D1, I1⟩ ≤ 100000) (hsm0 : SmallE ⟨D1, I1⟩) (hfs : fillS ⟨D1, I1⟩ = ⟨D1, I1⟩) (hn6 : n1 ≤ 6) (d0 : W.cell? ⟨DB, 0, none⟩ = some (.int .u16 td)) (lD : DB < W.heap.size) (hb : IntKind.u16.wrap bz = bz) (hwt : IntKind.u16.wrap (D1.total + bz) = td)
    (Q : Exit → Act → World → Prop) (hQ : ∀ (s104 s105 s106 s107 s108 s109 s110 s111 s112 s113 s114 s115 s116 s117 s118 s119 s120 s121 s122 s123 s124 s125 s126 s127 s128 s129 s130 s131 s132 : Value) (w' : World), Kept W w' → Q .normal ⟨#[u0, .int .u8 bz, u2, u3, u4, .pointer (some ⟨AB, 0, none⟩), .pointer (some ⟨DB, 0, none⟩), u7, u8, u9, .pointer (some ⟨FB, 0, none⟩), u11, u12, u13, u14, u15, u16, u17, u18, u19, u20, u21, u22, u23, u24, u25, u26, u27, u28, u29, u30, u31, u32, u33, u34, u35, u36, u37, u38, u39, u40, u41, u42, u43, u44, u45, u46, u47, u48, u49, u50, u51, u52, u53, u54, u55, u56, u57, u58, u59, u60, u61, u62, u63, u64, u65, u66, u67, u68, u69, u70, u71, u72, u73, u74, u75, u76, u77, u78, u79, u80, u81, u82, u83, u84, u85, u86, u87, u88, u89, u90, u91, u92, u93, u94, u95, u96, u97, u98, u99, u100, u101, u102, u103, s104, s105, s106, s107, s108, s109, s110, s111, s112, s113, s114, s115, s116, s117, s118, s119, s120, s121, s122, s123, s124, s125, s126, s127, s128, s129, s130, s131, s132, .bool false, u134, u135, u136, u137, u138, u139, u140, u141, u142, u143, u144, u145, u146, u147, u148, u149, u150, u151, u152, u153, u154, u155, u156, u157, u158, u159, u160, u161, u162, u163, u164, u165, u166, u167, u168, u169, u170, u171, u172, u173, u174, u175, u176, u177, u178, u179, u180, u181, u182, u183, u184, u185, u186, u187, u188, u189, u190, u191, u192, u193, u194, u195, u196, u197, u198, u199, u200, u201, u202, u203, u204, u205, u206, u207, u208, u209, u210, u211, u212, u213, u214], []⟩ w') :
    Code.wp Tryd.prog (headC code21f) Q ⟨#[u0, .int .u8 bz, u2, u3, u4, .pointer (some ⟨AB, 0, none⟩), .pointer (some ⟨DB, 0, none⟩), u7, u8, u9, .pointer (some ⟨FB, 0, none⟩), u11, u12, u13, u14, u15, u16, u17, u18, u19, u20, u21, u22, u23, u24, u25, u26, u27, u28, u29, u30, u31, u32, u33, u34, u35, u36, u37, u38, u39, u40, u41, u42, u43, u44, u45, u46, u47, u48, u49, u50, u51, u52, u53, u54, u55, u56, u57, u58, u59, u60, u61, u62, u63, u64, u65, u66, u67, u68, u69, u70, u71, u72, u73, u74, u75, u76, u77, u78, u79, u80, u81, u82, u83, u84, u85, u86, u87, u88, u89, u90, u91, u92, u93, u94, u95, u96, u97, u98, u99, u100, u101, u102, u103, u104, u105, u106, u107, u108, u109, u110, u111, u112, u113, u114, u115, u116, u117, u118, u119, u120, u121, u122, u123, u124, u125, u126, u127, u128, u129, u130, u131, u132, u133, u134, u135, u136, u137, u138, u139, u140, u141, u142, u143, u144, u145, u146, u147, u148, u149, u150, u151, u152, u153, u154, u155, u156, u157, u158, u159, u160, u161, u162, u163, u164, u165, u166, u167, u168, u169, u170, u171, u172, u173, u174, u175, u176, u177, u178, u179, u180, u181, u182, u183, u184, u185, u186, u187, u188, u189, u190, u191, u192, u193, u194, u195, u196, u197, u198, u199, u200, u201, u202, u203, u204, u205, u206, u207, u208, u209, u210, u211, u212, u213, u214], []⟩ W := by
  obtain ⟨S0, hS0⟩ : ∃ S0, strB (toldS ⟨D1, I1⟩) = S0 := ⟨_, rfl⟩
  have a0 := cell_heap hA (o := 0) rfl; have a1 := cell_heap hA (o := 1) rfl; have a2 := cell_heap hA (o := 2) rfl; have a3 := cell_heap hA (o := 3) rfl; have a4 := cell_heap hA (o := 4) rfl; have a5 := cell_heap hA (o := 5) rfl; have a6 := cell_heap hA (o := 6) rfl; have a7 := cell_heap hA (o := 7) rfl
  have f0 := cell_heap hF (o := 0) rfl; have f1 := cell_heap hF (o := 1) rfl; have f2 := cell_heap hF (o := 2) rfl; have f3 := cell_heap hF (o := 3) rfl; have f4 := cell_heap hF (o := 4) rfl; have f5 := cell_heap hF (o := 5) rfl; have f6 := cell_heap hF (o := 6) rfl; have f7 := cell_heap hF (o := 7) rfl
  have lA := heap_lt hA
  have lF := heap_lt hF
  have hgc : ∀ w', (∀ b o, b < W.heap.size → w'.cell? ⟨b, o, none⟩ = W.cell? ⟨b, o, none⟩) ∧ Below W.heap.size W w' → CfgIs w' (low w'.heap.size) ⟨D1, I1⟩ A1 c1 := fun w' h => hc.kept h.2
  have hgf : ∀ w', (∀ b o, b < W.heap.size → w'.cell? ⟨b, o, none⟩ = W.cell? ⟨b, o, none⟩) ∧ Below W.heap.size W w' → CfgIs w' (low w'.heap.size) ⟨D1, I1⟩ A3 n1 := fun w' h => hf.kept h.2
  have htd : ∀ B c' w', CfgIs w' (low w'.heap.size) ⟨D1, I1⟩ B c' → Calls Tryd.prog 17 #[.agg #[.int .u16 D1.total, .int .u8 D1.ifs, .int .u8 D1.number, .int .u8 D1.text, .bool D1.self, .bool D1.wake, .int .u8 D1.power, .slice B n1 c']] w' (fun e w2 => e = .returned (.string S0) ∧ Kept w' w2) := fun B c' w' hc => by
    have h := told_any ⟨D1, I1⟩ B c' w' hc hz hsm0
    unfold Cfg.cells CfgD.cells at h
    simp only [hn, hS0, List.cons_append, List.nil_append] at h
    exact h
  have hsm : ∀ B b1 E b2 w', CfgIs w' (low w'.heap.size) ⟨D1, I1⟩ B b1 → CfgIs w' (low w'.heap.size) ⟨D1, I1⟩ E b2 → Calls Tryd.prog 18 #[.agg #[.int .u16 D1.total, .int .u8 D1.ifs, .int .u8 D1.number, .int .u8 D1.text, .bool D1.self, .bool D1.wake, .int .u8 D1.power, .slice B n1 b1], .agg #[.int .u16 D1.total, .int .u8 D1.ifs, .int .u8 D1.number, .int .u8 D1.text, .bool D1.self, .bool D1.wake, .int .u8 D1.power, .slice E n1 b2]] w' (fun e w2 => e = .returned (.bool true) ∧ Kept w' w2) := fun B b1 E b2 w' h1 h2 => by
    have h := same_any ⟨D1, I1⟩ ⟨D1, I1⟩ B E b1 b2 w' h1 h2
    unfold Cfg.cells CfgD.cells at h
    simp only [hn, (sameS_iff _ _).2 rfl, List.cons_append, List.nil_append] at h
    exact h
  have hfl : ∀ B b1 w', CfgIs w' (low w'.heap.size) ⟨D1, I1⟩ B b1 → Calls Tryd.prog 22 #[.agg #[.int .u16 D1.total, .int .u8 D1.ifs, .int .u8 D1.number, .int .u8 D1.text, .bool D1.self, .bool D1.wake, .int .u8 D1.power, .slice B n1 b1]] w' (fun e w2 => (∃ A', e = .returned (.agg #[.int .u16 D1.total, .int .u8 D1.ifs, .int .u8 D1.number, .int .u8 D1.text, .bool D1.self, .bool D1.wake, .int .u8 D1.power, .slice A' n1 n1]) ∧ CfgIs w2 (low w2.heap.size) ⟨D1, I1⟩ A' n1) ∧ Kept w' w2) := fun B b1 w' h1 => by
    have h := fill_any ⟨D1, I1⟩ B b1 w' h1 (by omega) (by show I1.length ≤ 100000; omega)
    rw [hfs] at h
    unfold Cfg.cells CfgD.cells at h
    simp only [hn, List.cons_append, List.nil_append] at h
    exact h.mono fun e w2 ⟨⟨A', he, hcf⟩, hk⟩ => ⟨⟨A', he, hcf.keep (fun b hb => hb.2) (fun _ _ _ => rfl)⟩, hk⟩
  have HQ := hide hQ
  clear hA hF hc hf hn hz hsm0 hS0 hQ
  conv => arg 2; whnf
  refine wp_region_noPanic ?_
  refine wp_region_held_named (ops' := ops21f) (n := 30) (S := fun w' => (∀ b o, b < W.heap.size → w'.cell? ⟨b, o, none⟩ = W.cell? ⟨b, o, none⟩) ∧ Below W.heap.size W w') (by kernel_rfl) (by kernel_rfl) (by kernel_rfl) since_start (fun hS => ?_)
  have ho : ops21f[0]? = some (opAt ops21f 0) := by kernel_rfl
  conv at ho => rhs; arg 1; whnf
  refine wpAnyH_take (i := 0) (v := ?_) ho (by kernel_rfl) (by kernel_rfl) (by kernel_rfl) (fun _ _ _ h => h) (Or.inl ⟨by kernel_rfl, ?_⟩) hS ?_
  clear ho
  rotate_left
  · intro w' hS'
    have hq := hS'.1
    have hq2 := hS'.2
    clear hS'
    first | (go_simp; done) | (go_simp; with_reducible rfl)
  try clear ho
  try simp only [Act.put, List.getElem_toArray, List.getElem_cons_zero, List.getElem_cons_succ, List.setIfInBounds_toArray, List.set_cons_zero, List.set_cons_succ]
  have ho : ops21f[2]? = some (opAt ops21f 2) := by kernel_rfl
  conv at ho => rhs; arg 1; whnf
  refine wpAnyH_take (i := 2) (v := ?_) ho (by kernel_rfl) (by kernel_rfl) (by kernel_rfl) (fun _ _ _ h => h) (Or.inl ⟨by kernel_rfl, ?_⟩) hS ?_
  clear ho
  rotate_left
  · intro w' hS'
    have hq := hS'.1
    have hq2 := hS'.2
    clear hS'
    first | (go_simp; done) | (go_simp; with_reducible rfl)
  try clear ho
  try simp only [Act.put, List.getElem_toArray, List.getElem_cons_zero, List.getElem_cons_succ, List.setIfInBounds_toArray, List.set_cons_zero, List.set_cons_succ]
  have ho1 : ops21f[1]? = some (opAt ops21f 1) := by kernel_rfl
  conv at ho1 => rhs; arg 1; whnf
  refine wpAnyH_ready (rs := [1]) (by kernel_rfl) (by simp) ?_
  refine (AllReadyH.cons ho1 (fun K hK => ?_) AllReadyH.nil)
  all_goals clear ho1
  go_simp
  go_at_call 17
  refine (htd A3 n1 _ (hgf _ hS)).mono ?_
  rintro e w9 ⟨rfl, hk⟩
  try dsimp only
  refine hK.out _ _ ?_ (fun hS => ?_)
  · exact since_keep hS (Nat.le_refl _) hk
  clear hK K
  try simp only [Act.put, List.getElem_toArray, List.getElem_cons_zero, List.getElem_cons_succ, List.setIfInBounds_toArray, List.set_cons_zero, List.set_cons_succ]
  have ho3 : ops21f[3]? = some (opAt ops21f 3) := by kernel_rfl
  conv at ho3 => rhs; arg 1; whnf
  refine wpAnyH_ready (rs := [3]) (by kernel_rfl) (by simp) ?_
  refine (AllReadyH.cons ho3 (fun K hK => ?_) AllReadyH.nil)
  all_goals clear ho3
  go_simp
  go_at_call 17
  refine (htd A1 c1 _ (hgc _ hS)).mono ?_
  rintro e w9 ⟨rfl, hk⟩
  try dsimp only
  refine hK.out _ _ ?_ (fun hS => ?_)
  · exact since_keep hS (Nat.le_refl _) hk
  clear hK K
  try simp only [Act.put, List.getElem_toArray, List.getElem_cons_zero, List.getElem_cons_succ, List.setIfInBounds_toArray, List.set_cons_zero, List.set_cons_succ]
  have ho : ops21f[4]? = some (opAt ops21f 4) := by kernel_rfl
  conv at ho => rhs; arg 1; whnf
  refine wpAnyH_take (i := 4) (v := ?_) ho (by kernel_rfl) (by kernel_rfl) (by kernel_rfl) (fun _ _ _ h => h) (Or.inl ⟨by kernel_rfl, ?_⟩) hS ?_
  clear ho
  rotate_left
  · intro w' hS'
    have hq := hS'.1
    have hq2 := hS'.2
    clear hS'
    first | (go_simp; done) | (go_simp; with_reducible rfl)
  try clear ho
  try simp only [Act.put, List.getElem_toArray, List.getElem_cons_zero, List.getElem_cons_succ, List.setIfInBounds_toArray, List.set_cons_zero, List.set_cons_succ]
  have ho : ops21f[5]? = some (opAt ops21f 5) := by kernel_rfl
  conv at ho => rhs; arg 1; whnf
  refine wpAnyH_take (i := 5) (v := ?_) ho (by kernel_rfl) (by kernel_rfl) (by kernel_rfl) (fun _ _ _ h => h) (Or.inl ⟨by kernel_rfl, ?_⟩) hS ?_
  clear ho
  rotate_left
  · intro w' hS'
    have hq := hS'.1
    have hq2 := hS'.2
    clear hS'
    first | (go_simp; done) | (go_simp; with_reducible rfl)
  try clear ho
  try simp only [Act.put, List.getElem_toArray, List.getElem_cons_zero, List.getElem_cons_succ, List.setIfInBounds_toArray, List.set_cons_zero, List.set_cons_succ]
  have ho : ops21f[6]? = some (opAt ops21f 6) := by kernel_rfl
  conv at ho => rhs; arg 1; whnf
  refine wpAnyH_take (i := 6) (v := ?_) ho (by kernel_rfl) (by kernel_rfl) (by kernel_rfl) (fun _ _ _ h => h) (Or.inl ⟨by kernel_rfl, ?_⟩) hS ?_
  clear ho
  rotate_left
  · intro w' hS'
    have hq := hS'.1
    have hq2 := hS'.2
    clear hS'
    first | (go_simp; done) | (go_simp; with_reducible rfl)
  try clear ho
  try simp only [Act.put, List.getElem_toArray, List.getElem_cons_zero, List.getElem_cons_succ, List.setIfInBounds_toArray, List.set_cons_zero, List.set_cons_succ]
  have ho : ops21f[7]? = some (opAt ops21f 7) := by kernel_rfl
  conv at ho => rhs; arg 1; whnf
  refine wpAnyH_take (i := 7) (v := ?_) ho (by kernel_rfl) (by kernel_rfl) (by kernel_rfl) (fun _ _ _ h => h) (Or.inl ⟨by kernel_rfl, ?_⟩) hS ?_
  clear ho
  rotate_left
  · intro w' hS'
    have hq := hS'.1
    have hq2 := hS'.2
    clear hS'
    first | (go_simp; done) | (go_simp; with_reducible rfl)
  try clear ho
  try simp only [Act.put, List.getElem_toArray, List.getElem_cons_zero, List.getElem_cons_succ, List.setIfInBounds_toArray, List.set_cons_zero, List.set_cons_succ]
  have ho8 : ops21f[8]? = some (opAt ops21f 8) := by kernel_rfl
  conv at ho8 => rhs; arg 1; whnf
  refine wpAnyH_ready (rs := [8]) (by kernel_rfl) (by simp) ?_
  refine (AllReadyH.cons ho8 (fun K hK => ?_) AllReadyH.nil)
  all_goals clear ho8
  rw [if_pos (by kernel_rfl)]
  go_simp
  go_at_call 18
  refine (hsm _ _ _ _ _ (hgf _ hS) (hgc _ hS)).mono ?_
  rintro e w9 ⟨rfl, hk⟩
  try dsimp only
  refine hK.out _ _ ?_ (fun hS => ?_)
  · exact since_keep hS (Nat.le_refl _) hk
  clear hK K
  try simp only [Act.put, List.getElem_toArray, List.getElem_cons_zero, List.getElem_cons_succ, List.setIfInBounds_toArray, List.set_cons_zero, List.set_cons_succ]
  have ho : ops21f[9]? = some (opAt ops21f 9) := by kernel_rfl
  conv at ho => rhs; arg 1; whnf
  refine wpAnyH_take (i := 9) (v := ?_) ho (by kernel_rfl) (by kernel_rfl) (by kernel_rfl) (fun _ _ _ h => h) (Or.inl ⟨by kernel_rfl, ?_⟩) hS ?_
  clear ho
  rotate_left
  · intro w' hS'
    have hq := hS'.1
    have hq2 := hS'.2
    clear hS'
    first | (go_simp; done) | (go_simp; with_reducible rfl)
  try clear ho
  try simp only [Act.put, List.getElem_toArray, List.getElem_cons_zero, List.getElem_cons_succ, List.setIfInBounds_toArray, List.set_cons_zero, List.set_cons_succ]
  have ho : ops21f[10]? = some (opAt ops21f 10) := by kernel_rfl
  conv at ho => rhs; arg 1; whnf
  refine wpAnyH_take (i := 10) (v := ?_) ho (by kernel_rfl) (by kernel_rfl) (by kernel_rfl) (fun _ _ _ h => h) (Or.inl ⟨by kernel_rfl, ?_⟩) hS ?_
  clear ho
  rotate_left
  · intro w' hS'
    have hq := hS'.1
    have hq2 := hS'.2
    clear hS'
    first | (go_simp; done) | (go_simp; with_reducible rfl)
  try clear ho
  try simp only [Act.put, List.getElem_toArray, List.getElem_cons_zero, List.getElem_cons_succ, List.setIfInBounds_toArray, List.set_cons_zero, List.set_cons_succ]
  have ho : ops21f[11]? = some (opAt ops21f 11) := by kernel_rfl
  conv at ho => rhs; arg 1; whnf
  refine wpAnyH_take (i := 11) (v := ?_) ho (by kernel_rfl) (by kernel_rfl) (by kernel_rfl) (fun _ _ _ h => h) (Or.inl ⟨by kernel_rfl, ?_⟩) hS ?_
  clear ho
  rotate_left
  · intro w' hS'
    have hq := hS'.1
    have hq2 := hS'.2
    clear hS'
    first | (go_simp; done) | (go_simp; with_reducible rfl)
  try clear ho
  try simp only [Act.put, List.getElem_toArray, List.getElem_cons_zero, List.getElem_cons_succ, List.setIfInBounds_toArray, List.set_cons_zero, List.set_cons_succ]
  have ho : ops21f[12]? = some (opAt ops21f 12) := by kernel_rfl
  conv at ho => rhs; arg 1; whnf
  refine wpAnyH_take (i := 12) (v := ?_) ho (by kernel_rfl) (by kernel_rfl) (by kernel_rfl) (fun _ _ _ h => h) (Or.inl ⟨by kernel_rfl, ?_⟩) hS ?_
  clear ho
  rotate_left
  · intro w' hS'
    have hq := hS'.1
    have hq2 := hS'.2
    clear hS'
    first | (go_simp; done) | (go_simp; with_reducible rfl)
  try clear ho
  try simp only [Act.put, List.getElem_toArray, List.getElem_cons_zero, List.getElem_cons_succ, List.setIfInBounds_toArray, List.set_cons_zero, List.set_cons_succ]
  have ho : ops21f[13]? = some (opAt ops21f 13) := by kernel_rfl
  conv at ho => rhs; arg 1; whnf
  refine wpAnyH_take (i := 13) (v := ?_) ho (by kernel_rfl) (by kernel_rfl) (by kernel_rfl) (fun _ _ _ h => h) (Or.inl ⟨by kernel_rfl, ?_⟩) hS ?_
  clear ho
  rotate_left
  · intro w' hS'
    have hq := hS'.1
    have hq2 := hS'.2
    clear hS'
    first | (go_simp; done) | (go_simp; with_reducible rfl)
  try clear ho
  try simp only [Act.put, List.getElem_toArray, List.getElem_cons_zero, List.getElem_cons_succ, List.setIfInBounds_toArray, List.set_cons_zero, List.set_cons_succ]
  have ho : ops21f[14]? = some (opAt ops21f 14) := by kernel_rfl
  conv at ho => rhs; arg 1; whnf
  refine wpAnyH_take (i := 14) (v := ?_) ho (by kernel_rfl) (by kernel_rfl) (by kernel_rfl) (fun _ _ _ h => h) (Or.inl ⟨by kernel_rfl, ?_⟩) hS ?_
  clear ho
  rotate_left
  · intro w' hS'
    have hq := hS'.1
    have hq2 := hS'.2
    clear hS'
    first | (go_simp; done) | (go_simp; with_reducible rfl)
  try clear ho
  try simp only [Act.put, List.getElem_toArray, List.getElem_cons_zero, List.getElem_cons_succ, List.setIfInBounds_toArray, List.set_cons_zero, List.set_cons_succ]
  have ho : ops21f[15]? = some (opAt ops21f 15) := by kernel_rfl
  conv at ho => rhs; arg 1; whnf
  refine wpAnyH_take (i := 15) (v := ?_) ho (by kernel_rfl) (by kernel_rfl) (by kernel_rfl) (fun _ _ _ h => h) (Or.inl ⟨by kernel_rfl, ?_⟩) hS ?_
  clear ho
  rotate_left
  · intro w' hS'
    have hq := hS'.1
    have hq2 := hS'.2
    clear hS'
    first | (go_simp; done) | (go_simp; with_reducible rfl)
  try clear ho
  try simp only [Act.put, List.getElem_toArray, List.getElem_cons_zero, List.getElem_cons_succ, List.setIfInBounds_toArray, List.set_cons_zero, List.set_cons_succ]
  have ho : ops21f[16]? = some (opAt ops21f 16) := by kernel_rfl
  conv at ho => rhs; arg 1; whnf
  refine wpAnyH_take (i := 16) (v := ?_) ho (by kernel_rfl) (by kernel_rfl) (by kernel_rfl) (fun _ _ _ h => h) (Or.inl ⟨by kernel_rfl, ?_⟩) hS ?_
  clear ho
  rotate_left
  · intro w' hS'
    have hq := hS'.1
    have hq2 := hS'.2
    clear hS'
    first | (go_simp; done) | (go_simp; with_reducible rfl)
  try clear ho
  try simp only [Act.put, List.getElem_toArray, List.getElem_cons_zero, List.getElem_cons_succ, List.setIfInBounds_toArray, List.set_cons_zero, List.set_cons_succ]
  have ho : ops21f[17]? = some (opAt ops21f 17) := by kernel_rfl
  conv at ho => rhs; arg 1; whnf
  refine wpAnyH_take (i := 17) (v := ?_) ho (by kernel_rfl) (by kernel_rfl) (by kernel_rfl) (fun _ _ _ h => h) (Or.inl ⟨by kernel_rfl, ?_⟩) hS ?_
  clear ho
  rotate_left
  · intro w' hS'
    have hq := hS'.1
    have hq2 := hS'.2
    clear hS'
    first | (go_simp; done) | (go_simp; with_reducible rfl)
  try clear ho
  try simp only [Act.put, List.getElem_toArray, List.getElem_cons_zero, List.getElem_cons_succ, List.setIfInBounds_toArray, List.set_cons_zero, List.set_cons_succ]
  have ho : ops21f[18]? = some (opAt ops21f 18) := by kernel_rfl
  conv at ho => rhs; arg 1; whnf
  refine wpAnyH_take (i := 18) (v := ?_) ho (by kernel_rfl) (by kernel_rfl) (by kernel_rfl) (fun _ _ _ h => h) (Or.inl ⟨by kernel_rfl, ?_⟩) hS ?_
  clear ho
  rotate_left
  · intro w' hS'
    have hq := hS'.1
    have hq2 := hS'.2
    clear hS'
    first | (go_simp; done) | (go_simp; with_reducible rfl)
  try clear ho
  try simp only [Act.put, List.getElem_toArray, List.getElem_cons_zero, List.getElem_cons_succ, List.setIfInBounds_toArray, List.set_cons_zero, List.set_cons_succ]
  have ho : ops21f[19]? = some (opAt ops21f 19) := by kernel_rfl
  conv at ho => rhs; arg 1; whnf
  refine wpAnyH_take (i := 19) (v := ?_) ho (by kernel_rfl) (by kernel_rfl) (by kernel_rfl) (fun _ _ _ h => h) (Or.inl ⟨by kernel_rfl, ?_⟩) hS ?_
  clear ho
  rotate_left
  · intro w' hS'
    have hq := hS'.1
    have hq2 := hS'.2
    clear hS'
    first | (go_simp; done) | (go_simp; with_reducible rfl)
  try clear ho
  try simp only [Act.put, List.getElem_toArray, List.getElem_cons_zero, List.getElem_cons_succ, List.setIfInBounds_toArray, List.set_cons_zero, List.set_cons_succ]
  have ho : ops21f[20]? = some (opAt ops21f 20) := by kernel_rfl
  conv at ho => rhs; arg 1; whnf
  refine wpAnyH_take (i := 20) (v := ?_) ho (by kernel_rfl) (by kernel_rfl) (by kernel_rfl) (fun _ _ _ h => h) (Or.inl ⟨by kernel_rfl, ?_⟩) hS ?_
  clear ho
  rotate_left
  · intro w' hS'
    have hq := hS'.1
    have hq2 := hS'.2
    clear hS'
    first | (go_simp; done) | (go_simp; with_reducible rfl)
  try clear ho
  try simp only [Act.put, List.getElem_toArray, List.getElem_cons_zero, List.getElem_cons_succ, List.setIfInBounds_toArray, List.set_cons_zero, List.set_cons_succ]
  have ho : ops21f[21]? = some (opAt ops21f 21) := by kernel_rfl
  conv at ho => rhs; arg 1; whnf
  refine wpAnyH_take (i := 21) (v := ?_) ho (by kernel_rfl) (by kernel_rfl) (by kernel_rfl) (fun _ _ _ h => h) (Or.inl ⟨by kernel_rfl, ?_⟩) hS ?_
  clear ho
  rotate_left
  · intro w' hS'
    have hq := hS'.1
    have hq2 := hS'.2
    clear hS'
    first | (go_simp; done) | (go_simp; with_reducible rfl)
  try clear ho
  try simp only [Act.put, List.getElem_toArray, List.getElem_cons_zero, List.getElem_cons_succ, List.setIfInBounds_toArray, List.set_cons_zero, List.set_cons_succ]
  have ho : ops21f[22]? = some (opAt ops21f 22) := by kernel_rfl
  conv at ho => rhs; arg 1; whnf
  refine wpAnyH_take (i := 22) (v := ?_) ho (by kernel_rfl) (by kernel_rfl) (by kernel_rfl) (fun _ _ _ h => h) (Or.inl ⟨by kernel_rfl, ?_⟩) hS ?_
  clear ho
  rotate_left
  · intro w' hS'
    have hq := hS'.1
    have hq2 := hS'.2
    clear hS'
    first | (go_simp; done) | (go_simp; with_reducible rfl)
  try clear ho
  try simp only [Act.put, List.getElem_toArray, List.getElem_cons_zero, List.getElem_cons_succ, List.setIfInBounds_toArray, List.set_cons_zero, List.set_cons_succ]
  have ho : ops21f[23]? = some (opAt ops21f 23) := by kernel_rfl
  conv at ho => rhs; arg 1; whnf
  refine wpAnyH_take (i := 23) (v := ?_) ho (by kernel_rfl) (by kernel_rfl) (by kernel_rfl) (fun _ _ _ h => h) (Or.inl ⟨by kernel_rfl, ?_⟩) hS ?_
  clear ho
  rotate_left
  · intro w' hS'
    have hq := hS'.1
    have hq2 := hS'.2
    clear hS'
    first | (go_simp; done) | (go_simp; with_reducible rfl)
  try clear ho
  try simp only [Act.put, List.getElem_toArray, List.getElem_cons_zero, List.getElem_cons_succ, List.setIfInBounds_toArray, List.set_cons_zero, List.set_cons_succ]
  have ho : ops21f[24]? = some (opAt ops21f 24) := by kernel_rfl
  conv at ho => rhs; arg 1; whnf
  refine wpAnyH_take (i := 24) (v := ?_) ho (by kernel_rfl) (by kernel_rfl) (by kernel_rfl) (fun _ _ _ h => h) (Or.inl ⟨by kernel_rfl, ?_⟩) hS ?_
  clear ho
  rotate_left
  · intro w' hS'
    have hq := hS'.1
    have hq2 := hS'.2
    clear hS'
    first | (go_simp; done) | (go_simp; with_reducible rfl)
  try clear ho
  try simp only [Act.put, List.getElem_toArray, List.getElem_cons_zero, List.getElem_cons_succ, List.setIfInBounds_toArray, List.set_cons_zero, List.set_cons_succ]
  have ho : ops21f[26]? = some (opAt ops21f 26) := by kernel_rfl
  conv at ho => rhs; arg 1; whnf
  refine wpAnyH_take (i := 26) (v := ?_) ho (by kernel_rfl) (by kernel_rfl) (by kernel_rfl) (fun _ _ _ h => h) (Or.inl ⟨by kernel_rfl, ?_⟩) hS ?_
  clear ho
  rotate_left
  · intro w' hS'
    have hq := hS'.1
    have hq2 := hS'.2
    clear hS'
    first | (go_simp; done) | (go_simp; with_reducible rfl)
  try clear ho
  try simp only [Act.put, List.getElem_toArray, List.getElem_cons_zero, List.getElem_cons_succ, List.setIfInBounds_toArray, List.set_cons_zero, List.set_cons_succ]
  have ho25 : ops21f[25]? = some (opAt ops21f 25) := by kernel_rfl
  conv at ho25 => rhs; arg 1; whnf
  refine wpAnyH_ready (rs := [25]) (by kernel_rfl) (by simp) ?_
  refine (AllReadyH.cons ho25 (fun K hK => ?_) AllReadyH.nil)
  all_goals clear ho25
  rw [if_pos (by kernel_rfl)]
  go_simp
  go_at_call 22
  refine (hfl _ _ _ (hgf _ hS)).mono ?_
  rintro e w9 ⟨⟨A5, rfl, hf5⟩, hk⟩
  try dsimp only
  refine hK.out _ _ ?_ (fun hS => ?_)
  · exact since_keep hS (Nat.le_refl _) hk
  clear hK K
  try simp only [Act.put, List.getElem_toArray, List.getElem_cons_zero, List.getElem_cons_succ, List.setIfInBounds_toArray, List.set_cons_zero, List.set_cons_succ]
  have ho27 : ops21f[27]? = some (opAt ops21f 27) := by kernel_rfl
  conv at ho27 => rhs; arg 1; whnf
  refine wpAnyH_ready (rs := [27]) (by kernel_rfl) (by simp) ?_
  refine (AllReadyH.cons ho27 (fun K hK => ?_) AllReadyH.nil)
  all_goals clear ho27
  rw [if_pos (by kernel_rfl)]
  go_simp
  go_at_call 18
  refine (hsm _ _ _ _ _ hf5 (hgc _ hS)).mono ?_
  rintro e w9 ⟨rfl, hk⟩
  try dsimp only
  refine hK.out _ _ ?_ (fun hS => ?_)
  · exact since_keep hS (Nat.le_refl _) hk
  clear hK K
  try simp only [Act.put, List.getElem_toArray, List.getElem_cons_zero, List.getElem_cons_succ, List.setIfInBounds_toArray, List.set_cons_zero, List.set_cons_succ]
  have ho : ops21f[28]? = some (opAt ops21f 28) := by kernel_rfl
  conv at ho => rhs; arg 1; whnf
  refine wpAnyH_take (i := 28) (v := ?_) ho (by kernel_rfl) (by kernel_rfl) (by kernel_rfl) (fun _ _ _ h => h) (Or.inl ⟨by kernel_rfl, ?_⟩) hS ?_
  clear ho
  rotate_left
  · intro w' hS'
    have hq := hS'.1
    have hq2 := hS'.2
    clear hS'
    first | (go_simp; done) | (go_simp; with_reducible rfl)
  try clear ho
  try simp only [Act.put, List.getElem_toArray, List.getElem_cons_zero, List.getElem_cons_succ, List.setIfInBounds_toArray, List.set_cons_zero, List.set_cons_succ]
  have ho : ops21f[29]? = some (opAt ops21f 29) := by kernel_rfl
  conv at ho => rhs; arg 1; whnf
  refine wpAnyH_take (i := 29) (v := ?_) ho (by kernel_rfl) (by kernel_rfl) (by kernel_rfl) (fun _ _ _ h => h) (Or.inl ⟨by kernel_rfl, ?_⟩) hS ?_
  clear ho
  rotate_left
  · intro w' hS'
    have hq := hS'.1
    have hq2 := hS'.2
    clear hS'
    first | (go_simp; done) | (go_simp; with_reducible rfl)
  try clear ho
  try simp only [Act.put, List.getElem_toArray, List.getElem_cons_zero, List.getElem_cons_succ, List.setIfInBounds_toArray, List.set_cons_zero, List.set_cons_succ]
  refine wpAnyH_done (by kernel_rfl) ?_ _
  refine NoPanic.normal ?_
  exact HQ.out _ _ _ _ _ _ _ _ _ _ _ _ _ _ _ _ _ _ _ _ _ _ _ _ _ _ _ _ _ _ hS.2
noncomputable def code39f : Code := (Tryd.f7.body.bind (findR 39)).getD .skip
noncomputable def ops39f : Array Oper := opsOf (headC code39f)
set_option maxRecDepth 1000000 in
set_option maxHeartbeats 16000000 in
theorem fill_last {u0 u1 u2 u3 u4 u6 u7 u8 u9 u11 u12 u13 u14 u15 u16 u17 u18 u19 u20 u21 u22 u23 u24 u25 u26 u27 u28 u29 u30 u31 u32 u33 u34 u35 u36 u37 u38 u39 u40 u41 u42 u43 u44 u45 u46 u47 u48 u49 u50 u51 u52 u53 u54 u55 u56 u57 u58 u59 u60 u61 u62 u63 u64 u65 u66 u67 u68 u69 u70 u71 u72 u73 u74 u75 u76 u77 u78 u79 u80 u81 u82 u83 u84 u85 u86 u87 u88 u89 u90 u91 u92 u93 u94 u95 u96 u97 u98 u99 u100 u101 u102 u103 u104 u105 u106 u107 u108 u109 u110 u111 u112 u113 u114 u115 u116 u117 u118 u119 u120 u121 u122 u123 u124 u125 u126 u127 u128 u129 u130 u131 u132 u133 u134 u135 u136 u137 u138 u139 u140 u141 u142 u143 u144 u145 u146 u147 u148 u149 u150 u151 u152 u153 u154 u155 u156 u157 u158 u159 u160 u161 u162 u163 u164 u165 u166 u167 u168 u169 u170 u171 u172 u173 u174 u175 u176 u177 u178 u179 u180 u181 u182 u183 u184 u185 u186 u187 u188 u189 u190 u191 u192 u193 u194 u195 u196 u197 u198 u199 u200 u201 u202 u203 u204 u205 u206 u207 u208 u209 u210 u211 u212 u213 u214 : Value} {W : World} {AB DB FB n1 c1 : Nat} {A1 A3 : Option Addr} {D1 : CfgD} {I1 : List (List Alt)} {bz td : Int} (hA : W.heap[AB]? = some (.cells #[.int .u16 D1.total, .int .u8 D1.ifs, .int .u8 D1.number, .int .u8 D1.text, .bool D1.self, .bool D1.wake, .int .u8 D1.power, .slice A1 n1 c1] 32 (0, 0))) (hF : W.heap[FB]? = some (.cells #[.int .u16 D1.total, .int .u8 D1.ifs, .int .u8 D1.number, .int .u8 D1.text, .bool D1.self, .bool D1.wake, .int .u8 D1.power, .slice A3 n1 n1] 32 (0, 0))) (hc : CfgIs W (low W.heap.size) ⟨D1, I1⟩ A1 c1) (hf : CfgIs W (low W.heap.size) ⟨D1, I1⟩ A3 n1) (hn : I1.length = n1) (hz : sizeS ⟨D1, I1⟩ ≤ 100000) (hsm0 : SmallE ⟨D1, I1⟩) (hT : Tabs W)
    (Q : Exit → Act → World → Prop) (hQ : ∀ (s207 s208 s209 s210 s211 s212 s213 : Value) (w' : World), Kept W w' → Q .normal ⟨#[u0, u1, u2, u3, .bool true, .pointer (some ⟨AB, 0, none⟩), u6, u7, u8, u9, .pointer (some ⟨FB, 0, none⟩), u11, u12, u13, u14, u15, u16, u17, u18, u19, u20, u21, u22, u23, u24, u25, u26, u27, u28, u29, u30, u31, u32, u33, u34, u35, u36, u37, u38, u39, u40, u41, u42, u43, u44, u45, u46, u47, u48, u49, u50, u51, u52, u53, u54, u55, u56, u57, u58, u59, u60, u61, u62, u63, u64, u65, u66, u67, u68, u69, u70, u71, u72, u73, u74, u75, u76, u77, u78, u79, u80, u81, u82, u83, u84, u85, u86, u87, u88, u89, u90, u91, u92, u93, u94, u95, u96, u97, u98, u99, u100, u101, u102, u103, u104, u105, u106, u107, u108, u109, u110, u111, u112, u113, u114, u115, u116, u117, u118, u119, u120, u121, u122, u123, u124, u125, u126, u127, u128, u129, u130, u131, u132, u133, u134, u135, u136, u137, u138, u139, u140, u141, u142, u143, u144, u145, u146, u147, u148, u149, u150, u151, u152, u153, u154, u155, u156, u157, u158, u159, u160, u161, u162, u163, u164, u165, u166, u167, u168, u169, u170, u171, u172, u173, u174, u175, u176, u177, u178, u179, u180, u181, u182, u183, u184, u185, u186, u187, u188, u189, u190, u191, u192, u193, u194, u195, u196, u197, u198, u199, u200, u201, u202, u203, u204, u205, u206, s207, s208, s209, s210, s211, s212, s213, .bool true], []⟩ w') :
    Code.wp Tryd.prog (headC code39f) Q ⟨#[u0, u1, u2, u3, u4, .pointer (some ⟨AB, 0, none⟩), u6, u7, u8, u9, .pointer (some ⟨FB, 0, none⟩), u11, u12, u13, u14, u15, u16, u17, u18, u19, u20, u21, u22, u23, u24, u25, u26, u27, u28, u29, u30, u31, u32, u33, u34, u35, u36, u37, u38, u39, u40, u41, u42, u43, u44, u45, u46, u47, u48, u49, u50, u51, u52, u53, u54, u55, u56, u57, u58, u59, u60, u61, u62, u63, u64, u65, u66, u67, u68, u69, u70, u71, u72, u73, u74, u75, u76, u77, u78, u79, u80, u81, u82, u83, u84, u85, u86, u87, u88, u89, u90, u91, u92, u93, u94, u95, u96, u97, u98, u99, u100, u101, u102, u103, u104, u105, u106, u107, u108, u109, u110, u111, u112, u113, u114, u115, u116, u117, u118, u119, u120, u121, u122, u123, u124, u125, u126, u127, u128, u129, u130, u131, u132, u133, u134, u135, u136, u137, u138, u139, u140, u141, u142, u143, u144, u145, u146, u147, u148, u149, u150, u151, u152, u153, u154, u155, u156, u157, u158, u159, u160, u161, u162, u163, u164, u165, u166, u167, u168, u169, u170, u171, u172, u173, u174, u175, u176, u177, u178, u179, u180, u181, u182, u183, u184, u185, u186, u187, u188, u189, u190, u191, u192, u193, u194, u195, u196, u197, u198, u199, u200, u201, u202, u203, u204, u205, u206, u207, u208, u209, u210, u211, u212, u213, u214], []⟩ W := by
  obtain ⟨S0, hS0⟩ : ∃ S0, strB (toldS ⟨D1, I1⟩) = S0 := ⟨_, rfl⟩
  have a0 := cell_heap hA (o := 0) rfl; have a1 := cell_heap hA (o := 1) rfl; have a2 := cell_heap hA (o := 2) rfl; have a3 := cell_heap hA (o := 3) rfl; have a4 := cell_heap hA (o := 4) rfl; have a5 := cell_heap hA (o := 5) rfl; have a6 := cell_heap hA (o := 6) rfl; have a7 := cell_heap hA (o := 7) rfl
  have f0 := cell_heap hF (o := 0) rfl; have f1 := cell_heap hF (o := 1) rfl; have f2 := cell_heap hF (o := 2) rfl; have f3 := cell_heap hF (o := 3) rfl; have f4 := cell_heap hF (o := 4) rfl; have f5 := cell_heap hF (o := 5) rfl; have f6 := cell_heap hF (o := 6) rfl; have f7 := cell_heap hF (o := 7) rfl
  have lA := heap_lt hA
  have lF := heap_lt hF
  have hlv : ∀ w', Below W.heap.size W w' → Calls Tryd.prog 13 #[] w' (fun e w2 => e = .returned (.bool true) ∧ Kept w' w2) := fun w' hk => lives_any w' (hT.kept hk)
  clear hT
  have hgc : ∀ w', (∀ b o, b < W.heap.size → w'.cell? ⟨b, o, none⟩ = W.cell? ⟨b, o, none⟩) ∧ Below W.heap.size W w' → CfgIs w' (low w'.heap.size) ⟨D1, I1⟩ A1 c1 := fun w' h => hc.kept h.2
  have hgf : ∀ w', (∀ b o, b < W.heap.size → w'.cell? ⟨b, o, none⟩ = W.cell? ⟨b, o, none⟩) ∧ Below W.heap.size W w' → CfgIs w' (low w'.heap.size) ⟨D1, I1⟩ A3 n1 := fun w' h => hf.kept h.2
  have htd : ∀ B c' w', CfgIs w' (low w'.heap.size) ⟨D1, I1⟩ B c' → Calls Tryd.prog 17 #[.agg #[.int .u16 D1.total, .int .u8 D1.ifs, .int .u8 D1.number, .int .u8 D1.text, .bool D1.self, .bool D1.wake, .int .u8 D1.power, .slice B n1 c']] w' (fun e w2 => e = .returned (.string S0) ∧ Kept w' w2) := fun B c' w' hc => by
    have h := told_any ⟨D1, I1⟩ B c' w' hc hz hsm0
    unfold Cfg.cells CfgD.cells at h
    simp only [hn, hS0, List.cons_append, List.nil_append] at h
    exact h
  have HQ := hide hQ
  clear hA hF hc hf hn hz hsm0 hS0 hQ
  conv => arg 2; whnf
  refine wp_region_noPanic ?_
  refine wp_region_held_named (ops' := ops39f) (n := 9) (S := fun w' => (∀ b o, b < W.heap.size → w'.cell? ⟨b, o, none⟩ = W.cell? ⟨b, o, none⟩) ∧ Below W.heap.size W w') (by kernel_rfl) (by kernel_rfl) (by kernel_rfl) since_start (fun hS => ?_)
  have ho : ops39f[0]? = some (opAt ops39f 0) := by kernel_rfl
  conv at ho => rhs; arg 1; whnf
  refine wpAnyH_take (i := 0) (v := ?_) ho (by kernel_rfl) (by kernel_rfl) (by kernel_rfl) (fun _ _ _ h => h) (Or.inl ⟨by kernel_rfl, ?_⟩) hS ?_
  clear ho
  rotate_left
  · intro w' hS'
    have hq := hS'.1
    have hq2 := hS'.2
    clear hS'
    first | (go_simp; done) | (go_simp; with_reducible rfl)
  try clear ho
  try simp only [Act.put, List.getElem_toArray, List.getElem_cons_zero, List.getElem_cons_succ, List.setIfInBounds_toArray, List.set_cons_zero, List.set_cons_succ]
  have ho : ops39f[2]? = some (opAt ops39f 2) := by kernel_rfl
  conv at ho => rhs; arg 1; whnf
  refine wpAnyH_take (i := 2) (v := ?_) ho (by kernel_rfl) (by kernel_rfl) (by kernel_rfl) (fun _ _ _ h => h) (Or.inl ⟨by kernel_rfl, ?_⟩) hS ?_
  clear ho
  rotate_left
  · intro w' hS'
    have hq := hS'.1
    have hq2 := hS'.2
    clear hS'
    first | (go_simp; done) | (go_simp; with_reducible rfl)
  try clear ho
  try simp only [Act.put, List.getElem_toArray, List.getElem_cons_zero, List.getElem_cons_succ, List.setIfInBounds_toArray, List.set_cons_zero, List.set_cons_succ]
  have ho1 : ops39f[1]? = some (opAt ops39f 1) := by kernel_rfl
  conv at ho1 => rhs; arg 1; whnf
  refine wpAnyH_ready (rs := [1]) (by kernel_rfl) (by simp) ?_
  refine (AllReadyH.cons ho1 (fun K hK => ?_) AllReadyH.nil)
  all_goals clear ho1
  go_simp
  go_at_call 17
  refine (htd A3 n1 _ (hgf _ hS)).mono ?_
  rintro e w9 ⟨rfl, hk⟩
  try dsimp only
  refine hK.out _ _ ?_ (fun hS => ?_)
  · exact since_keep hS (Nat.le_refl _) hk
  clear hK K
  try simp only [Act.put, List.getElem_toArray, List.getElem_cons_zero, List.getElem_cons_succ, List.setIfInBounds_toArray, List.set_cons_zero, List.set_cons_succ]
  have ho3 : ops39f[3]? = some (opAt ops39f 3) := by kernel_rfl
  conv at ho3 => rhs; arg 1; whnf
  refine wpAnyH_ready (rs := [3]) (by kernel_rfl) (by simp) ?_
  refine (AllReadyH.cons ho3 (fun K hK => ?_) AllReadyH.nil)
  all_goals clear ho3
  go_simp
  go_at_call 17
  refine (htd A1 c1 _ (hgc _ hS)).mono ?_
  rintro e w9 ⟨rfl, hk⟩
  try dsimp only
  refine hK.out _ _ ?_ (fun hS => ?_)
  · exact since_keep hS (Nat.le_refl _) hk
  clear hK K
  try simp only [Act.put, List.getElem_toArray, List.getElem_cons_zero, List.getElem_cons_succ, List.setIfInBounds_toArray, List.set_cons_zero, List.set_cons_succ]
  have ho : ops39f[4]? = some (opAt ops39f 4) := by kernel_rfl
  conv at ho => rhs; arg 1; whnf
  refine wpAnyH_take (i := 4) (v := ?_) ho (by kernel_rfl) (by kernel_rfl) (by kernel_rfl) (fun _ _ _ h => h) (Or.inl ⟨by kernel_rfl, ?_⟩) hS ?_
  clear ho
  rotate_left
  · intro w' hS'
    have hq := hS'.1
    have hq2 := hS'.2
    clear hS'
    first | (go_simp; done) | (go_simp; with_reducible rfl)
  try clear ho
  try simp only [Act.put, List.getElem_toArray, List.getElem_cons_zero, List.getElem_cons_succ, List.setIfInBounds_toArray, List.set_cons_zero, List.set_cons_succ]
  have ho : ops39f[5]? = some (opAt ops39f 5) := by kernel_rfl
  conv at ho => rhs; arg 1; whnf
  refine wpAnyH_take (i := 5) (v := ?_) ho (by kernel_rfl) (by kernel_rfl) (by kernel_rfl) (fun _ _ _ h => h) (Or.inl ⟨by kernel_rfl, ?_⟩) hS ?_
  clear ho
  rotate_left
  · intro w' hS'
    have hq := hS'.1
    have hq2 := hS'.2
    clear hS'
    first | (go_simp; done) | (go_simp; with_reducible rfl)
  try clear ho
  try simp only [Act.put, List.getElem_toArray, List.getElem_cons_zero, List.getElem_cons_succ, List.setIfInBounds_toArray, List.set_cons_zero, List.set_cons_succ]
  have ho6 : ops39f[6]? = some (opAt ops39f 6) := by kernel_rfl
  conv at ho6 => rhs; arg 1; whnf
  refine wpAnyH_ready (rs := [6]) (by kernel_rfl) (by simp) ?_
  refine (AllReadyH.cons ho6 (fun K hK => ?_) AllReadyH.nil)
  all_goals clear ho6
  rw [if_pos (by kernel_rfl)]
  go_simp
  go_at_call 13
  refine (hlv _ hS.2).mono ?_
  rintro e w9 ⟨rfl, hk⟩
  try dsimp only
  refine hK.out _ _ ?_ (fun hS => ?_)
  · exact since_keep hS (Nat.le_refl _) hk
  clear hK K
  try simp only [Act.put, List.getElem_toArray, List.getElem_cons_zero, List.getElem_cons_succ, List.setIfInBounds_toArray, List.set_cons_zero, List.set_cons_succ]
  have ho : ops39f[7]? = some (opAt ops39f 7) := by kernel_rfl
  conv at ho => rhs; arg 1; whnf
  refine wpAnyH_take (i := 7) (v := ?_) ho (by kernel_rfl) (by kernel_rfl) (by kernel_rfl) (fun _ _ _ h => h) (Or.inl ⟨by kernel_rfl, ?_⟩) hS ?_
  clear ho
  rotate_left
  · intro w' hS'
    have hq := hS'.1
    have hq2 := hS'.2
    clear hS'
    first | (go_simp; done) | (go_simp; with_reducible rfl)
  try clear ho
  try simp only [Act.put, List.getElem_toArray, List.getElem_cons_zero, List.getElem_cons_succ, List.setIfInBounds_toArray, List.set_cons_zero, List.set_cons_succ]
  have ho : ops39f[8]? = some (opAt ops39f 8) := by kernel_rfl
  conv at ho => rhs; arg 1; whnf
  refine wpAnyH_take (i := 8) (v := ?_) ho (by kernel_rfl) (by kernel_rfl) (by kernel_rfl) (fun _ _ _ h => h) (Or.inl ⟨by kernel_rfl, ?_⟩) hS ?_
  clear ho
  rotate_left
  · intro w' hS'
    have hq := hS'.1
    have hq2 := hS'.2
    clear hS'
    first | (go_simp; done) | (go_simp; with_reducible rfl)
  try clear ho
  try simp only [Act.put, List.getElem_toArray, List.getElem_cons_zero, List.getElem_cons_succ, List.setIfInBounds_toArray, List.set_cons_zero, List.set_cons_succ]
  refine wpAnyH_done (by kernel_rfl) ?_ _
  refine NoPanic.normal ?_
  exact HQ.out _ _ _ _ _ _ _ _ hS.2
end Go.Proofs.YtjgncofhobhjdaaDoor
