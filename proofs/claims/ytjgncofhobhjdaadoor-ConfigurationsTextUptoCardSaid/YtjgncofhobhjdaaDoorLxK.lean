/- The law Text: the line of an endpoint. Printed by gen_lv.py. -/
import Derived.Test.YtjgncofhobhjdaaDoorChecked
import Derived.Deep.RegionHeld3
import Derived.Deep.DrawnRows
import Derived.Deep.DeepCutAuto
import Derived.Deep.LoopGhost
import Derived.Outline
import Derived.Handy
import Derived.OwnWalk
import Derived.BigQuiet
import Derived.Deep.CutBlock
import Derived.Test.YtjgncofhobhjdaaDoorLnK
import Derived.Test.YtjgncofhobhjdaaDoorLkK
set_option linter.unusedVariables false
set_option linter.unusedSimpArgs false
set_option linter.unusedSectionVars false
namespace Go.Proofs.YtjgncofhobhjdaaDoor
open Go.RowKit
attribute [local go_sem ↓] Go.wp_at_zero Go.wp_at_succ

set_option maxRecDepth 1000000 in
set_option maxHeartbeats 16000000 in
theorem ep_line3 {u0 u1 u2 u3 u5 u6 u8 u10 u11 u12 u13 u14 u15 u16 u17 u18 u19 u20 u21 u22 u23 u24 u25 u26 u27 u28 u29 u30 u31 u32 u33 u34 u35 u36 u37 u38 u39 u40 u41 u42 u43 u44 u45 u46 u47 u48 u49 u50 u51 u52 u53 u54 u55 u56 u57 u58 u59 u60 u61 u62 u63 u64 u65 u66 u67 u68 u69 u70 u71 u72 u73 u74 u75 u76 u77 u78 u79 u80 u81 u82 u83 u84 u85 u86 u87 u88 u89 u90 u91 u92 u93 u94 u95 u96 u97 u98 u99 u100 u101 u102 u103 u104 u105 u106 u107 u108 u109 u110 u111 u112 u113 u114 u115 u116 u117 u118 u119 u120 u121 u122 u123 u124 u125 u126 u127 u128 u129 u130 u131 u132 u133 u134 u135 u136 u137 u138 u139 u140 u141 u142 u143 u144 u145 u146 u147 u148 u149 u150 u151 u152 u153 u154 u155 u156 u157 u158 u159 u160 u161 u162 u163 u164 u165 u166 u167 u168 u169 u170 u171 u172 u173 u174 u175 u176 u177 u178 u179 u180 u181 u182 u183 u184 u185 u186 u187 u188 u189 u190 u191 u192 u193 u194 u195 u196 u197 u198 u199 u200 u201 u202 u203 u204 u205 u206 u207 u208 u209 u210 u211 u212 u213 u214 u215 : Value} {AT be offe r m ce : Nat} {acc : List UInt8} {e : EpD} {wr : World} (hAT : AT < wr.heap.size) (x8 : wr.cell? ⟨AT, 8, none⟩ = some (.slice (some ⟨be, offe, none⟩) m ce)) (hbe : be < wr.heap.size)
    (z0 : wr.cell? ⟨be, offe + r * 5, none⟩ = some (.int .u8 e.num)) (z1 : wr.cell? ⟨be, offe + r * 5 + 1, none⟩ = some (.bool e.inn)) (z2 : wr.cell? ⟨be, offe + r * 5 + 2, none⟩ = some (.int .u8 3)) (z3 : wr.cell? ⟨be, offe + r * 5 + 3, none⟩ = some (.int .u16 e.max)) (z4 : wr.cell? ⟨be, offe + r * 5 + 4, none⟩ = some (.int .u8 e.ivl))
    (hkd : e.kind = 3) (heok : e.ok) (hnum : e.num ≤ 15) (hr0 : (0 : Int) ≤ (r : Int)) (hrm : (r : Int) < (m : Int)) (hT : Tabs wr) (hlen : acc.length ≤ 3000000)
    (Q : Exit → Act → World → Prop) (K : Act → World → Prop) (hK : ∀ a w', Code.wp Tryd.prog (restC code25t) Q a w' → K a w')
    (hQ : ∀ (s10 s11 s159 s160 s161 s162 s163 s164 s165 s166 s167 s168 s169 s170 s171 s172 s173 s174 s175 s176 s177 s178 s179 s180 s181 s182 s183 s184 s185 s186 s187 s188 s189 s190 s191 s192 s193 s194 s195 s196 s197 s198 s199 s200 s201 s202 s203 s204 s205 s206 s207 s208 : Value) (w' : World), Kept wr w' → Q .normal ⟨#[u0, u1, u2, u3, .string (B8 (acc ++ lawEp e)), u5, u6, .pointer (some ⟨AT, 0, none⟩), u8, .int .i64 r, s10, s11, u12, u13, u14, u15, u16, u17, u18, u19, u20, u21, u22, u23, u24, u25, u26, u27, u28, u29, u30, u31, u32, u33, u34, u35, u36, u37, u38, u39, u40, u41, u42, u43, u44, u45, u46, u47, u48, u49, u50, u51, u52, u53, u54, u55, u56, u57, u58, u59, u60, u61, u62, u63, u64, u65, u66, u67, u68, u69, u70, u71, u72, u73, u74, u75, u76, u77, u78, u79, u80, u81, u82, u83, u84, u85, u86, u87, u88, u89, u90, u91, u92, u93, u94, u95, u96, u97, u98, u99, u100, u101, u102, u103, u104, u105, u106, u107, u108, u109, u110, u111, u112, u113, u114, u115, u116, u117, u118, u119, u120, u121, u122, u123, u124, u125, u126, u127, u128, u129, u130, u131, u132, u133, u134, u135, u136, u137, u138, u139, u140, u141, u142, u143, u144, u145, u146, u147, u148, u149, u150, u151, u152, u153, u154, u155, u156, u157, u158, s159, s160, s161, s162, s163, s164, s165, s166, s167, s168, s169, s170, s171, s172, s173, s174, s175, s176, s177, s178, s179, s180, s181, s182, s183, s184, s185, s186, s187, s188, s189, s190, s191, s192, s193, s194, s195, s196, s197, s198, s199, s200, s201, s202, s203, s204, s205, s206, s207, s208, u209, u210, u211, u212, u213, u214, u215], []⟩ w') :
    Code.wp Tryd.prog (headC code25t) (Exit.then K Q) ⟨#[u0, u1, u2, u3, .string (B8 acc), u5, u6, .pointer (some ⟨AT, 0, none⟩), u8, .int .i64 r, u10, u11, u12, u13, u14, u15, u16, u17, u18, u19, u20, u21, u22, u23, u24, u25, u26, u27, u28, u29, u30, u31, u32, u33, u34, u35, u36, u37, u38, u39, u40, u41, u42, u43, u44, u45, u46, u47, u48, u49, u50, u51, u52, u53, u54, u55, u56, u57, u58, u59, u60, u61, u62, u63, u64, u65, u66, u67, u68, u69, u70, u71, u72, u73, u74, u75, u76, u77, u78, u79, u80, u81, u82, u83, u84, u85, u86, u87, u88, u89, u90, u91, u92, u93, u94, u95, u96, u97, u98, u99, u100, u101, u102, u103, u104, u105, u106, u107, u108, u109, u110, u111, u112, u113, u114, u115, u116, u117, u118, u119, u120, u121, u122, u123, u124, u125, u126, u127, u128, u129, u130, u131, u132, u133, u134, u135, u136, u137, u138, u139, u140, u141, u142, u143, u144, u145, u146, u147, u148, u149, u150, u151, u152, u153, u154, u155, u156, u157, u158, u159, u160, u161, u162, u163, u164, u165, u166, u167, u168, u169, u170, u171, u172, u173, u174, u175, u176, u177, u178, u179, u180, u181, u182, u183, u184, u185, u186, u187, u188, u189, u190, u191, u192, u193, u194, u195, u196, u197, u198, u199, u200, u201, u202, u203, u204, u205, u206, u207, u208, u209, u210, u211, u212, u213, u214, u215], []⟩ wr := by
  obtain ⟨⟨n0, n1⟩, _, ⟨m0, m1⟩, ⟨v0, v1⟩⟩ := id heok
  have hTw := hide hT
  have HQ := hide hQ
  clear hQ hT heok
  obtain ⟨BT, hBT⟩ : ∃ BT, B8 acc = BT := ⟨_, rfl⟩
  have yT : BT.size ≤ 3000000 := by rw [← hBT]; exact hlen
  rw [hBT]
  conv => arg 2; whnf
  conv at hK => enter [a, w', 1, 2]; whnf
  go_upto_region 27 with (fail)
  refine wp_at (fun X => X.heap[wr.heap.size]? = some (.cells #[.int .u8 e.num, .bool e.inn, .int .u8 3, .int .u16 e.max, .int .u8 e.ivl] 59 (0, 0)) ∧ Kept wr X) ⟨heap_at _ rfl, by go_grown⟩ (fun X hX => ?_)
  obtain ⟨hE, hkX⟩ := hX
  obtain ⟨EB, hEB⟩ : ∃ EB, wr.heap.size = EB := ⟨_, rfl⟩
  rw [hEB] at hE
  simp only [hEB]
  have x0e := cell_heap hE (o := 0) rfl
  have x1e := cell_heap hE (o := 1) rfl
  have x2e := cell_heap hE (o := 2) rfl
  have x3e := cell_heap hE (o := 3) rfl
  have x4e := cell_heap hE (o := 4) rfl
  have lE := heap_lt hE
  have hTX := hTw.out.kept hkX
  have HkX := hide hkX
  clear hE hkX hEB z0 z1 z2 z3 z4 x8 hAT hbe
  obtain ⟨ad, had⟩ : ∃ ad : Int, addrS e = ad := ⟨_, rfl⟩
  have hadr := addrS_small e
  rw [had] at hadr
  obtain ⟨q0, q1⟩ := hadr
  have Had := hide had
  clear had
  have hw11 : IntKind.i64.wrap e.num = e.num := by rw [IntKind.wrap_i64]; omega
  let ZQ := bodyPost Tryd.prog Tryd.f8 fun _ _ => True
  go_upto_if 175 with (fail)
  go_cut [11] (fun s11 wc => wc = X ∧ s11 = .int .i64 ad)
  case first =>
    obtain ⟨bi, hbi⟩ : ∃ bi, e.inn = bi := ⟨_, rfl⟩
    have had2 : e.num + (if bi = true then 128 else 0) = ad := by rw [← Had.out, ← hbi]; unfold addrS; split <;> omega
    rw [hbi] at x1e ⊢
    clear hbi
    cases bi with
    | true =>
      have hww : IntKind.i64.wrap (e.num + 128) = ad := by rw [IntKind.wrap_i64]; simp only [if_true] at had2; omega
      clear had2
      go_wp2_with fail
      go_meet
      exact ⟨rfl, rfl⟩
    | false =>
      have hww : e.num = ad := by simpa using had2
      clear had2
      have Hww := hide hww
      clear hww
      go_wp2_with fail
      go_meet
      exact ⟨rfl, by rw [Hww.out]⟩
  case rest =>
  obtain ⟨hwc, rfl⟩ := hcut
  subst hwc
  rename World => X
  obtain ⟨S1, hS1⟩ : ∃ S1, B8 (Lib.itoa ad) = S1 := ⟨_, rfl⟩
  obtain ⟨S2, hS2⟩ : ∃ S2, B8 (Lib.itoa e.max) = S2 := ⟨_, rfl⟩
  obtain ⟨S3, hS3⟩ : ∃ S3, B8 (Lib.itoa e.ivl) = S3 := ⟨_, rfl⟩
  have y1 : S1.size ≤ 30 := by rw [← hS1]; exact itoa_30w (n := ad) (by omega) (by omega)
  have y2 : S2.size ≤ 30 := by rw [← hS2]; exact itoa_30w (n := e.max) (by omega) (by omega)
  have y3 : S3.size ≤ 30 := by rw [← hS3]; exact itoa_30w (n := e.ivl) (by omega) (by omega)
  have hTq : ∀ w', (∀ b o, b < X.heap.size → w'.cell? ⟨b, o, none⟩ = X.cell? ⟨b, o, none⟩) ∧ Below X.heap.size X w' → Tabs w' := fun w' h => hTX.kept h.2
  have hN1 := fun w' (h : Tabs w') => number_any ad w' (by omega) (by omega) h
  have hN2 := fun w' (h : Tabs w') => numberw_any e.max w' (by omega) (by omega) h
  have hN3 := fun w' (h : Tabs w') => number_any e.ivl w' (by omega) (by omega) h
  have hw3 : IntKind.i64.wrap e.ivl = e.ivl := by rw [IntKind.wrap_i64]; omega
  rw [hS1] at hN1
  rw [hS2] at hN2
  rw [hS3] at hN3
  obtain ⟨T1, hT1⟩ : ∃ T1, BT ++ ((⟨#[101, 110, 100, 112, 111, 105, 110, 116, 32]⟩ : ByteArray) ++ S1 ++ (⟨#[32]⟩ : ByteArray) ++ (⟨#[105, 110, 116, 101, 114, 114, 117, 112, 116]⟩ : ByteArray) ++ (⟨#[32]⟩ : ByteArray) ++ S2) = T1 := ⟨_, rfl⟩
  have yT1 : T1.size ≤ 3000200 := by
    rw [← hT1, show (⟨#[101, 110, 100, 112, 111, 105, 110, 116, 32]⟩ : ByteArray) ++ S1 ++ (⟨#[32]⟩ : ByteArray) ++ (⟨#[105, 110, 116, 101, 114, 114, 117, 112, 116]⟩ : ByteArray) ++ (⟨#[32]⟩ : ByteArray) ++ S2 = B8 sXEp ++ S1 ++ B8 [32] ++ B8 sInt ++ B8 [32] ++ S2 from rfl]
    simp only [ByteArray.size_append, B8_size]
    have h1 : sXEp.length = 9 := rfl
    have h2 : sInt.length ≤ 11 := by decide
    have h3 : ([32] : List UInt8).length = 1 := rfl
    omega
  have hfin : T1 ++ ((⟨#[32]⟩ : ByteArray) ++ S3) ++ (⟨#[10]⟩ : ByteArray) = B8 (acc ++ lawEp e) := by
    rw [← hT1, show (⟨#[101, 110, 100, 112, 111, 105, 110, 116, 32]⟩ : ByteArray) ++ S1 ++ (⟨#[32]⟩ : ByteArray) ++ (⟨#[105, 110, 116, 101, 114, 114, 117, 112, 116]⟩ : ByteArray) ++ (⟨#[32]⟩ : ByteArray) ++ S2 = B8 sXEp ++ S1 ++ B8 [32] ++ B8 sInt ++ B8 [32] ++ S2 from rfl, show (⟨#[10]⟩ : ByteArray) = B8 [10] from rfl, show (⟨#[32]⟩ : ByteArray) = B8 [32] from rfl, ← hBT, ← hS1, ← hS2, ← hS3]
    simp only [B8_app]
    unfold lawEp
    rw [Had.out, hkd]
    rw [if_neg (by decide), show kindN 3 = sInt from rfl]
    simp only [List.append_assoc, List.nil_append]
  have Hfin := hide hfin
  have HT1 := hide hT1
  clear hfin hT1 hS1 hS2 hS3 hBT hkd
  have f0 : ¬ 9223372036854775807 < 9 + S1.size := by omega
  have f1 : ¬ 9223372036854775807 < 9 + S1.size + 1 := by omega
  have f2 : ¬ 9223372036854775807 < 9 + S1.size + 1 + 9 := by omega
  have f3 : ¬ 9223372036854775807 < 9 + S1.size + 1 + 9 + 1 := by omega
  have f4 : ¬ 9223372036854775807 < 9 + S1.size + 1 + 9 + 1 + S2.size := by omega
  have f9 : ¬ 9223372036854775807 < BT.size + (9 + S1.size + 1 + 9 + 1 + S2.size) := by omega
  have h1a : ¬ 9223372036854775807 < 1 + S3.size := by omega
  have h2a : ¬ 9223372036854775807 < T1.size + (1 + S3.size) := by omega
  have h3a : ¬ 9223372036854775807 < T1.size + 1 := by omega
  have h4a : ¬ 9223372036854775807 < T1.size + (1 + S3.size) + 1 := by omega
  have hwk8 : IntKind.u8.wrap 2 = 2 := by rw [IntKind.wrap_u8]; rfl
  have Hw3 := hide hw3
  clear hw3
  go_upto_region 29 with (fail)
  refine wp_region_noPanic ?_
  refine wp_region_held_named (ops' := ops29) (n := 20) (S := fun w' => (∀ b o, b < X.heap.size → w'.cell? ⟨b, o, none⟩ = X.cell? ⟨b, o, none⟩) ∧ Below X.heap.size X w') (by kernel_rfl) (by kernel_rfl) (by kernel_rfl) since_start (fun hS => ?_)
  have ho : ops29[0]? = some (opAt ops29 0) := by kernel_rfl
  conv at ho => rhs; arg 1; whnf
  refine wpAnyH_take (i := 0) (v := ?_) ho (by kernel_rfl) (by kernel_rfl) (by kernel_rfl) (fun _ _ _ h => h) (Or.inl ⟨by kernel_rfl, ?_⟩) hS ?_
  clear ho
  rotate_left
  · intro w' hS'
    have hq := hS'.1
    have hq2 := hS'.2
    clear hS'
    first | (go_simp; done) | (go_simp; with_reducible rfl)
  try clear ho
  try simp only [Act.put, List.getElem_toArray, List.getElem_cons_zero, List.getElem_cons_succ, List.setIfInBounds_toArray, List.set_cons_zero, List.set_cons_succ]
  have ho : ops29[1]? = some (opAt ops29 1) := by kernel_rfl
  conv at ho => rhs; arg 1; whnf
  refine wpAnyH_take (i := 1) (v := ?_) ho (by kernel_rfl) (by kernel_rfl) (by kernel_rfl) (fun _ _ _ h => h) (Or.inl ⟨by kernel_rfl, ?_⟩) hS ?_
  clear ho
  rotate_left
  · intro w' hS'
    have hq := hS'.1
    have hq2 := hS'.2
    clear hS'
    first | (go_simp; done) | (go_simp; with_reducible rfl)
  try clear ho
  try simp only [Act.put, List.getElem_toArray, List.getElem_cons_zero, List.getElem_cons_succ, List.setIfInBounds_toArray, List.set_cons_zero, List.set_cons_succ]
  have ho : ops29[6]? = some (opAt ops29 6) := by kernel_rfl
  conv at ho => rhs; arg 1; whnf
  refine wpAnyH_take (i := 6) (v := ?_) ho (by kernel_rfl) (by kernel_rfl) (by kernel_rfl) (fun _ _ _ h => h) (Or.inl ⟨by kernel_rfl, ?_⟩) hS ?_
  clear ho
  rotate_left
  · intro w' hS'
    have hq := hS'.1
    have hq2 := hS'.2
    clear hS'
    first | (go_simp; done) | (go_simp; with_reducible rfl)
  try clear ho
  try simp only [Act.put, List.getElem_toArray, List.getElem_cons_zero, List.getElem_cons_succ, List.setIfInBounds_toArray, List.set_cons_zero, List.set_cons_succ]
  have ho : ops29[7]? = some (opAt ops29 7) := by kernel_rfl
  conv at ho => rhs; arg 1; whnf
  refine wpAnyH_take (i := 7) (v := ?_) ho (by kernel_rfl) (by kernel_rfl) (by kernel_rfl) (fun _ _ _ h => h) (Or.inl ⟨by kernel_rfl, ?_⟩) hS ?_
  clear ho
  rotate_left
  · intro w' hS'
    have hq := hS'.1
    have hq2 := hS'.2
    clear hS'
    first | (go_simp; done) | (go_simp; with_reducible rfl)
  try clear ho
  try simp only [Act.put, List.getElem_toArray, List.getElem_cons_zero, List.getElem_cons_succ, List.setIfInBounds_toArray, List.set_cons_zero, List.set_cons_succ]
  have ho : ops29[8]? = some (opAt ops29 8) := by kernel_rfl
  conv at ho => rhs; arg 1; whnf
  refine wpAnyH_take (i := 8) (v := ?_) ho (by kernel_rfl) (by kernel_rfl) (by kernel_rfl) (fun _ _ _ h => h) (Or.inl ⟨by kernel_rfl, ?_⟩) hS ?_
  clear ho
  rotate_left
  · intro w' hS'
    have hq := hS'.1
    have hq2 := hS'.2
    clear hS'
    first | (go_simp; done) | (go_simp; with_reducible rfl)
  try clear ho
  try simp only [Act.put, List.getElem_toArray, List.getElem_cons_zero, List.getElem_cons_succ, List.setIfInBounds_toArray, List.set_cons_zero, List.set_cons_succ]
  have ho : ops29[13]? = some (opAt ops29 13) := by kernel_rfl
  conv at ho => rhs; arg 1; whnf
  refine wpAnyH_take (i := 13) (v := ?_) ho (by kernel_rfl) (by kernel_rfl) (by kernel_rfl) (fun _ _ _ h => h) (Or.inl ⟨by kernel_rfl, ?_⟩) hS ?_
  clear ho
  rotate_left
  · intro w' hS'
    have hq := hS'.1
    have hq2 := hS'.2
    clear hS'
    first | (go_simp; done) | (go_simp; with_reducible rfl)
  try clear ho
  try simp only [Act.put, List.getElem_toArray, List.getElem_cons_zero, List.getElem_cons_succ, List.setIfInBounds_toArray, List.set_cons_zero, List.set_cons_succ]
  have ho : ops29[14]? = some (opAt ops29 14) := by kernel_rfl
  conv at ho => rhs; arg 1; whnf
  refine wpAnyH_take (i := 14) (v := ?_) ho (by kernel_rfl) (by kernel_rfl) (by kernel_rfl) (fun _ _ _ h => h) (Or.inl ⟨by kernel_rfl, ?_⟩) hS ?_
  clear ho
  rotate_left
  · intro w' hS'
    have hq := hS'.1
    have hq2 := hS'.2
    clear hS'
    first | (go_simp; done) | (go_simp; with_reducible rfl)
  try clear ho
  try simp only [Act.put, List.getElem_toArray, List.getElem_cons_zero, List.getElem_cons_succ, List.setIfInBounds_toArray, List.set_cons_zero, List.set_cons_succ]
  have ho : ops29[15]? = some (opAt ops29 15) := by kernel_rfl
  conv at ho => rhs; arg 1; whnf
  refine wpAnyH_take (i := 15) (v := ?_) ho (by kernel_rfl) (by kernel_rfl) (by kernel_rfl) (fun _ _ _ h => h) (Or.inl ⟨by kernel_rfl, ?_⟩) hS ?_
  clear ho
  rotate_left
  · intro w' hS'
    have hq := hS'.1
    have hq2 := hS'.2
    clear hS'
    first | (go_simp; done) | (go_simp; with_reducible rfl)
  try clear ho
  try simp only [Act.put, List.getElem_toArray, List.getElem_cons_zero, List.getElem_cons_succ, List.setIfInBounds_toArray, List.set_cons_zero, List.set_cons_succ]
  have ho2 : ops29[2]? = some (opAt ops29 2) := by kernel_rfl
  conv at ho2 => rhs; arg 1; whnf
  have ho5 : ops29[5]? = some (opAt ops29 5) := by kernel_rfl
  conv at ho5 => rhs; arg 1; whnf
  refine wpAnyH_ready (rs := [2, 5]) (by kernel_rfl) (by simp) ?_
  refine (AllReadyH.cons ho2 (fun K hK => ?_) (AllReadyH.cons ho5 (fun K hK => ?_) AllReadyH.nil))
  all_goals clear ho2 ho5
  · go_simp
    go_at_call 23
    refine (hN1 _ (hTq _ hS)).mono ?_
    rintro e w92 ⟨rfl, hk⟩
    try dsimp only
    refine hK.out _ _ ?_ (fun hS => ?_)
    · exact since_keep hS (Nat.le_refl _) hk
    clear hK K
    try simp only [Act.put, List.getElem_toArray, List.getElem_cons_zero, List.getElem_cons_succ, List.setIfInBounds_toArray, List.set_cons_zero, List.set_cons_succ]
    have ho : ops29[3]? = some (opAt ops29 3) := by kernel_rfl
    conv at ho => rhs; arg 1; whnf
    refine wpAnyH_take (i := 3) (v := ?_) ho (by kernel_rfl) (by kernel_rfl) (by kernel_rfl) (fun _ _ _ h => h) (Or.inl ⟨by kernel_rfl, ?_⟩) hS ?_
    clear ho
    rotate_left
    · intro w' hS'
      have hq := hS'.1
      have hq2 := hS'.2
      clear hS'
      first | (go_simp; done) | (go_simp; with_reducible rfl)
    try clear ho
    try simp only [Act.put, List.getElem_toArray, List.getElem_cons_zero, List.getElem_cons_succ, List.setIfInBounds_toArray, List.set_cons_zero, List.set_cons_succ]
    have ho : ops29[4]? = some (opAt ops29 4) := by kernel_rfl
    conv at ho => rhs; arg 1; whnf
    refine wpAnyH_take (i := 4) (v := ?_) ho (by kernel_rfl) (by kernel_rfl) (by kernel_rfl) (fun _ _ _ h => h) (Or.inl ⟨by kernel_rfl, ?_⟩) hS ?_
    clear ho
    rotate_left
    · intro w' hS'
      have hq := hS'.1
      have hq2 := hS'.2
      clear hS'
      first | (go_simp; done) | (go_simp; with_reducible rfl)
    try clear ho
    try simp only [Act.put, List.getElem_toArray, List.getElem_cons_zero, List.getElem_cons_succ, List.setIfInBounds_toArray, List.set_cons_zero, List.set_cons_succ]
    have ho5 : ops29[5]? = some (opAt ops29 5) := by kernel_rfl
    conv at ho5 => rhs; arg 1; whnf
    have ho16 : ops29[16]? = some (opAt ops29 16) := by kernel_rfl
    conv at ho16 => rhs; arg 1; whnf
    refine wpAnyH_ready (rs := [5, 16]) (by kernel_rfl) (by simp) ?_
    refine (AllReadyH.cons ho5 (fun K hK => ?_) (AllReadyH.cons ho16 (fun K hK => ?_) AllReadyH.nil))
    all_goals clear ho5 ho16
    · go_simp
      try dsimp only
      refine hK.out _ _ ?_ (fun hS => ?_)
      · exact since_alloc hS (Nat.le_refl _)
      clear hK K
      try simp only [Act.put, List.getElem_toArray, List.getElem_cons_zero, List.getElem_cons_succ, List.setIfInBounds_toArray, List.set_cons_zero, List.set_cons_succ]
      have ho : ops29[9]? = some (opAt ops29 9) := by kernel_rfl
      conv at ho => rhs; arg 1; whnf
      refine wpAnyH_take (i := 9) (v := ?_) ho (by kernel_rfl) (by kernel_rfl) (by kernel_rfl) (fun _ _ _ h => h) (Or.inl ⟨by kernel_rfl, ?_⟩) hS ?_
      clear ho
      rotate_left
      · intro w' hS'
        have hq := hS'.1
        have hq2 := hS'.2
        clear hS'
        first | (go_simp; done) | (go_simp; with_reducible rfl)
      try clear ho
      try simp only [Act.put, List.getElem_toArray, List.getElem_cons_zero, List.getElem_cons_succ, List.setIfInBounds_toArray, List.set_cons_zero, List.set_cons_succ]
      have ho10 : ops29[10]? = some (opAt ops29 10) := by kernel_rfl
      conv at ho10 => rhs; arg 1; whnf
      have ho16 : ops29[16]? = some (opAt ops29 16) := by kernel_rfl
      conv at ho16 => rhs; arg 1; whnf
      refine wpAnyH_ready (rs := [10, 16]) (by kernel_rfl) (by simp) ?_
      refine (AllReadyH.cons ho10 (fun K hK => ?_) (AllReadyH.cons ho16 (fun K hK => ?_) AllReadyH.nil))
      all_goals clear ho10 ho16
      · go_simp
        try dsimp only
        refine hK.out _ _ ?_ (fun hS => ?_)
        · exact hS
        clear hK K
        try simp only [Act.put, List.getElem_toArray, List.getElem_cons_zero, List.getElem_cons_succ, List.setIfInBounds_toArray, List.set_cons_zero, List.set_cons_succ]
        have ho : ops29[11]? = some (opAt ops29 11) := by kernel_rfl
        conv at ho => rhs; arg 1; whnf
        refine wpAnyH_take (i := 11) (v := ?_) ho (by kernel_rfl) (by kernel_rfl) (by kernel_rfl) (fun _ _ _ h => h) (Or.inl ⟨by kernel_rfl, ?_⟩) hS ?_
        clear ho
        rotate_left
        · intro w' hS'
          have hq := hS'.1
          have hq2 := hS'.2
          clear hS'
          first | (go_simp; done) | (go_simp; with_reducible rfl)
        try clear ho
        try simp only [Act.put, List.getElem_toArray, List.getElem_cons_zero, List.getElem_cons_succ, List.setIfInBounds_toArray, List.set_cons_zero, List.set_cons_succ]
        have ho : ops29[12]? = some (opAt ops29 12) := by kernel_rfl
        conv at ho => rhs; arg 1; whnf
        refine wpAnyH_take (i := 12) (v := ?_) ho (by kernel_rfl) (by kernel_rfl) (by kernel_rfl) (fun _ _ _ h => h) (Or.inl ⟨by kernel_rfl, ?_⟩) hS ?_
        clear ho
        rotate_left
        · intro w' hS'
          have hq := hS'.1
          have hq2 := hS'.2
          clear hS'
          first | (go_simp; done) | (go_simp; with_reducible rfl)
        try clear ho
        try simp only [Act.put, List.getElem_toArray, List.getElem_cons_zero, List.getElem_cons_succ, List.setIfInBounds_toArray, List.set_cons_zero, List.set_cons_succ]
        have ho16 : ops29[16]? = some (opAt ops29 16) := by kernel_rfl
        conv at ho16 => rhs; arg 1; whnf
        refine wpAnyH_ready (rs := [16]) (by kernel_rfl) (by simp) ?_
        refine (AllReadyH.cons ho16 (fun K hK => ?_) AllReadyH.nil)
        all_goals clear ho16
        go_simp
        go_at_call 23
        refine (hN2 _ (hTq _ hS)).mono ?_
        rintro e w96 ⟨rfl, hk⟩
        try dsimp only
        refine hK.out _ _ ?_ (fun hS => ?_)
        · exact since_keep hS (Nat.le_refl _) hk
        clear hK K
        try simp only [Act.put, List.getElem_toArray, List.getElem_cons_zero, List.getElem_cons_succ, List.setIfInBounds_toArray, List.set_cons_zero, List.set_cons_succ]
        have hqw96 := fun (o : Nat) => hk.cell (p := ⟨w92.heap.size, o, none⟩) (by first | exact Nat.lt_succ_self _ | (simp; done) | (simp [World.drew, World.alloc]; done))
        have lrw96 : w92.heap.size < w96.heap.size := Nat.lt_of_lt_of_le (by first | exact Nat.lt_succ_self _ | (simp; done) | (simp [World.drew, World.alloc]; done)) hk.size
        have ho : ops29[17]? = some (opAt ops29 17) := by kernel_rfl
        conv at ho => rhs; arg 1; whnf
        refine wpAnyH_take (i := 17) (v := ?_) ho (by kernel_rfl) (by kernel_rfl) (by kernel_rfl) (fun _ _ _ h => h) (Or.inl ⟨by kernel_rfl, ?_⟩) hS ?_
        clear ho
        rotate_left
        · intro w' hS'
          have hq := hS'.1
          have hq2 := hS'.2
          clear hS'
          first | (go_simp; done) | (go_simp; with_reducible rfl)
        try clear ho
        try simp only [Act.put, List.getElem_toArray, List.getElem_cons_zero, List.getElem_cons_succ, List.setIfInBounds_toArray, List.set_cons_zero, List.set_cons_succ]
        have ho : ops29[18]? = some (opAt ops29 18) := by kernel_rfl
        conv at ho => rhs; arg 1; whnf
        refine wpAnyH_take (i := 18) (v := ?_) ho (by kernel_rfl) (by kernel_rfl) (by kernel_rfl) (fun _ _ _ h => h) (Or.inl ⟨by kernel_rfl, ?_⟩) hS ?_
        clear ho
        rotate_left
        · intro w' hS'
          have hq := hS'.1
          have hq2 := hS'.2
          clear hS'
          first | (go_simp; done) | (go_simp; with_reducible rfl)
        try clear ho
        try simp only [Act.put, List.getElem_toArray, List.getElem_cons_zero, List.getElem_cons_succ, List.setIfInBounds_toArray, List.set_cons_zero, List.set_cons_succ]
        have ho : ops29[19]? = some (opAt ops29 19) := by kernel_rfl
        conv at ho => rhs; arg 1; whnf
        refine wpAnyH_take (i := 19) (v := ?_) ho (by kernel_rfl) (by kernel_rfl) (by kernel_rfl) (fun _ _ _ h => h) (Or.inl ⟨by kernel_rfl, ?_⟩) hS ?_
        clear ho
        rotate_left
        · intro w' hS'
          have hq := hS'.1
          have hq2 := hS'.2
          clear hS'
          first | (go_simp; done) | (go_simp; with_reducible rfl)
        try clear ho
        try simp only [Act.put, List.getElem_toArray, List.getElem_cons_zero, List.getElem_cons_succ, List.setIfInBounds_toArray, List.set_cons_zero, List.set_cons_succ]
        refine wpAnyH_done (by kernel_rfl) ?_ _
        refine NoPanic.normal ?_
        rw [HT1.out]
        refine (show ∀ (a : Act) (w : World), Code.wp Tryd.prog _ _ a w → _ from by assumption) _ _ ?_
        have hBX := hS.2
        have hTX8 := hTX.kept hBX
        have hCX := hS.1
        have hw3 := Hw3.out
        go_wp2_with (go_at_call 23; refine (hN3 _ hTX8).mono ?_; rintro e3 w3 ⟨rfl, hk3⟩)
        rw [Hfin.out]
        exact HQ.out _ _ _ _ _ _ _ _ _ _ _ _ _ _ _ _ _ _ _ _ _ _ _ _ _ _ _ _ _ _ _ _ _ _ _ _ _ _ _ _ _ _ _ _ _ _ _ _ _ _ _ _ _ ((HkX.out.trans' hBX).trans' hk3)
      · go_simp
        go_at_call 23
        refine (hN2 _ (hTq _ hS)).mono ?_
        rintro e w96 ⟨rfl, hk⟩
        try dsimp only
        refine hK.out _ _ ?_ (fun hS => ?_)
        · exact since_keep hS (Nat.le_refl _) hk
        clear hK K
        try simp only [Act.put, List.getElem_toArray, List.getElem_cons_zero, List.getElem_cons_succ, List.setIfInBounds_toArray, List.set_cons_zero, List.set_cons_succ]
        have hqw96 := fun (o : Nat) => hk.cell (p := ⟨w92.heap.size, o, none⟩) (by first | exact Nat.lt_succ_self _ | (simp; done) | (simp [World.drew, World.alloc]; done))
        have lrw96 : w92.heap.size < w96.heap.size := Nat.lt_of_lt_of_le (by first | exact Nat.lt_succ_self _ | (simp; done) | (simp [World.drew, World.alloc]; done)) hk.size
        have ho10 : ops29[10]? = some (opAt ops29 10) := by kernel_rfl
        conv at ho10 => rhs; arg 1; whnf
        refine wpAnyH_ready (rs := [10]) (by kernel_rfl) (by simp) ?_
        refine (AllReadyH.cons ho10 (fun K hK => ?_) AllReadyH.nil)
        all_goals clear ho10
        go_simp
        try dsimp only
        refine hK.out _ _ ?_ (fun hS => ?_)
        · exact hS
        clear hK K
        try simp only [Act.put, List.getElem_toArray, List.getElem_cons_zero, List.getElem_cons_succ, List.setIfInBounds_toArray, List.set_cons_zero, List.set_cons_succ]
        have ho : ops29[11]? = some (opAt ops29 11) := by kernel_rfl
        conv at ho => rhs; arg 1; whnf
        refine wpAnyH_take (i := 11) (v := ?_) ho (by kernel_rfl) (by kernel_rfl) (by kernel_rfl) (fun _ _ _ h => h) (Or.inl ⟨by kernel_rfl, ?_⟩) hS ?_
        clear ho
        rotate_left
        · intro w' hS'
          have hq := hS'.1
          have hq2 := hS'.2
          clear hS'
          first | (go_simp; done) | (go_simp; with_reducible rfl)
        try clear ho
        try simp only [Act.put, List.getElem_toArray, List.getElem_cons_zero, List.getElem_cons_succ, List.setIfInBounds_toArray, List.set_cons_zero, List.set_cons_succ]
        have ho : ops29[12]? = some (opAt ops29 12) := by kernel_rfl
        conv at ho => rhs; arg 1; whnf
        refine wpAnyH_take (i := 12) (v := ?_) ho (by kernel_rfl) (by kernel_rfl) (by kernel_rfl) (fun _ _ _ h => h) (Or.inl ⟨by kernel_rfl, ?_⟩) hS ?_
        clear ho
        rotate_left
        · intro w' hS'
          have hq := hS'.1
          have hq2 := hS'.2
          clear hS'
          first | (go_simp; done) | (go_simp; with_reducible rfl)
        try clear ho
        try simp only [Act.put, List.getElem_toArray, List.getElem_cons_zero, List.getElem_cons_succ, List.setIfInBounds_toArray, List.set_cons_zero, List.set_cons_succ]
        have ho : ops29[17]? = some (opAt ops29 17) := by kernel_rfl
        conv at ho => rhs; arg 1; whnf
        refine wpAnyH_take (i := 17) (v := ?_) ho (by kernel_rfl) (by kernel_rfl) (by kernel_rfl) (fun _ _ _ h => h) (Or.inl ⟨by kernel_rfl, ?_⟩) hS ?_
        clear ho
        rotate_left
        · intro w' hS'
          have hq := hS'.1
          have hq2 := hS'.2
          clear hS'
          first | (go_simp; done) | (go_simp; with_reducible rfl)
        try clear ho
        try simp only [Act.put, List.getElem_toArray, List.getElem_cons_zero, List.getElem_cons_succ, List.setIfInBounds_toArray, List.set_cons_zero, List.set_cons_succ]
        have ho : ops29[18]? = some (opAt ops29 18) := by kernel_rfl
        conv at ho => rhs; arg 1; whnf
        refine wpAnyH_take (i := 18) (v := ?_) ho (by kernel_rfl) (by kernel_rfl) (by kernel_rfl) (fun _ _ _ h => h) (Or.inl ⟨by kernel_rfl, ?_⟩) hS ?_
        clear ho
        rotate_left
        · intro w' hS'
          have hq := hS'.1
          have hq2 := hS'.2
          clear hS'
          first | (go_simp; done) | (go_simp; with_reducible rfl)
        try clear ho
        try simp only [Act.put, List.getElem_toArray, List.getElem_cons_zero, List.getElem_cons_succ, List.setIfInBounds_toArray, List.set_cons_zero, List.set_cons_succ]
        have ho : ops29[19]? = some (opAt ops29 19) := by kernel_rfl
        conv at ho => rhs; arg 1; whnf
        refine wpAnyH_take (i := 19) (v := ?_) ho (by kernel_rfl) (by kernel_rfl) (by kernel_rfl) (fun _ _ _ h => h) (Or.inl ⟨by kernel_rfl, ?_⟩) hS ?_
        clear ho
        rotate_left
        · intro w' hS'
          have hq := hS'.1
          have hq2 := hS'.2
          clear hS'
          first | (go_simp; done) | (go_simp; with_reducible rfl)
        try clear ho
        try simp only [Act.put, List.getElem_toArray, List.getElem_cons_zero, List.getElem_cons_succ, List.setIfInBounds_toArray, List.set_cons_zero, List.set_cons_succ]
        refine wpAnyH_done (by kernel_rfl) ?_ _
        refine NoPanic.normal ?_
        rw [HT1.out]
        refine (show ∀ (a : Act) (w : World), Code.wp Tryd.prog _ _ a w → _ from by assumption) _ _ ?_
        have hBX := hS.2
        have hTX8 := hTX.kept hBX
        have hCX := hS.1
        have hw3 := Hw3.out
        go_wp2_with (go_at_call 23; refine (hN3 _ hTX8).mono ?_; rintro e3 w3 ⟨rfl, hk3⟩)
        rw [Hfin.out]
        exact HQ.out _ _ _ _ _ _ _ _ _ _ _ _ _ _ _ _ _ _ _ _ _ _ _ _ _ _ _ _ _ _ _ _ _ _ _ _ _ _ _ _ _ _ _ _ _ _ _ _ _ _ _ _ _ ((HkX.out.trans' hBX).trans' hk3)
    · go_simp
      go_at_call 23
      refine (hN2 _ (hTq _ hS)).mono ?_
      rintro e w96 ⟨rfl, hk⟩
      try dsimp only
      refine hK.out _ _ ?_ (fun hS => ?_)
      · exact since_keep hS (Nat.le_refl _) hk
      clear hK K
      try simp only [Act.put, List.getElem_toArray, List.getElem_cons_zero, List.getElem_cons_succ, List.setIfInBounds_toArray, List.set_cons_zero, List.set_cons_succ]
      have ho5 : ops29[5]? = some (opAt ops29 5) := by kernel_rfl
      conv at ho5 => rhs; arg 1; whnf
      refine wpAnyH_ready (rs := [5]) (by kernel_rfl) (by simp) ?_
      refine (AllReadyH.cons ho5 (fun K hK => ?_) AllReadyH.nil)
      all_goals clear ho5
      go_simp
      try dsimp only
      refine hK.out _ _ ?_ (fun hS => ?_)
      · exact since_alloc hS (Nat.le_refl _)
      clear hK K
      try simp only [Act.put, List.getElem_toArray, List.getElem_cons_zero, List.getElem_cons_succ, List.setIfInBounds_toArray, List.set_cons_zero, List.set_cons_succ]
      have ho : ops29[9]? = some (opAt ops29 9) := by kernel_rfl
      conv at ho => rhs; arg 1; whnf
      refine wpAnyH_take (i := 9) (v := ?_) ho (by kernel_rfl) (by kernel_rfl) (by kernel_rfl) (fun _ _ _ h => h) (Or.inl ⟨by kernel_rfl, ?_⟩) hS ?_
      clear ho
      rotate_left
      · intro w' hS'
        have hq := hS'.1
        have hq2 := hS'.2
        clear hS'
        first | (go_simp; done) | (go_simp; with_reducible rfl)
      try clear ho
      try simp only [Act.put, List.getElem_toArray, List.getElem_cons_zero, List.getElem_cons_succ, List.setIfInBounds_toArray, List.set_cons_zero, List.set_cons_succ]
      have ho10 : ops29[10]? = some (opAt ops29 10) := by kernel_rfl
      conv at ho10 => rhs; arg 1; whnf
      refine wpAnyH_ready (rs := [10]) (by kernel_rfl) (by simp) ?_
      refine (AllReadyH.cons ho10 (fun K hK => ?_) AllReadyH.nil)
      all_goals clear ho10
      go_simp
      try dsimp only
      refine hK.out _ _ ?_ (fun hS => ?_)
      · exact hS
      clear hK K
      try simp only [Act.put, List.getElem_toArray, List.getElem_cons_zero, List.getElem_cons_succ, List.setIfInBounds_toArray, List.set_cons_zero, List.set_cons_succ]
      have ho : ops29[11]? = some (opAt ops29 11) := by kernel_rfl
      conv at ho => rhs; arg 1; whnf
      refine wpAnyH_take (i := 11) (v := ?_) ho (by kernel_rfl) (by kernel_rfl) (by kernel_rfl) (fun _ _ _ h => h) (Or.inl ⟨by kernel_rfl, ?_⟩) hS ?_
      clear ho
      rotate_left
      · intro w' hS'
        have hq := hS'.1
        have hq2 := hS'.2
        clear hS'
        first | (go_simp; done) | (go_simp; with_reducible rfl)
      try clear ho
      try simp only [Act.put, List.getElem_toArray, List.getElem_cons_zero, List.getElem_cons_succ, List.setIfInBounds_toArray, List.set_cons_zero, List.set_cons_succ]
      have ho : ops29[12]? = some (opAt ops29 12) := by kernel_rfl
      conv at ho => rhs; arg 1; whnf
      refine wpAnyH_take (i := 12) (v := ?_) ho (by kernel_rfl) (by kernel_rfl) (by kernel_rfl) (fun _ _ _ h => h) (Or.inl ⟨by kernel_rfl, ?_⟩) hS ?_
      clear ho
      rotate_left
      · intro w' hS'
        have hq := hS'.1
        have hq2 := hS'.2
        clear hS'
        first | (go_simp; done) | (go_simp; with_reducible rfl)
      try clear ho
      try simp only [Act.put, List.getElem_toArray, List.getElem_cons_zero, List.getElem_cons_succ, List.setIfInBounds_toArray, List.set_cons_zero, List.set_cons_succ]
      have ho : ops29[17]? = some (opAt ops29 17) := by kernel_rfl
      conv at ho => rhs; arg 1; whnf
      refine wpAnyH_take (i := 17) (v := ?_) ho (by kernel_rfl) (by kernel_rfl) (by kernel_rfl) (fun _ _ _ h => h) (Or.inl ⟨by kernel_rfl, ?_⟩) hS ?_
      clear ho
      rotate_left
      · intro w' hS'
        have hq := hS'.1
        have hq2 := hS'.2
        clear hS'
        first | (go_simp; done) | (go_simp; with_reducible rfl)
      try clear ho
      try simp only [Act.put, List.getElem_toArray, List.getElem_cons_zero, List.getElem_cons_succ, List.setIfInBounds_toArray, List.set_cons_zero, List.set_cons_succ]
      have ho : ops29[18]? = some (opAt ops29 18) := by kernel_rfl
      conv at ho => rhs; arg 1; whnf
      refine wpAnyH_take (i := 18) (v := ?_) ho (by kernel_rfl) (by kernel_rfl) (by kernel_rfl) (fun _ _ _ h => h) (Or.inl ⟨by kernel_rfl, ?_⟩) hS ?_
      clear ho
      rotate_left
      · intro w' hS'
        have hq := hS'.1
        have hq2 := hS'.2
        clear hS'
        first | (go_simp; done) | (go_simp; with_reducible rfl)
      try clear ho
      try simp only [Act.put, List.getElem_toArray, List.getElem_cons_zero, List.getElem_cons_succ, List.setIfInBounds_toArray, List.set_cons_zero, List.set_cons_succ]
      have ho : ops29[19]? = some (opAt ops29 19) := by kernel_rfl
      conv at ho => rhs; arg 1; whnf
      refine wpAnyH_take (i := 19) (v := ?_) ho (by kernel_rfl) (by kernel_rfl) (by kernel_rfl) (fun _ _ _ h => h) (Or.inl ⟨by kernel_rfl, ?_⟩) hS ?_
      clear ho
      rotate_left
      · intro w' hS'
        have hq := hS'.1
        have hq2 := hS'.2
        clear hS'
        first | (go_simp; done) | (go_simp; with_reducible rfl)
      try clear ho
      try simp only [Act.put, List.getElem_toArray, List.getElem_cons_zero, List.getElem_cons_succ, List.setIfInBounds_toArray, List.set_cons_zero, List.set_cons_succ]
      refine wpAnyH_done (by kernel_rfl) ?_ _
      refine NoPanic.normal ?_
      rw [HT1.out]
      refine (show ∀ (a : Act) (w : World), Code.wp Tryd.prog _ _ a w → _ from by assumption) _ _ ?_
      have hBX := hS.2
      have hTX8 := hTX.kept hBX
      have hCX := hS.1
      have hw3 := Hw3.out
      go_wp2_with (go_at_call 23; refine (hN3 _ hTX8).mono ?_; rintro e3 w3 ⟨rfl, hk3⟩)
      rw [Hfin.out]
      exact HQ.out _ _ _ _ _ _ _ _ _ _ _ _ _ _ _ _ _ _ _ _ _ _ _ _ _ _ _ _ _ _ _ _ _ _ _ _ _ _ _ _ _ _ _ _ _ _ _ _ _ _ _ _ _ ((HkX.out.trans' hBX).trans' hk3)
  · go_simp
    try dsimp only
    refine hK.out _ _ ?_ (fun hS => ?_)
    · exact since_alloc hS (Nat.le_refl _)
    clear hK K
    try simp only [Act.put, List.getElem_toArray, List.getElem_cons_zero, List.getElem_cons_succ, List.setIfInBounds_toArray, List.set_cons_zero, List.set_cons_succ]
    have ho : ops29[9]? = some (opAt ops29 9) := by kernel_rfl
    conv at ho => rhs; arg 1; whnf
    refine wpAnyH_take (i := 9) (v := ?_) ho (by kernel_rfl) (by kernel_rfl) (by kernel_rfl) (fun _ _ _ h => h) (Or.inl ⟨by kernel_rfl, ?_⟩) hS ?_
    clear ho
    rotate_left
    · intro w' hS'
      have hq := hS'.1
      have hq2 := hS'.2
      clear hS'
      first | (go_simp; done) | (go_simp; with_reducible rfl)
    try clear ho
    try simp only [Act.put, List.getElem_toArray, List.getElem_cons_zero, List.getElem_cons_succ, List.setIfInBounds_toArray, List.set_cons_zero, List.set_cons_succ]
    have ho2 : ops29[2]? = some (opAt ops29 2) := by kernel_rfl
    conv at ho2 => rhs; arg 1; whnf
    have ho10 : ops29[10]? = some (opAt ops29 10) := by kernel_rfl
    conv at ho10 => rhs; arg 1; whnf
    refine wpAnyH_ready (rs := [2, 10]) (by kernel_rfl) (by simp) ?_
    refine (AllReadyH.cons ho2 (fun K hK => ?_) (AllReadyH.cons ho10 (fun K hK => ?_) AllReadyH.nil))
    all_goals clear ho2 ho10
    · go_simp
      go_at_call 23
      refine (hN1 _ (hTq _ hS)).mono ?_
      rintro e w92 ⟨rfl, hk⟩
      try dsimp only
      refine hK.out _ _ ?_ (fun hS => ?_)
      · exact since_keep hS (Nat.le_refl _) hk
      clear hK K
      try simp only [Act.put, List.getElem_toArray, List.getElem_cons_zero, List.getElem_cons_succ, List.setIfInBounds_toArray, List.set_cons_zero, List.set_cons_succ]
      have hqw92 := fun (o : Nat) => hk.cell (p := ⟨X.heap.size, o, none⟩) (by first | exact Nat.lt_succ_self _ | (simp; done) | (simp [World.drew, World.alloc]; done))
      have lrw92 : X.heap.size < w92.heap.size := Nat.lt_of_lt_of_le (by first | exact Nat.lt_succ_self _ | (simp; done) | (simp [World.drew, World.alloc]; done)) hk.size
      have ho : ops29[3]? = some (opAt ops29 3) := by kernel_rfl
      conv at ho => rhs; arg 1; whnf
      refine wpAnyH_take (i := 3) (v := ?_) ho (by kernel_rfl) (by kernel_rfl) (by kernel_rfl) (fun _ _ _ h => h) (Or.inl ⟨by kernel_rfl, ?_⟩) hS ?_
      clear ho
      rotate_left
      · intro w' hS'
        have hq := hS'.1
        have hq2 := hS'.2
        clear hS'
        first | (go_simp; done) | (go_simp; with_reducible rfl)
      try clear ho
      try simp only [Act.put, List.getElem_toArray, List.getElem_cons_zero, List.getElem_cons_succ, List.setIfInBounds_toArray, List.set_cons_zero, List.set_cons_succ]
      have ho : ops29[4]? = some (opAt ops29 4) := by kernel_rfl
      conv at ho => rhs; arg 1; whnf
      refine wpAnyH_take (i := 4) (v := ?_) ho (by kernel_rfl) (by kernel_rfl) (by kernel_rfl) (fun _ _ _ h => h) (Or.inl ⟨by kernel_rfl, ?_⟩) hS ?_
      clear ho
      rotate_left
      · intro w' hS'
        have hq := hS'.1
        have hq2 := hS'.2
        clear hS'
        first | (go_simp; done) | (go_simp; with_reducible rfl)
      try clear ho
      try simp only [Act.put, List.getElem_toArray, List.getElem_cons_zero, List.getElem_cons_succ, List.setIfInBounds_toArray, List.set_cons_zero, List.set_cons_succ]
      have ho10 : ops29[10]? = some (opAt ops29 10) := by kernel_rfl
      conv at ho10 => rhs; arg 1; whnf
      have ho16 : ops29[16]? = some (opAt ops29 16) := by kernel_rfl
      conv at ho16 => rhs; arg 1; whnf
      refine wpAnyH_ready (rs := [10, 16]) (by kernel_rfl) (by simp) ?_
      refine (AllReadyH.cons ho10 (fun K hK => ?_) (AllReadyH.cons ho16 (fun K hK => ?_) AllReadyH.nil))
      all_goals clear ho10 ho16
      · go_simp
        try dsimp only
        refine hK.out _ _ ?_ (fun hS => ?_)
        · exact hS
        clear hK K
        try simp only [Act.put, List.getElem_toArray, List.getElem_cons_zero, List.getElem_cons_succ, List.setIfInBounds_toArray, List.set_cons_zero, List.set_cons_succ]
        have ho : ops29[11]? = some (opAt ops29 11) := by kernel_rfl
        conv at ho => rhs; arg 1; whnf
        refine wpAnyH_take (i := 11) (v := ?_) ho (by kernel_rfl) (by kernel_rfl) (by kernel_rfl) (fun _ _ _ h => h) (Or.inl ⟨by kernel_rfl, ?_⟩) hS ?_
        clear ho
        rotate_left
        · intro w' hS'
          have hq := hS'.1
          have hq2 := hS'.2
          clear hS'
          first | (go_simp; done) | (go_simp; with_reducible rfl)
        try clear ho
        try simp only [Act.put, List.getElem_toArray, List.getElem_cons_zero, List.getElem_cons_succ, List.setIfInBounds_toArray, List.set_cons_zero, List.set_cons_succ]
        have ho : ops29[12]? = some (opAt ops29 12) := by kernel_rfl
        conv at ho => rhs; arg 1; whnf
        refine wpAnyH_take (i := 12) (v := ?_) ho (by kernel_rfl) (by kernel_rfl) (by kernel_rfl) (fun _ _ _ h => h) (Or.inl ⟨by kernel_rfl, ?_⟩) hS ?_
        clear ho
        rotate_left
        · intro w' hS'
          have hq := hS'.1
          have hq2 := hS'.2
          clear hS'
          first | (go_simp; done) | (go_simp; with_reducible rfl)
        try clear ho
        try simp only [Act.put, List.getElem_toArray, List.getElem_cons_zero, List.getElem_cons_succ, List.setIfInBounds_toArray, List.set_cons_zero, List.set_cons_succ]
        have ho16 : ops29[16]? = some (opAt ops29 16) := by kernel_rfl
        conv at ho16 => rhs; arg 1; whnf
        refine wpAnyH_ready (rs := [16]) (by kernel_rfl) (by simp) ?_
        refine (AllReadyH.cons ho16 (fun K hK => ?_) AllReadyH.nil)
        all_goals clear ho16
        go_simp
        go_at_call 23
        refine (hN2 _ (hTq _ hS)).mono ?_
        rintro e w96 ⟨rfl, hk⟩
        try dsimp only
        refine hK.out _ _ ?_ (fun hS => ?_)
        · exact since_keep hS (Nat.le_refl _) hk
        clear hK K
        try simp only [Act.put, List.getElem_toArray, List.getElem_cons_zero, List.getElem_cons_succ, List.setIfInBounds_toArray, List.set_cons_zero, List.set_cons_succ]
        have hqw96 := fun (o : Nat) => hk.cell (p := ⟨X.heap.size, o, none⟩) lrw92
        have lrw96 : X.heap.size < w96.heap.size := Nat.lt_of_lt_of_le lrw92 hk.size
        have ho : ops29[17]? = some (opAt ops29 17) := by kernel_rfl
        conv at ho => rhs; arg 1; whnf
        refine wpAnyH_take (i := 17) (v := ?_) ho (by kernel_rfl) (by kernel_rfl) (by kernel_rfl) (fun _ _ _ h => h) (Or.inl ⟨by kernel_rfl, ?_⟩) hS ?_
        clear ho
        rotate_left
        · intro w' hS'
          have hq := hS'.1
          have hq2 := hS'.2
          clear hS'
          first | (go_simp; done) | (go_simp; with_reducible rfl)
        try clear ho
        try simp only [Act.put, List.getElem_toArray, List.getElem_cons_zero, List.getElem_cons_succ, List.setIfInBounds_toArray, List.set_cons_zero, List.set_cons_succ]
        have ho : ops29[18]? = some (opAt ops29 18) := by kernel_rfl
        conv at ho => rhs; arg 1; whnf
        refine wpAnyH_take (i := 18) (v := ?_) ho (by kernel_rfl) (by kernel_rfl) (by kernel_rfl) (fun _ _ _ h => h) (Or.inl ⟨by kernel_rfl, ?_⟩) hS ?_
        clear ho
        rotate_left
        · intro w' hS'
          have hq := hS'.1
          have hq2 := hS'.2
          clear hS'
          first | (go_simp; done) | (go_simp; with_reducible rfl)
        try clear ho
        try simp only [Act.put, List.getElem_toArray, List.getElem_cons_zero, List.getElem_cons_succ, List.setIfInBounds_toArray, List.set_cons_zero, List.set_cons_succ]
        have ho : ops29[19]? = some (opAt ops29 19) := by kernel_rfl
        conv at ho => rhs; arg 1; whnf
        refine wpAnyH_take (i := 19) (v := ?_) ho (by kernel_rfl) (by kernel_rfl) (by kernel_rfl) (fun _ _ _ h => h) (Or.inl ⟨by kernel_rfl, ?_⟩) hS ?_
        clear ho
        rotate_left
        · intro w' hS'
          have hq := hS'.1
          have hq2 := hS'.2
          clear hS'
          first | (go_simp; done) | (go_simp; with_reducible rfl)
        try clear ho
        try simp only [Act.put, List.getElem_toArray, List.getElem_cons_zero, List.getElem_cons_succ, List.setIfInBounds_toArray, List.set_cons_zero, List.set_cons_succ]
        refine wpAnyH_done (by kernel_rfl) ?_ _
        refine NoPanic.normal ?_
        rw [HT1.out]
        refine (show ∀ (a : Act) (w : World), Code.wp Tryd.prog _ _ a w → _ from by assumption) _ _ ?_
        have hBX := hS.2
        have hTX8 := hTX.kept hBX
        have hCX := hS.1
        have hw3 := Hw3.out
        go_wp2_with (go_at_call 23; refine (hN3 _ hTX8).mono ?_; rintro e3 w3 ⟨rfl, hk3⟩)
        rw [Hfin.out]
        exact HQ.out _ _ _ _ _ _ _ _ _ _ _ _ _ _ _ _ _ _ _ _ _ _ _ _ _ _ _ _ _ _ _ _ _ _ _ _ _ _ _ _ _ _ _ _ _ _ _ _ _ _ _ _ _ ((HkX.out.trans' hBX).trans' hk3)
      · go_simp
        go_at_call 23
        refine (hN2 _ (hTq _ hS)).mono ?_
        rintro e w96 ⟨rfl, hk⟩
        try dsimp only
        refine hK.out _ _ ?_ (fun hS => ?_)
        · exact since_keep hS (Nat.le_refl _) hk
        clear hK K
        try simp only [Act.put, List.getElem_toArray, List.getElem_cons_zero, List.getElem_cons_succ, List.setIfInBounds_toArray, List.set_cons_zero, List.set_cons_succ]
        have hqw96 := fun (o : Nat) => hk.cell (p := ⟨X.heap.size, o, none⟩) lrw92
        have lrw96 : X.heap.size < w96.heap.size := Nat.lt_of_lt_of_le lrw92 hk.size
        have ho10 : ops29[10]? = some (opAt ops29 10) := by kernel_rfl
        conv at ho10 => rhs; arg 1; whnf
        refine wpAnyH_ready (rs := [10]) (by kernel_rfl) (by simp) ?_
        refine (AllReadyH.cons ho10 (fun K hK => ?_) AllReadyH.nil)
        all_goals clear ho10
        go_simp
        try dsimp only
        refine hK.out _ _ ?_ (fun hS => ?_)
        · exact hS
        clear hK K
        try simp only [Act.put, List.getElem_toArray, List.getElem_cons_zero, List.getElem_cons_succ, List.setIfInBounds_toArray, List.set_cons_zero, List.set_cons_succ]
        have ho : ops29[11]? = some (opAt ops29 11) := by kernel_rfl
        conv at ho => rhs; arg 1; whnf
        refine wpAnyH_take (i := 11) (v := ?_) ho (by kernel_rfl) (by kernel_rfl) (by kernel_rfl) (fun _ _ _ h => h) (Or.inl ⟨by kernel_rfl, ?_⟩) hS ?_
        clear ho
        rotate_left
        · intro w' hS'
          have hq := hS'.1
          have hq2 := hS'.2
          clear hS'
          first | (go_simp; done) | (go_simp; with_reducible rfl)
        try clear ho
        try simp only [Act.put, List.getElem_toArray, List.getElem_cons_zero, List.getElem_cons_succ, List.setIfInBounds_toArray, List.set_cons_zero, List.set_cons_succ]
        have ho : ops29[12]? = some (opAt ops29 12) := by kernel_rfl
        conv at ho => rhs; arg 1; whnf
        refine wpAnyH_take (i := 12) (v := ?_) ho (by kernel_rfl) (by kernel_rfl) (by kernel_rfl) (fun _ _ _ h => h) (Or.inl ⟨by kernel_rfl, ?_⟩) hS ?_
        clear ho
        rotate_left
        · intro w' hS'
          have hq := hS'.1
          have hq2 := hS'.2
          clear hS'
          first | (go_simp; done) | (go_simp; with_reducible rfl)
        try clear ho
        try simp only [Act.put, List.getElem_toArray, List.getElem_cons_zero, List.getElem_cons_succ, List.setIfInBounds_toArray, List.set_cons_zero, List.set_cons_succ]
        have ho : ops29[17]? = some (opAt ops29 17) := by kernel_rfl
        conv at ho => rhs; arg 1; whnf
        refine wpAnyH_take (i := 17) (v := ?_) ho (by kernel_rfl) (by kernel_rfl) (by kernel_rfl) (fun _ _ _ h => h) (Or.inl ⟨by kernel_rfl, ?_⟩) hS ?_
        clear ho
        rotate_left
        · intro w' hS'
          have hq := hS'.1
          have hq2 := hS'.2
          clear hS'
          first | (go_simp; done) | (go_simp; with_reducible rfl)
        try clear ho
        try simp only [Act.put, List.getElem_toArray, List.getElem_cons_zero, List.getElem_cons_succ, List.setIfInBounds_toArray, List.set_cons_zero, List.set_cons_succ]
        have ho : ops29[18]? = some (opAt ops29 18) := by kernel_rfl
        conv at ho => rhs; arg 1; whnf
        refine wpAnyH_take (i := 18) (v := ?_) ho (by kernel_rfl) (by kernel_rfl) (by kernel_rfl) (fun _ _ _ h => h) (Or.inl ⟨by kernel_rfl, ?_⟩) hS ?_
        clear ho
        rotate_left
        · intro w' hS'
          have hq := hS'.1
          have hq2 := hS'.2
          clear hS'
          first | (go_simp; done) | (go_simp; with_reducible rfl)
        try clear ho
        try simp only [Act.put, List.getElem_toArray, List.getElem_cons_zero, List.getElem_cons_succ, List.setIfInBounds_toArray, List.set_cons_zero, List.set_cons_succ]
        have ho : ops29[19]? = some (opAt ops29 19) := by kernel_rfl
        conv at ho => rhs; arg 1; whnf
        refine wpAnyH_take (i := 19) (v := ?_) ho (by kernel_rfl) (by kernel_rfl) (by kernel_rfl) (fun _ _ _ h => h) (Or.inl ⟨by kernel_rfl, ?_⟩) hS ?_
        clear ho
        rotate_left
        · intro w' hS'
          have hq := hS'.1
          have hq2 := hS'.2
          clear hS'
          first | (go_simp; done) | (go_simp; with_reducible rfl)
        try clear ho
        try simp only [Act.put, List.getElem_toArray, List.getElem_cons_zero, List.getElem_cons_succ, List.setIfInBounds_toArray, List.set_cons_zero, List.set_cons_succ]
        refine wpAnyH_done (by kernel_rfl) ?_ _
        refine NoPanic.normal ?_
        rw [HT1.out]
        refine (show ∀ (a : Act) (w : World), Code.wp Tryd.prog _ _ a w → _ from by assumption) _ _ ?_
        have hBX := hS.2
        have hTX8 := hTX.kept hBX
        have hCX := hS.1
        have hw3 := Hw3.out
        go_wp2_with (go_at_call 23; refine (hN3 _ hTX8).mono ?_; rintro e3 w3 ⟨rfl, hk3⟩)
        rw [Hfin.out]
        exact HQ.out _ _ _ _ _ _ _ _ _ _ _ _ _ _ _ _ _ _ _ _ _ _ _ _ _ _ _ _ _ _ _ _ _ _ _ _ _ _ _ _ _ _ _ _ _ _ _ _ _ _ _ _ _ ((HkX.out.trans' hBX).trans' hk3)
    · go_simp
      try dsimp only
      refine hK.out _ _ ?_ (fun hS => ?_)
      · exact hS
      clear hK K
      try simp only [Act.put, List.getElem_toArray, List.getElem_cons_zero, List.getElem_cons_succ, List.setIfInBounds_toArray, List.set_cons_zero, List.set_cons_succ]
      have ho2 : ops29[2]? = some (opAt ops29 2) := by kernel_rfl
      conv at ho2 => rhs; arg 1; whnf
      refine wpAnyH_ready (rs := [2]) (by kernel_rfl) (by simp) ?_
      refine (AllReadyH.cons ho2 (fun K hK => ?_) AllReadyH.nil)
      all_goals clear ho2
      go_simp
      go_at_call 23
      refine (hN1 _ (hTq _ hS)).mono ?_
      rintro e w92 ⟨rfl, hk⟩
      try dsimp only
      refine hK.out _ _ ?_ (fun hS => ?_)
      · exact since_keep hS (Nat.le_refl _) hk
      clear hK K
      try simp only [Act.put, List.getElem_toArray, List.getElem_cons_zero, List.getElem_cons_succ, List.setIfInBounds_toArray, List.set_cons_zero, List.set_cons_succ]
      have hqw92 := fun (o : Nat) => hk.cell (p := ⟨X.heap.size, o, none⟩) (by first | exact Nat.lt_succ_self _ | (simp; done) | (simp [World.drew, World.alloc]; done))
      have lrw92 : X.heap.size < w92.heap.size := Nat.lt_of_lt_of_le (by first | exact Nat.lt_succ_self _ | (simp; done) | (simp [World.drew, World.alloc]; done)) hk.size
      have ho : ops29[3]? = some (opAt ops29 3) := by kernel_rfl
      conv at ho => rhs; arg 1; whnf
      refine wpAnyH_take (i := 3) (v := ?_) ho (by kernel_rfl) (by kernel_rfl) (by kernel_rfl) (fun _ _ _ h => h) (Or.inl ⟨by kernel_rfl, ?_⟩) hS ?_
      clear ho
      rotate_left
      · intro w' hS'
        have hq := hS'.1
        have hq2 := hS'.2
        clear hS'
        first | (go_simp; done) | (go_simp; with_reducible rfl)
      try clear ho
      try simp only [Act.put, List.getElem_toArray, List.getElem_cons_zero, List.getElem_cons_succ, List.setIfInBounds_toArray, List.set_cons_zero, List.set_cons_succ]
      have ho : ops29[4]? = some (opAt ops29 4) := by kernel_rfl
      conv at ho => rhs; arg 1; whnf
      refine wpAnyH_take (i := 4) (v := ?_) ho (by kernel_rfl) (by kernel_rfl) (by kernel_rfl) (fun _ _ _ h => h) (Or.inl ⟨by kernel_rfl, ?_⟩) hS ?_
      clear ho
      rotate_left
      · intro w' hS'
        have hq := hS'.1
        have hq2 := hS'.2
        clear hS'
        first | (go_simp; done) | (go_simp; with_reducible rfl)
      try clear ho
      try simp only [Act.put, List.getElem_toArray, List.getElem_cons_zero, List.getElem_cons_succ, List.setIfInBounds_toArray, List.set_cons_zero, List.set_cons_succ]
      have ho : ops29[11]? = some (opAt ops29 11) := by kernel_rfl
      conv at ho => rhs; arg 1; whnf
      refine wpAnyH_take (i := 11) (v := ?_) ho (by kernel_rfl) (by kernel_rfl) (by kernel_rfl) (fun _ _ _ h => h) (Or.inl ⟨by kernel_rfl, ?_⟩) hS ?_
      clear ho
      rotate_left
      · intro w' hS'
        have hq := hS'.1
        have hq2 := hS'.2
        clear hS'
        first | (go_simp; done) | (go_simp; with_reducible rfl)
      try clear ho
      try simp only [Act.put, List.getElem_toArray, List.getElem_cons_zero, List.getElem_cons_succ, List.setIfInBounds_toArray, List.set_cons_zero, List.set_cons_succ]
      have ho : ops29[12]? = some (opAt ops29 12) := by kernel_rfl
      conv at ho => rhs; arg 1; whnf
      refine wpAnyH_take (i := 12) (v := ?_) ho (by kernel_rfl) (by kernel_rfl) (by kernel_rfl) (fun _ _ _ h => h) (Or.inl ⟨by kernel_rfl, ?_⟩) hS ?_
      clear ho
      rotate_left
      · intro w' hS'
        have hq := hS'.1
        have hq2 := hS'.2
        clear hS'
        first | (go_simp; done) | (go_simp; with_reducible rfl)
      try clear ho
      try simp only [Act.put, List.getElem_toArray, List.getElem_cons_zero, List.getElem_cons_succ, List.setIfInBounds_toArray, List.set_cons_zero, List.set_cons_succ]
      have ho16 : ops29[16]? = some (opAt ops29 16) := by kernel_rfl
      conv at ho16 => rhs; arg 1; whnf
      refine wpAnyH_ready (rs := [16]) (by kernel_rfl) (by simp) ?_
      refine (AllReadyH.cons ho16 (fun K hK => ?_) AllReadyH.nil)
      all_goals clear ho16
      go_simp
      go_at_call 23
      refine (hN2 _ (hTq _ hS)).mono ?_
      rintro e w96 ⟨rfl, hk⟩
      try dsimp only
      refine hK.out _ _ ?_ (fun hS => ?_)
      · exact since_keep hS (Nat.le_refl _) hk
      clear hK K
      try simp only [Act.put, List.getElem_toArray, List.getElem_cons_zero, List.getElem_cons_succ, List.setIfInBounds_toArray, List.set_cons_zero, List.set_cons_succ]
      have hqw96 := fun (o : Nat) => hk.cell (p := ⟨X.heap.size, o, none⟩) lrw92
      have lrw96 : X.heap.size < w96.heap.size := Nat.lt_of_lt_of_le lrw92 hk.size
      have ho : ops29[17]? = some (opAt ops29 17) := by kernel_rfl
      conv at ho => rhs; arg 1; whnf
      refine wpAnyH_take (i := 17) (v := ?_) ho (by kernel_rfl) (by kernel_rfl) (by kernel_rfl) (fun _ _ _ h => h) (Or.inl ⟨by kernel_rfl, ?_⟩) hS ?_
      clear ho
      rotate_left
      · intro w' hS'
        have hq := hS'.1
        have hq2 := hS'.2
        clear hS'
        first | (go_simp; done) | (go_simp; with_reducible rfl)
      try clear ho
      try simp only [Act.put, List.getElem_toArray, List.getElem_cons_zero, List.getElem_cons_succ, List.setIfInBounds_toArray, List.set_cons_zero, List.set_cons_succ]
      have ho : ops29[18]? = some (opAt ops29 18) := by kernel_rfl
      conv at ho => rhs; arg 1; whnf
      refine wpAnyH_take (i := 18) (v := ?_) ho (by kernel_rfl) (by kernel_rfl) (by kernel_rfl) (fun _ _ _ h => h) (Or.inl ⟨by kernel_rfl, ?_⟩) hS ?_
      clear ho
      rotate_left
      · intro w' hS'
        have hq := hS'.1
        have hq2 := hS'.2
        clear hS'
        first | (go_simp; done) | (go_simp; with_reducible rfl)
      try clear ho
      try simp only [Act.put, List.getElem_toArray, List.getElem_cons_zero, List.getElem_cons_succ, List.setIfInBounds_toArray, List.set_cons_zero, List.set_cons_succ]
      have ho : ops29[19]? = some (opAt ops29 19) := by kernel_rfl
      conv at ho => rhs; arg 1; whnf
      refine wpAnyH_take (i := 19) (v := ?_) ho (by kernel_rfl) (by kernel_rfl) (by kernel_rfl) (fun _ _ _ h => h) (Or.inl ⟨by kernel_rfl, ?_⟩) hS ?_
      clear ho
      rotate_left
      · intro w' hS'
        have hq := hS'.1
        have hq2 := hS'.2
        clear hS'
        first | (go_simp; done) | (go_simp; with_reducible rfl)
      try clear ho
      try simp only [Act.put, List.getElem_toArray, List.getElem_cons_zero, List.getElem_cons_succ, List.setIfInBounds_toArray, List.set_cons_zero, List.set_cons_succ]
      refine wpAnyH_done (by kernel_rfl) ?_ _
      refine NoPanic.normal ?_
      rw [HT1.out]
      refine (show ∀ (a : Act) (w : World), Code.wp Tryd.prog _ _ a w → _ from by assumption) _ _ ?_
      have hBX := hS.2
      have hTX8 := hTX.kept hBX
      have hCX := hS.1
      have hw3 := Hw3.out
      go_wp2_with (go_at_call 23; refine (hN3 _ hTX8).mono ?_; rintro e3 w3 ⟨rfl, hk3⟩)
      rw [Hfin.out]
      exact HQ.out _ _ _ _ _ _ _ _ _ _ _ _ _ _ _ _ _ _ _ _ _ _ _ _ _ _ _ _ _ _ _ _ _ _ _ _ _ _ _ _ _ _ _ _ _ _ _ _ _ _ _ _ _ ((HkX.out.trans' hBX).trans' hk3)
end Go.Proofs.YtjgncofhobhjdaaDoor
