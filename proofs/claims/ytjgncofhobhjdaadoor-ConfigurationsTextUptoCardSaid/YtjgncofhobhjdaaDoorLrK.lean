/- The law Text: the line of a vendor's descriptor. Printed by gen_lr.py. -/
import Derived.Test.YtjgncofhobhjdaaDoorChecked
import Derived.Deep.RegionHeld3
import Derived.Deep.DrawnRows
import Derived.Deep.DeepCutAuto
import Derived.Deep.LoopGhost
import Derived.Outline
import Derived.Handy
import Derived.OwnWalk
import Derived.BigQuiet
import Derived.Test.YtjgncofhobhjdaaDoorLnK
import Derived.Test.YtjgncofhobhjdaaDoorN1
set_option linter.unusedVariables false
set_option linter.unusedSimpArgs false
set_option linter.unusedSectionVars false
namespace Go.Proofs.YtjgncofhobhjdaaDoor
open Go.RowKit
attribute [local go_sem ↓] Go.wp_at_zero Go.wp_at_succ

noncomputable def code21t : Code := (Tryd.f8.body.bind (findR 21)).getD .skip
set_option maxRecDepth 1000000 in
set_option maxHeartbeats 16000000 in
theorem ex_line {u0 u1 u2 u3 u5 u6 u9 u10 u11 u12 u13 u14 u15 u16 u17 u18 u19 u20 u21 u22 u23 u24 u25 u26 u27 u28 u29 u30 u31 u32 u33 u34 u35 u36 u37 u38 u39 u40 u41 u42 u43 u44 u45 u46 u47 u48 u49 u50 u51 u52 u53 u54 u55 u56 u57 u58 u59 u60 u61 u62 u63 u64 u65 u66 u67 u68 u69 u70 u71 u72 u73 u74 u75 u76 u77 u78 u79 u80 u81 u82 u83 u84 u85 u86 u87 u88 u89 u90 u91 u92 u93 u94 u95 u96 u97 u98 u99 u100 u101 u102 u103 u104 u105 u106 u107 u108 u109 u110 u111 u112 u113 u114 u115 u116 u117 u118 u119 u120 u121 u122 u123 u124 u125 u126 u127 u128 u129 u130 u131 u132 u133 u134 u135 u136 u137 u138 u139 u140 u141 u142 u143 u144 u145 u146 u147 u148 u149 u150 u151 u152 u153 u154 u155 u156 u157 u158 u159 u160 u161 u162 u163 u164 u165 u166 u167 u168 u169 u170 u171 u172 u173 u174 u175 u176 u177 u178 u179 u180 u181 u182 u183 u184 u185 u186 u187 u188 u189 u190 u191 u192 u193 u194 u195 u196 u197 u198 u199 u200 u201 u202 u203 u204 u205 u206 u207 u208 u209 u210 u211 u212 u213 u214 u215 : Value} {AT bx ox k e1 cX : Nat} {lb B1 : Int} {acc : List UInt8} {wr : World} (lA : AT < wr.heap.size) (a7 : wr.cell? ⟨AT, 7, none⟩ = some (.slice (some ⟨bx, ox, none⟩) e1 cX)) (hbx' : bx < wr.heap.size)
    (v0 : wr.cell? ⟨bx, ox + k, none⟩ = some (.int .u8 lb)) (v1 : wr.cell? ⟨bx, ox + (k + 1), none⟩ = some (.int .u8 B1)) (hl : u8k lb) (hB : u8k B1) (hke : k + 1 < e1) (he : e1 ≤ 100000) (hTp : Tabs wr) (hlen : acc.length ≤ 3000000)
    (Q : Exit → Act → World → Prop) (hQ : ∀ (s138 s139 s140 s141 s142 s143 s144 s145 s146 s147 s148 s149 s150 s151 s152 s153 s154 s155 s156 s157 s158 : Value) (w' : World), Kept wr w' → Q .normal ⟨#[u0, u1, u2, u3, .string (B8 (acc ++ (sXEx ++ Lib.itoa B1 ++ [32] ++ Lib.itoa lb ++ [10]))), u5, u6, .pointer (some ⟨AT, 0, none⟩), .int .i64 k, u9, u10, u11, u12, u13, u14, u15, u16, u17, u18, u19, u20, u21, u22, u23, u24, u25, u26, u27, u28, u29, u30, u31, u32, u33, u34, u35, u36, u37, u38, u39, u40, u41, u42, u43, u44, u45, u46, u47, u48, u49, u50, u51, u52, u53, u54, u55, u56, u57, u58, u59, u60, u61, u62, u63, u64, u65, u66, u67, u68, u69, u70, u71, u72, u73, u74, u75, u76, u77, u78, u79, u80, u81, u82, u83, u84, u85, u86, u87, u88, u89, u90, u91, u92, u93, u94, u95, u96, u97, u98, u99, u100, u101, u102, u103, u104, u105, u106, u107, u108, u109, u110, u111, u112, u113, u114, u115, u116, u117, u118, u119, u120, u121, u122, u123, u124, u125, u126, u127, u128, u129, u130, u131, u132, u133, u134, u135, u136, u137, s138, s139, s140, s141, s142, s143, s144, s145, s146, s147, s148, s149, s150, s151, s152, s153, s154, s155, s156, s157, s158, u159, u160, u161, u162, u163, u164, u165, u166, u167, u168, u169, u170, u171, u172, u173, u174, u175, u176, u177, u178, u179, u180, u181, u182, u183, u184, u185, u186, u187, u188, u189, u190, u191, u192, u193, u194, u195, u196, u197, u198, u199, u200, u201, u202, u203, u204, u205, u206, u207, u208, u209, u210, u211, u212, u213, u214, u215], []⟩ w') :
    Code.wp Tryd.prog (headC code21t) Q ⟨#[u0, u1, u2, u3, .string (B8 acc), u5, u6, .pointer (some ⟨AT, 0, none⟩), .int .i64 k, u9, u10, u11, u12, u13, u14, u15, u16, u17, u18, u19, u20, u21, u22, u23, u24, u25, u26, u27, u28, u29, u30, u31, u32, u33, u34, u35, u36, u37, u38, u39, u40, u41, u42, u43, u44, u45, u46, u47, u48, u49, u50, u51, u52, u53, u54, u55, u56, u57, u58, u59, u60, u61, u62, u63, u64, u65, u66, u67, u68, u69, u70, u71, u72, u73, u74, u75, u76, u77, u78, u79, u80, u81, u82, u83, u84, u85, u86, u87, u88, u89, u90, u91, u92, u93, u94, u95, u96, u97, u98, u99, u100, u101, u102, u103, u104, u105, u106, u107, u108, u109, u110, u111, u112, u113, u114, u115, u116, u117, u118, u119, u120, u121, u122, u123, u124, u125, u126, u127, u128, u129, u130, u131, u132, u133, u134, u135, u136, u137, u138, u139, u140, u141, u142, u143, u144, u145, u146, u147, u148, u149, u150, u151, u152, u153, u154, u155, u156, u157, u158, u159, u160, u161, u162, u163, u164, u165, u166, u167, u168, u169, u170, u171, u172, u173, u174, u175, u176, u177, u178, u179, u180, u181, u182, u183, u184, u185, u186, u187, u188, u189, u190, u191, u192, u193, u194, u195, u196, u197, u198, u199, u200, u201, u202, u203, u204, u205, u206, u207, u208, u209, u210, u211, u212, u213, u214, u215], []⟩ wr := by
  obtain ⟨l0, l1⟩ := hl
  obtain ⟨u0, u1⟩ := hB
  have HQ := hide hQ
  clear hQ
  obtain ⟨BT3, hBT3⟩ : ∃ BT3, B8 acc = BT3 := ⟨_, rfl⟩
  have yT3 : BT3.size ≤ 3000000 := by rw [← hBT3]; exact hlen
  rw [hBT3]
  have hk0 : (0 : Int) ≤ (k : Int) := by omega
  have hke0 : (k : Int) < (e1 : Int) := by omega
  have hwk1 : IntKind.i64.wrap ((k : Int) + 1) = ((k + 1 : Nat) : Int) := by rw [IntKind.wrap_i64]; omega
  have hk1 : (0 : Int) ≤ ((k + 1 : Nat) : Int) := by omega
  have hke2 : ((k + 1 : Nat) : Int) < (e1 : Int) := by omega
  have hk1' : (0 : Int) ≤ (k : Int) + 1 := by omega
  have hke2' : (k : Int) + 1 < (e1 : Int) := by omega
  obtain ⟨S7, hS7⟩ : ∃ S7, B8 (Lib.itoa B1) = S7 := ⟨_, rfl⟩
  obtain ⟨S8, hS8⟩ : ∃ S8, B8 (Lib.itoa lb) = S8 := ⟨_, rfl⟩
  have z7 : S7.size ≤ 30 := by rw [← hS7]; exact itoa_30w (n := B1) (by omega) (by omega)
  have z8 : S8.size ≤ 30 := by rw [← hS8]; exact itoa_30w (n := lb) (by omega) (by omega)
  have hTq : ∀ w', (∀ b o, b < wr.heap.size → w'.cell? ⟨b, o, none⟩ = wr.cell? ⟨b, o, none⟩) ∧ Below wr.heap.size wr w' → Tabs w' := fun w' h => hTp.kept h.2
  have hN7 := fun w' (h : Tabs w') => numberw_any B1 w' (by omega) (by omega) h
  have hN8 := fun w' (h : Tabs w') => numberw_any lb w' (by omega) (by omega) h
  rw [hS7] at hN7
  rw [hS8] at hN8
  have hstr : BT3 ++ ((⟨#[101, 120, 116, 114, 97, 32]⟩ : ByteArray) ++ S7 ++ (⟨#[32]⟩ : ByteArray) ++ S8 ++ (⟨#[10]⟩ : ByteArray)) = B8 (acc ++ (sXEx ++ Lib.itoa B1 ++ [32] ++ Lib.itoa lb ++ [10])) := by
    rw [show (⟨#[101, 120, 116, 114, 97, 32]⟩ : ByteArray) ++ S7 ++ (⟨#[32]⟩ : ByteArray) ++ S8 ++ (⟨#[10]⟩ : ByteArray) = B8 sXEx ++ S7 ++ B8 [32] ++ S8 ++ B8 [10] from rfl, ← hBT3, ← hS7, ← hS8]
    simp only [B8_app]
  have Hstr := hide hstr
  clear hS7 hS8 hBT3 hstr hlen he
  have g0 : ¬ 9223372036854775807 < 6 + S7.size := by omega
  have g1 : ¬ 9223372036854775807 < 6 + S7.size + 1 := by omega
  have g2 : ¬ 9223372036854775807 < 6 + S7.size + 1 + S8.size := by omega
  have g3 : ¬ 9223372036854775807 < 6 + S7.size + 1 + S8.size + 1 := by omega
  have g30 : ¬ 9223372036854775807 < BT3.size + (6 + S7.size + 1 + S8.size + 1) := by omega
  conv => arg 2; whnf
  refine wp_region_noPanic ?_
  go_region_held3 (fun w' => (∀ b o, b < wr.heap.size → w'.cell? ⟨b, o, none⟩ = wr.cell? ⟨b, o, none⟩) ∧ Below wr.heap.size wr w') (first | assumption | exact since_start | exact since_keep (by assumption) (Nat.le_refl _) hk) ((go_at_call 23; (first | refine (hN7 _ (hTq _ (by assumption))).mono ?_ | refine (hN8 _ (hTq _ (by assumption))).mono ?_); rintro e w6 ⟨rfl, hk⟩))
  have hk6 : Kept wr w6 := ((by assumption : (∀ b o, b < wr.heap.size → w6.cell? ⟨b, o, none⟩ = wr.cell? ⟨b, o, none⟩) ∧ Below wr.heap.size wr w6)).2
  refine NoPanic.normal ?_
  rw [Hstr.out]
  exact HQ.out _ _ _ _ _ _ _ _ _ _ _ _ _ _ _ _ _ _ _ _ _ _ hk6
end Go.Proofs.YtjgncofhobhjdaaDoor
