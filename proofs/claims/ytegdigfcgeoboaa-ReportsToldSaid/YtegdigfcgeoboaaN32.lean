/- The items of plain data: usages. -/
import Derived.Test.YtegdigfcgeoboaaChecked
import Derived.Deep.RegionHeld3
import Derived.Deep.DrawnRows
import Derived.Deep.DeepCutAuto
import Derived.Deep.LoopGhost
import Derived.Outline
import Derived.Handy
import Derived.OwnWalk
import Derived.BigQuiet
import Derived.Test.YtegdigfcgeoboaaN31
set_option linter.unusedVariables false
set_option linter.unusedSimpArgs false
set_option linter.unusedSectionVars false
/- The law's items of plain data: the end of a collection. Printed by gen_we.py. -/
namespace Go.Proofs.Ytegdigfcgeoboaa
open Go.RowKit
attribute [local go_sem ↓] Go.wp_at_zero Go.wp_at_succ

noncomputable def after33i : Code := (Try.f18.body.bind (afterQ 33)).getD .skip
set_option maxRecDepth 1000000 in
set_option maxHeartbeats 16000000 in
theorem p33 {u0 u3 u4 u10 u11 u12 u13 u14 u15 u16 u17 u18 u19 u20 u21 u22 u23 u24 u25 u26 u27 u28 u29 u30 u31 u32 u33 u34 u35 u36 u37 u38 u39 u40 u41 u42 u43 u44 u45 u46 u47 u48 u49 u50 u51 u52 u53 u54 u55 u56 u57 u58 u59 u60 u61 u62 u63 u64 u65 u66 u67 u68 u69 u70 u71 u72 u73 u74 u75 u76 u77 u78 u79 u80 u81 u82 u83 u84 u85 u86 u87 u88 u89 u90 u91 u92 u93 u94 u95 u96 u97 u98 u99 u100 u101 u102 u103 u104 u105 u106 u107 u108 u109 u110 u111 u112 u113 u114 u115 u116 u117 u118 u119 u120 u121 u122 u123 u124 u125 u126 u127 u128 u129 u130 u131 u132 u133 u134 u135 u136 u137 u138 u139 u140 u141 u142 u143 u144 u145 u146 u147 u148 u149 u150 u151 u152 u153 u154 u155 u156 u157 u158 u159 u160 u161 u162 u163 u164 u165 u166 u167 u168 u169 u170 u171 u172 u173 u174 u175 u176 u177 u178 u179 u180 u181 u182 u183 u184 u185 u186 u187 u188 u189 u190 u191 u192 u193 u194 u195 u196 u197 u198 u199 u200 u201 u202 u203 u204 u205 u206 u207 u208 u209 u210 u211 u212 u213 u214 u215 u216 u217 u218 u219 u220 u221 u222 u223 u224 u225 u226 u227 u228 u229 u230 u231 u232 u233 u234 u235 u236 u237 u238 u239 u240 u241 u242 u243 u244 u245 u246 u247 u248 u249 u250 u251 u252 u253 u254 u255 u256 u257 u258 : Value} {w W : World} {DB LB FB ba oa n cap m B BF i dd dfin : Nat} {nb : Bool} {way w3 w2 : Int} {v vl vg : Value} {outL fin : List It} {l g : Fd} {us : List Int} {f : PF} (hS : IS w W DB LB FB nb (some ⟨ba, oa, none⟩) n cap m B v vl vg outL l g us) (h7 : w.cell? ⟨ba, oa + i * 8 + 7, none⟩ = some (.int .u8 f.flags)) (hba : ba < w.heap.size) (hin : (i : Int) < (n : Int)) (hfl : u8k f.flags) (he : outL ++ i10 f dd = fin) (hd : d2 f dd = dfin) (hB : B + 1 ≤ BF) (hBF : BF ≤ 900) (hd6 : dd ≤ 6)
    (Q : Exit → Act → World → Prop) (K K2 : Act → World → Prop) (hK : ∀ a w', Code.wp Try.prog (restC code33i) (Exit.then K2 Q) a w' → K a w') (hK2 : ∀ a w', Code.wp Try.prog after33i Q a w' → K2 a w') (hQ : ∀ (s10 s11 s12 s13 s35 s36 s37 s38 s39 s40 s41 s42 s43 s44 s45 s46 s47 s48 s49 s50 s51 s52 s53 s54 s55 s56 s57 s58 s59 s60 s61 s62 s63 s64 s65 s66 s67 s68 s69 s70 s71 s72 s73 s74 s75 s76 s77 s78 s79 s80 s81 s82 s83 s84 s85 s86 s87 s88 s89 s90 s91 s92 s93 s94 s95 s96 s97 s98 s99 s100 s101 s102 s103 s104 s105 s106 s107 s108 s109 s110 s111 s112 s113 s114 s115 s116 s117 s118 s119 s120 s121 s122 s123 s124 s125 s126 s127 s128 s129 s130 s131 s132 s133 s134 s135 s136 s137 s138 s139 s140 s141 s142 s143 s144 s145 s146 s147 s148 s149 s150 s151 s152 s153 s154 s155 s156 s157 s158 s159 s160 s161 s162 s163 s164 s165 s166 s167 s168 s169 s170 s171 s172 s173 s174 s175 s176 s177 s178 s179 s180 s181 s182 s183 s184 s185 s186 s187 s188 s189 s190 s191 s192 s193 s194 s195 s196 s197 s198 s199 s200 s201 s202 s203 s204 s205 s206 s207 s208 s209 s210 s211 s212 s213 s214 s215 s216 s217 s218 s219 s220 s221 s222 s223 s224 s225 s226 s227 s228 s229 s230 s231 s232 s233 s234 s235 s236 s237 s238 s239 s240 s241 s242 s243 s244 s245 s246 s247 s248 s249 : Value) (v' : Value) (m' : Nat) (w' : World), IS w w' DB LB FB nb (some ⟨ba, oa, none⟩) n cap m' BF v' vg vg fin g g us → Q .normal ⟨#[u0, .int .u8 way, .pointer (some ⟨DB, 0, none⟩), u3, u4, v', .int .i64 (dfin : Int), .pointer (some ⟨LB, 0, none⟩), .int .i64 (i : Int), .pointer (some ⟨FB, 0, none⟩), s10, s11, s12, s13, u14, u15, u16, u17, u18, u19, u20, u21, u22, u23, u24, u25, u26, u27, u28, u29, u30, u31, u32, u33, u34, s35, s36, s37, s38, s39, s40, s41, s42, s43, s44, s45, s46, s47, s48, s49, s50, s51, s52, s53, s54, s55, s56, s57, s58, s59, s60, s61, s62, s63, s64, s65, s66, s67, s68, s69, s70, s71, s72, s73, s74, s75, s76, s77, s78, s79, s80, s81, s82, s83, s84, s85, s86, s87, s88, s89, s90, s91, s92, s93, s94, s95, s96, s97, s98, s99, s100, s101, s102, s103, s104, s105, s106, s107, s108, s109, s110, s111, s112, s113, s114, s115, s116, s117, s118, s119, s120, s121, s122, s123, s124, s125, s126, s127, s128, s129, s130, s131, s132, s133, s134, s135, s136, s137, s138, s139, s140, s141, s142, s143, s144, s145, s146, s147, s148, s149, s150, s151, s152, s153, s154, s155, s156, s157, s158, s159, s160, s161, s162, s163, s164, s165, s166, s167, s168, s169, s170, s171, s172, s173, s174, s175, s176, s177, s178, s179, s180, s181, s182, s183, s184, s185, s186, s187, s188, s189, s190, s191, s192, s193, s194, s195, s196, s197, s198, s199, s200, s201, s202, s203, s204, s205, s206, s207, s208, s209, s210, s211, s212, s213, s214, s215, s216, s217, s218, s219, s220, s221, s222, s223, s224, s225, s226, s227, s228, s229, s230, s231, s232, s233, s234, s235, s236, s237, s238, s239, s240, s241, s242, s243, s244, s245, s246, s247, s248, s249, u250, u251, u252, u253, u254, u255, u256, u257, u258], []⟩ w') :
    Code.wp Try.prog (headC code33i) (Exit.then K (Exit.then K2 Q)) ⟨#[u0, .int .u8 way, .pointer (some ⟨DB, 0, none⟩), u3, u4, v, .int .i64 (dd : Int), .pointer (some ⟨LB, 0, none⟩), .int .i64 (i : Int), .pointer (some ⟨FB, 0, none⟩), u10, u11, u12, u13, u14, u15, u16, u17, u18, u19, u20, u21, u22, u23, u24, u25, u26, u27, u28, u29, u30, u31, u32, u33, u34, u35, u36, u37, u38, u39, u40, u41, u42, u43, u44, u45, u46, u47, u48, u49, u50, u51, u52, u53, u54, u55, u56, u57, u58, u59, u60, u61, u62, u63, u64, u65, u66, u67, u68, u69, u70, u71, u72, u73, u74, u75, u76, u77, u78, u79, u80, u81, u82, u83, u84, u85, u86, u87, u88, u89, u90, u91, u92, u93, u94, u95, u96, u97, u98, u99, u100, u101, u102, u103, u104, u105, u106, u107, u108, u109, u110, u111, u112, u113, u114, u115, u116, u117, u118, u119, u120, u121, u122, u123, u124, u125, u126, u127, u128, u129, u130, u131, u132, u133, u134, u135, u136, u137, u138, u139, u140, u141, u142, u143, u144, u145, u146, u147, u148, u149, u150, u151, u152, u153, u154, u155, u156, u157, u158, u159, u160, u161, u162, u163, u164, u165, u166, u167, u168, u169, u170, u171, u172, u173, u174, u175, u176, u177, u178, u179, u180, u181, u182, u183, u184, u185, u186, u187, u188, u189, u190, u191, u192, u193, u194, u195, u196, u197, u198, u199, u200, u201, u202, u203, u204, u205, u206, u207, u208, u209, u210, u211, u212, u213, u214, u215, u216, u217, u218, u219, u220, u221, u222, u223, u224, u225, u226, u227, u228, u229, u230, u231, u232, u233, u234, u235, u236, u237, u238, u239, u240, u241, u242, u243, u244, u245, u246, u247, u248, u249, u250, u251, u252, u253, u254, u255, u256, u257, u258], []⟩ W := by
  have hk0 := hS.kept
  obtain ⟨i29, hi29, hz0, hz1, hz2⟩ := info_parts info29
  have HS := hide hS
  have HQ := hide hQ
  have hkc : Kept W W := Below.refl _ _
  have hmb := hS.bnd
  obtain ⟨y0, hy0⟩ : ∃ y, itemS 0 12 0 false = y := ⟨_, rfl⟩
  have hit0 := item17n 0 12 0 false (by decide) y0 hy0
  have hyok : ∀ x ∈ [y0], x.ok := by
    intro x hx
    simp only [List.mem_cons, List.not_mem_nil, or_false] at hx
    rcases hx with rfl
    · rw [← hy0]; exact (itemS_ok (by omega) (by omega)).2
  have Hy0 := hide hy0
  clear hy0
  have hD := hS.dbox
  have h7W := (hk0.cell (p := ⟨ba, oa + i * 8 + 7, none⟩) hba).trans h7
  have hbaW := Nat.lt_of_lt_of_le hba hk0.size
  clear hS hQ
  conv => arg 2; whnf
  conv at hK => enter [a, w', 1, 2]; whnf
  conv at hK2 => enter [a, w', 1, 2]; whnf
  refine ask_33 hD h7W hbaW hin hfl _ ?_
  intro s231 s232 s233 s234 s235 s236 s237 s238 s239 s240 s241
  clear hD h7W hbaW
  cases hb : endsB f dd with
  | true =>
    unfold i10 at he
    unfold d2 at hd
    rw [hb] at he hd
    simp only [if_true] at he hd
    have hdd : 1 < dd := by
      unfold endsB at hb
      simp only [Bool.and_eq_true, decide_eq_true_eq] at hb
      exact hb.2
    have hwd : IntKind.i64.wrap ((dd : Int) - 1) = (dfin : Int) := by rw [IntKind.wrap_i64]; omega
    go_upto_region 36 with (first
      | (go_at_call 17; refine (hit0 _).mono ?_; rintro e w5 ⟨rfl, hkq0⟩; replace hkc := hkc.trans' hkq0; try dsimp only)
      | (at_builtin; refine wpList_append_sl (T := itT) rfl (.tmp 243) (.tmp 245) 22 rfl w.heap.size 29 i29 _ 24 Try.underlying22 hi29 hz0 hz1 hz2 rfl (by decide) _ m outL (by rfl) ((HS.out.ownm.kept hkc).alloc _) (some ⟨_, 0, none⟩) 1 1 [y0] (by rfl) (by exact sl_it_heap (heap_at _ rfl) rfl hyok ⟨by simp, fun e => by have h9 := ((HS.out.ownm.kept hkc).lt e).2; omega⟩) (by_one29 _ _) (by unfold maxLen; omega) (by omega) (by have h9 := HS.out.kept.size; have h8 := hkc.size; simp; omega) ?_; intro v9 w9 hown9 hg9 hb9 hat9))
    refine p36 (f := f) (w2 := w2) (w3 := w3) (dd := dd) (((HS.out.keep hkc).keep ((Below.refl _ _).alloc (Nat.le_refl _) _)).grow hg9 hb9 hown9) (by rw [← he]; unfold endI; rw [Hy0.out]) (by simp only [List.length_cons, List.length_nil]; omega) _ HQ.out
  | false =>
    unfold i10 at he
    unfold d2 at hd
    rw [hb] at he hd
    simp only [Bool.false_eq_true, if_false] at he hd
    subst hd
    go_upto_region 36 with fail
    refine p36 (f := f) (w2 := w2) (w3 := w3) (dd := dd) HS.out (by rw [← he]; simp) (by omega) _ HQ.out
end Go.Proofs.Ytegdigfcgeoboaa
/- The law's items of plain data: the main item. Printed by gen_we.py. -/
namespace Go.Proofs.Ytegdigfcgeoboaa
open Go.RowKit
attribute [local go_sem ↓] Go.wp_at_zero Go.wp_at_succ

noncomputable def code31i : Code := (Try.f18.body.bind (findQ 31)).getD .skip
set_option maxRecDepth 1000000 in
set_option maxHeartbeats 16000000 in
theorem tag_31 {u0 u1 u2 u3 u4 u5 u6 u7 u8 u10 u11 u12 u13 u14 u15 u16 u17 u18 u19 u20 u21 u22 u23 u24 u25 u26 u27 u28 u29 u30 u31 u32 u33 u34 u35 u36 u37 u38 u39 u40 u41 u42 u43 u44 u45 u46 u47 u48 u49 u50 u51 u52 u53 u54 u55 u56 u57 u58 u59 u60 u61 u62 u63 u64 u65 u66 u67 u68 u69 u70 u71 u72 u73 u74 u75 u76 u77 u78 u79 u80 u81 u82 u83 u84 u85 u86 u87 u88 u89 u90 u91 u92 u93 u94 u95 u96 u97 u98 u99 u100 u101 u102 u103 u104 u105 u106 u107 u108 u109 u110 u111 u112 u113 u114 u115 u116 u117 u118 u119 u120 u121 u122 u123 u124 u125 u126 u127 u128 u129 u130 u131 u132 u133 u134 u135 u136 u137 u138 u139 u140 u141 u142 u143 u144 u145 u146 u147 u148 u149 u150 u151 u152 u153 u154 u155 u156 u157 u158 u159 u160 u161 u162 u163 u164 u165 u166 u167 u168 u169 u170 u171 u172 u173 u174 u175 u176 u177 u178 u179 u180 u181 u182 u183 u184 u185 u186 u187 u188 u189 u190 u191 u192 u193 u194 u195 u196 u197 u198 u199 u200 u201 u202 u203 u204 u205 u206 u207 u208 u209 u210 u211 u212 u213 u214 u215 u216 u217 u218 u219 u220 u221 u222 u223 u224 u225 u226 u227 u228 u229 u230 u231 u232 u233 u234 u235 u236 u237 u238 u239 u240 u241 u242 u243 u244 u245 u246 u247 u248 u249 u250 u251 u252 u253 u254 u255 u256 u257 u258 : Value} {W : World} {FB : Nat} {kd : Int} (h0 : W.cell? ⟨FB, 0, none⟩ = some (.int .u8 kd)) (lF : FB < W.heap.size) (hk : kd = 1 ∨ kd = 2 ∨ kd = 3)
    (Q : Exit → Act → World → Prop) (hQ : ∀ (s211 s212 s213 s214 s215 s216 s217 : Value) (W' : World), Kept W W' → Q .normal ⟨#[u0, u1, u2, u3, u4, u5, u6, u7, u8, .pointer (some ⟨FB, 0, none⟩), u10, u11, u12, .int .u8 (tagF kd), u14, u15, u16, u17, u18, u19, u20, u21, u22, u23, u24, u25, u26, u27, u28, u29, u30, u31, u32, u33, u34, u35, u36, u37, u38, u39, u40, u41, u42, u43, u44, u45, u46, u47, u48, u49, u50, u51, u52, u53, u54, u55, u56, u57, u58, u59, u60, u61, u62, u63, u64, u65, u66, u67, u68, u69, u70, u71, u72, u73, u74, u75, u76, u77, u78, u79, u80, u81, u82, u83, u84, u85, u86, u87, u88, u89, u90, u91, u92, u93, u94, u95, u96, u97, u98, u99, u100, u101, u102, u103, u104, u105, u106, u107, u108, u109, u110, u111, u112, u113, u114, u115, u116, u117, u118, u119, u120, u121, u122, u123, u124, u125, u126, u127, u128, u129, u130, u131, u132, u133, u134, u135, u136, u137, u138, u139, u140, u141, u142, u143, u144, u145, u146, u147, u148, u149, u150, u151, u152, u153, u154, u155, u156, u157, u158, u159, u160, u161, u162, u163, u164, u165, u166, u167, u168, u169, u170, u171, u172, u173, u174, u175, u176, u177, u178, u179, u180, u181, u182, u183, u184, u185, u186, u187, u188, u189, u190, u191, u192, u193, u194, u195, u196, u197, u198, u199, u200, u201, u202, u203, u204, u205, u206, u207, u208, u209, u210, s211, s212, s213, s214, s215, s216, s217, u218, u219, u220, u221, u222, u223, u224, u225, u226, u227, u228, u229, u230, u231, u232, u233, u234, u235, u236, u237, u238, u239, u240, u241, u242, u243, u244, u245, u246, u247, u248, u249, u250, u251, u252, u253, u254, u255, u256, u257, u258], []⟩ W') :
    Code.wp Try.prog (headC code31i) Q ⟨#[u0, u1, u2, u3, u4, u5, u6, u7, u8, .pointer (some ⟨FB, 0, none⟩), u10, u11, u12, u13, u14, u15, u16, u17, u18, u19, u20, u21, u22, u23, u24, u25, u26, u27, u28, u29, u30, u31, u32, u33, u34, u35, u36, u37, u38, u39, u40, u41, u42, u43, u44, u45, u46, u47, u48, u49, u50, u51, u52, u53, u54, u55, u56, u57, u58, u59, u60, u61, u62, u63, u64, u65, u66, u67, u68, u69, u70, u71, u72, u73, u74, u75, u76, u77, u78, u79, u80, u81, u82, u83, u84, u85, u86, u87, u88, u89, u90, u91, u92, u93, u94, u95, u96, u97, u98, u99, u100, u101, u102, u103, u104, u105, u106, u107, u108, u109, u110, u111, u112, u113, u114, u115, u116, u117, u118, u119, u120, u121, u122, u123, u124, u125, u126, u127, u128, u129, u130, u131, u132, u133, u134, u135, u136, u137, u138, u139, u140, u141, u142, u143, u144, u145, u146, u147, u148, u149, u150, u151, u152, u153, u154, u155, u156, u157, u158, u159, u160, u161, u162, u163, u164, u165, u166, u167, u168, u169, u170, u171, u172, u173, u174, u175, u176, u177, u178, u179, u180, u181, u182, u183, u184, u185, u186, u187, u188, u189, u190, u191, u192, u193, u194, u195, u196, u197, u198, u199, u200, u201, u202, u203, u204, u205, u206, u207, u208, u209, u210, u211, u212, u213, u214, u215, u216, u217, u218, u219, u220, u221, u222, u223, u224, u225, u226, u227, u228, u229, u230, u231, u232, u233, u234, u235, u236, u237, u238, u239, u240, u241, u242, u243, u244, u245, u246, u247, u248, u249, u250, u251, u252, u253, u254, u255, u256, u257, u258], []⟩ W := by
  have HQ := hide hQ
  clear hQ
  conv => arg 2; whnf
  rcases hk with rfl | rfl | rfl
  · rw [show tagF 1 = 8 from rfl] at HQ
    go_wp2_with fail
    exact HQ.out _ _ _ _ _ _ _ _  (by go_grown)
  · rw [show tagF 2 = 9 from rfl] at HQ
    go_wp2_with fail
    exact HQ.out _ _ _ _ _ _ _ _  (by go_grown)
  · rw [show tagF 3 = 11 from rfl] at HQ
    go_wp2_with fail
    exact HQ.out _ _ _ _ _ _ _ _  (by go_grown)
set_option maxRecDepth 1000000 in
set_option maxHeartbeats 16000000 in
theorem p31 {u0 u3 u4 u10 u11 u12 u13 u14 u15 u16 u17 u18 u19 u20 u21 u22 u23 u24 u25 u26 u27 u28 u29 u30 u31 u32 u33 u34 u35 u36 u37 u38 u39 u40 u41 u42 u43 u44 u45 u46 u47 u48 u49 u50 u51 u52 u53 u54 u55 u56 u57 u58 u59 u60 u61 u62 u63 u64 u65 u66 u67 u68 u69 u70 u71 u72 u73 u74 u75 u76 u77 u78 u79 u80 u81 u82 u83 u84 u85 u86 u87 u88 u89 u90 u91 u92 u93 u94 u95 u96 u97 u98 u99 u100 u101 u102 u103 u104 u105 u106 u107 u108 u109 u110 u111 u112 u113 u114 u115 u116 u117 u118 u119 u120 u121 u122 u123 u124 u125 u126 u127 u128 u129 u130 u131 u132 u133 u134 u135 u136 u137 u138 u139 u140 u141 u142 u143 u144 u145 u146 u147 u148 u149 u150 u151 u152 u153 u154 u155 u156 u157 u158 u159 u160 u161 u162 u163 u164 u165 u166 u167 u168 u169 u170 u171 u172 u173 u174 u175 u176 u177 u178 u179 u180 u181 u182 u183 u184 u185 u186 u187 u188 u189 u190 u191 u192 u193 u194 u195 u196 u197 u198 u199 u200 u201 u202 u203 u204 u205 u206 u207 u208 u209 u210 u211 u212 u213 u214 u215 u216 u217 u218 u219 u220 u221 u222 u223 u224 u225 u226 u227 u228 u229 u230 u231 u232 u233 u234 u235 u236 u237 u238 u239 u240 u241 u242 u243 u244 u245 u246 u247 u248 u249 u250 u251 u252 u253 u254 u255 u256 u257 u258 : Value} {w W : World} {DB LB FB ba oa n cap m B BF i dd dfin : Nat} {nb : Bool} {way w3 w2 : Int} {v vl vg : Value} {outL fin : List It} {l g : Fd} {us : List Int} {f : PF} (hS : IS w W DB LB FB nb (some ⟨ba, oa, none⟩) n cap m B v vl vg outL l g us) (h7 : w.cell? ⟨ba, oa + i * 8 + 7, none⟩ = some (.int .u8 f.flags)) (hba : ba < w.heap.size) (hin : (i : Int) < (n : Int)) (hfl : u8k f.flags) (hkd : g.kind = 1 ∨ g.kind = 2 ∨ g.kind = 3) (he : outL ++ (i9 f g ++ i10 f dd) = fin) (hd : d2 f dd = dfin) (hB : B + 2 ≤ BF) (hBF : BF ≤ 900) (hd6 : dd ≤ 6)
    (Q : Exit → Act → World → Prop) (K : Act → World → Prop) (hK : ∀ a w', Code.wp Try.prog (restC code31i) Q a w' → K a w') (hQ : ∀ (s10 s11 s12 s13 s35 s36 s37 s38 s39 s40 s41 s42 s43 s44 s45 s46 s47 s48 s49 s50 s51 s52 s53 s54 s55 s56 s57 s58 s59 s60 s61 s62 s63 s64 s65 s66 s67 s68 s69 s70 s71 s72 s73 s74 s75 s76 s77 s78 s79 s80 s81 s82 s83 s84 s85 s86 s87 s88 s89 s90 s91 s92 s93 s94 s95 s96 s97 s98 s99 s100 s101 s102 s103 s104 s105 s106 s107 s108 s109 s110 s111 s112 s113 s114 s115 s116 s117 s118 s119 s120 s121 s122 s123 s124 s125 s126 s127 s128 s129 s130 s131 s132 s133 s134 s135 s136 s137 s138 s139 s140 s141 s142 s143 s144 s145 s146 s147 s148 s149 s150 s151 s152 s153 s154 s155 s156 s157 s158 s159 s160 s161 s162 s163 s164 s165 s166 s167 s168 s169 s170 s171 s172 s173 s174 s175 s176 s177 s178 s179 s180 s181 s182 s183 s184 s185 s186 s187 s188 s189 s190 s191 s192 s193 s194 s195 s196 s197 s198 s199 s200 s201 s202 s203 s204 s205 s206 s207 s208 s209 s210 s211 s212 s213 s214 s215 s216 s217 s218 s219 s220 s221 s222 s223 s224 s225 s226 s227 s228 s229 s230 s231 s232 s233 s234 s235 s236 s237 s238 s239 s240 s241 s242 s243 s244 s245 s246 s247 s248 s249 : Value) (v' : Value) (m' : Nat) (w' : World), IS w w' DB LB FB nb (some ⟨ba, oa, none⟩) n cap m' BF v' vg vg fin g g us → Q .normal ⟨#[u0, .int .u8 way, .pointer (some ⟨DB, 0, none⟩), u3, u4, v', .int .i64 (dfin : Int), .pointer (some ⟨LB, 0, none⟩), .int .i64 (i : Int), .pointer (some ⟨FB, 0, none⟩), s10, s11, s12, s13, u14, u15, u16, u17, u18, u19, u20, u21, u22, u23, u24, u25, u26, u27, u28, u29, u30, u31, u32, u33, u34, s35, s36, s37, s38, s39, s40, s41, s42, s43, s44, s45, s46, s47, s48, s49, s50, s51, s52, s53, s54, s55, s56, s57, s58, s59, s60, s61, s62, s63, s64, s65, s66, s67, s68, s69, s70, s71, s72, s73, s74, s75, s76, s77, s78, s79, s80, s81, s82, s83, s84, s85, s86, s87, s88, s89, s90, s91, s92, s93, s94, s95, s96, s97, s98, s99, s100, s101, s102, s103, s104, s105, s106, s107, s108, s109, s110, s111, s112, s113, s114, s115, s116, s117, s118, s119, s120, s121, s122, s123, s124, s125, s126, s127, s128, s129, s130, s131, s132, s133, s134, s135, s136, s137, s138, s139, s140, s141, s142, s143, s144, s145, s146, s147, s148, s149, s150, s151, s152, s153, s154, s155, s156, s157, s158, s159, s160, s161, s162, s163, s164, s165, s166, s167, s168, s169, s170, s171, s172, s173, s174, s175, s176, s177, s178, s179, s180, s181, s182, s183, s184, s185, s186, s187, s188, s189, s190, s191, s192, s193, s194, s195, s196, s197, s198, s199, s200, s201, s202, s203, s204, s205, s206, s207, s208, s209, s210, s211, s212, s213, s214, s215, s216, s217, s218, s219, s220, s221, s222, s223, s224, s225, s226, s227, s228, s229, s230, s231, s232, s233, s234, s235, s236, s237, s238, s239, s240, s241, s242, s243, s244, s245, s246, s247, s248, s249, u250, u251, u252, u253, u254, u255, u256, u257, u258], []⟩ w') :
    Code.wp Try.prog (headC code31i) (Exit.then K Q) ⟨#[u0, .int .u8 way, .pointer (some ⟨DB, 0, none⟩), u3, u4, v, .int .i64 (dd : Int), .pointer (some ⟨LB, 0, none⟩), .int .i64 (i : Int), .pointer (some ⟨FB, 0, none⟩), u10, u11, u12, u13, u14, u15, u16, u17, u18, u19, u20, u21, u22, u23, u24, u25, u26, u27, u28, u29, u30, u31, u32, u33, u34, u35, u36, u37, u38, u39, u40, u41, u42, u43, u44, u45, u46, u47, u48, u49, u50, u51, u52, u53, u54, u55, u56, u57, u58, u59, u60, u61, u62, u63, u64, u65, u66, u67, u68, u69, u70, u71, u72, u73, u74, u75, u76, u77, u78, u79, u80, u81, u82, u83, u84, u85, u86, u87, u88, u89, u90, u91, u92, u93, u94, u95, u96, u97, u98, u99, u100, u101, u102, u103, u104, u105, u106, u107, u108, u109, u110, u111, u112, u113, u114, u115, u116, u117, u118, u119, u120, u121, u122, u123, u124, u125, u126, u127, u128, u129, u130, u131, u132, u133, u134, u135, u136, u137, u138, u139, u140, u141, u142, u143, u144, u145, u146, u147, u148, u149, u150, u151, u152, u153, u154, u155, u156, u157, u158, u159, u160, u161, u162, u163, u164, u165, u166, u167, u168, u169, u170, u171, u172, u173, u174, u175, u176, u177, u178, u179, u180, u181, u182, u183, u184, u185, u186, u187, u188, u189, u190, u191, u192, u193, u194, u195, u196, u197, u198, u199, u200, u201, u202, u203, u204, u205, u206, u207, u208, u209, u210, u211, u212, u213, u214, u215, u216, u217, u218, u219, u220, u221, u222, u223, u224, u225, u226, u227, u228, u229, u230, u231, u232, u233, u234, u235, u236, u237, u238, u239, u240, u241, u242, u243, u244, u245, u246, u247, u248, u249, u250, u251, u252, u253, u254, u255, u256, u257, u258], []⟩ W := by
  have hk0 := hS.kept
  obtain ⟨tg, htg⟩ : ∃ tg, tagF g.kind = tg := ⟨_, rfl⟩
  have htg15 : 0 ≤ tg ∧ tg ≤ 15 := by rw [← htg]; unfold tagF; split <;> (try split) <;> omega
  obtain ⟨fl7, hf7⟩ : ∃ z, f.flags % 8 = z := ⟨_, rfl⟩
  have hfl8 := hfl
  obtain ⟨z0, z1⟩ := hfl8
  have hb7 : bits .and .u8 f.flags 7 = fl7 := by rw [bits7 hfl]; exact hf7
  have hw7 : IntKind.i64.wrap fl7 = fl7 := by rw [IntKind.wrap_i64]; omega
  have hi9 : i9 f g = [itemS 0 tg fl7 false] := by unfold i9; rw [htg, hf7]
  obtain ⟨i29, hi29, hz0, hz1, hz2⟩ := info_parts info29
  have HS := hide hS
  have HQ := hide hQ
  have hkc : Kept W W := Below.refl _ _
  have hmb := hS.bnd
  obtain ⟨y0, hy0⟩ : ∃ y, itemS 0 tg fl7 false = y := ⟨_, rfl⟩
  have hit0 := item17n 0 tg fl7 false (show 0 ≤ fl7 ∧ fl7 < 4294967296 by omega) y0 hy0
  have hyok : ∀ x ∈ [y0], x.ok := by
    intro x hx
    simp only [List.mem_cons, List.not_mem_nil, or_false] at hx
    rcases hx with rfl
    · rw [← hy0]; exact (itemS_ok (by omega) (by omega)).2
  have Hy0 := hide hy0
  clear hy0
  have hL0 : W.cell? ⟨FB, 0, none⟩ = some (.int .u8 g.kind) := cell_heap hS.fbox (o := 0) rfl
  have lF := heap_lt hS.fbox
  have Hi9 := hide hi9
  have Htg := hide htg
  have He := hide he
  clear hS hQ hf7 hi9 htg he
  conv => arg 2; whnf
  conv at hK => enter [a, w', 1, 2]; whnf
  refine tag_31 hL0 lF hkd _ ?_
  intro s211 s212 s213 s214 s215 s216 s217 W1 hk1
  rw [Htg.out]
  have hd1 := (HS.out.keep hk1).dbox
  have d1 : W1.cell? ⟨DB, 1, none⟩ = some (.slice (some ⟨ba, oa, none⟩) n cap) := cell_heap hd1 (o := 1) rfl
  have lD := heap_lt hd1
  have h7W := ((hk0.trans' hk1).cell (p := ⟨ba, oa + i * 8 + 7, none⟩) hba).trans h7
  have hbaW := Nat.lt_of_lt_of_le hba (hk0.trans' hk1).size
  have hi0 : (0 : Int) ≤ (i : Int) := by omega
  replace hkc := hk1
  clear hL0 lF hd1 hk1
  go_upto_region 33 with (first
      | (go_at_call 17; refine (hit0 _).mono ?_; rintro e w5 ⟨rfl, hkq0⟩; replace hkc := hkc.trans' hkq0; try dsimp only)
      | (at_builtin; refine wpList_append_sl (T := itT) rfl (.tmp 218) (.tmp 229) 22 rfl w.heap.size 29 i29 _ 24 Try.underlying22 hi29 hz0 hz1 hz2 rfl (by decide) _ m outL (by rfl) ((HS.out.ownm.kept hkc).alloc _) (some ⟨_, 0, none⟩) 1 1 [y0] (by rfl) (by exact sl_it_heap (heap_at _ rfl) rfl hyok ⟨by simp, fun e => by have h9 := ((HS.out.ownm.kept hkc).lt e).2; omega⟩) (by_one29 _ _) (by unfold maxLen; omega) (by omega) (by have h9 := HS.out.kept.size; have h8 := hkc.size; simp; omega) ?_; intro v9 w9 hown9 hg9 hb9 hat9))
  refine p33 (f := f) (w2 := w2) (w3 := w3) (((HS.out.keep hkc).keep ((Below.refl _ _).alloc (Nat.le_refl _) _)).grow hg9 hb9 hown9) h7 hba hin hfl (by rw [← He.out, Hi9.out, Hy0.out, List.append_assoc]) hd (by simp only [List.length_cons, List.length_nil]; omega) hBF hd6 _ _ _ ?_ ?_ HQ.out <;> assumption
end Go.Proofs.Ytegdigfcgeoboaa
/- The law's items of plain data: usages. Printed by gen_we.py. -/
namespace Go.Proofs.Ytegdigfcgeoboaa
open Go.RowKit
attribute [local go_sem ↓] Go.wp_at_zero Go.wp_at_succ

noncomputable def code25i : Code := (Try.f18.body.bind (findQ 25)).getD .skip
noncomputable def after25i : Code := (Try.f18.body.bind (afterQ 25)).getD .skip
set_option maxRecDepth 1000000 in
set_option maxHeartbeats 16000000 in
theorem p25 {u0 u3 u4 u12 u13 u14 u15 u16 u17 u18 u19 u20 u21 u22 u23 u24 u25 u26 u27 u28 u29 u30 u31 u32 u33 u34 u35 u36 u37 u38 u39 u40 u41 u42 u43 u44 u45 u46 u47 u48 u49 u50 u51 u52 u53 u54 u55 u56 u57 u58 u59 u60 u61 u62 u63 u64 u65 u66 u67 u68 u69 u70 u71 u72 u73 u74 u75 u76 u77 u78 u79 u80 u81 u82 u83 u84 u85 u86 u87 u88 u89 u90 u91 u92 u93 u94 u95 u96 u97 u98 u99 u100 u101 u102 u103 u104 u105 u106 u107 u108 u109 u110 u111 u112 u113 u114 u115 u116 u117 u118 u119 u120 u121 u122 u123 u124 u125 u126 u127 u128 u129 u130 u131 u132 u133 u134 u135 u136 u137 u138 u139 u140 u141 u142 u143 u144 u145 u146 u147 u148 u149 u150 u151 u152 u153 u154 u155 u156 u157 u158 u159 u160 u161 u162 u163 u164 u165 u166 u167 u168 u169 u170 u171 u172 u173 u174 u175 u176 u177 u178 u179 u180 u181 u182 u183 u184 u185 u186 u187 u188 u189 u190 u191 u192 u193 u194 u195 u196 u197 u198 u199 u200 u201 u202 u203 u204 u205 u206 u207 u208 u209 u210 u211 u212 u213 u214 u215 u216 u217 u218 u219 u220 u221 u222 u223 u224 u225 u226 u227 u228 u229 u230 u231 u232 u233 u234 u235 u236 u237 u238 u239 u240 u241 u242 u243 u244 u245 u246 u247 u248 u249 u250 u251 u252 u253 u254 u255 u256 u257 u258 : Value} {w W : World} {DB LB FB ba oa n cap m B BF i dd dfin : Nat} {nb : Bool} {way w3 w2 : Int} {mm : Nat} {fi : Int} {v vl vg : Value} {outL fin : List It} {l g : Fd} {us : List Int} {f : PF} (hS : IS w W DB LB FB nb (some ⟨ba, oa, none⟩) n cap m B v vl vg outL l g us) (h7 : w.cell? ⟨ba, oa + i * 8 + 7, none⟩ = some (.int .u8 f.flags)) (hba : ba < w.heap.size) (hin : (i : Int) < (n : Int)) (hfl : u8k f.flags) (hkd : g.kind = 1 ∨ g.kind = 2 ∨ g.kind = 3) (hfi : 0 ≤ fi ∧ fi < 256) (hmm : mm ≤ 5) (hus : usesI w2 f = if w2 = 0 then [itemS 2 1 fi false, itemS 2 2 (fi + (mm : Int)) false] else (List.range (mm + 1)).map fun (k : Nat) => itemS 2 0 (fi + (k : Int)) false) (hw : (way.tdiv 3).tmod 2 = w2) (hway : u8k way) (he : outL ++ (usesI w2 f ++ (i9 f g ++ i10 f dd)) = fin) (hd : d2 f dd = dfin) (hB : B + 8 ≤ BF) (hBF : BF ≤ 900) (hd6 : dd ≤ 6)
    (Q : Exit → Act → World → Prop) (K K2 : Act → World → Prop) (hK : ∀ a w', Code.wp Try.prog (restC code25i) (Exit.then K2 Q) a w' → K a w') (hK2 : ∀ a w', Code.wp Try.prog after25i Q a w' → K2 a w') (hQ : ∀ (s10 s11 s12 s13 s35 s36 s37 s38 s39 s40 s41 s42 s43 s44 s45 s46 s47 s48 s49 s50 s51 s52 s53 s54 s55 s56 s57 s58 s59 s60 s61 s62 s63 s64 s65 s66 s67 s68 s69 s70 s71 s72 s73 s74 s75 s76 s77 s78 s79 s80 s81 s82 s83 s84 s85 s86 s87 s88 s89 s90 s91 s92 s93 s94 s95 s96 s97 s98 s99 s100 s101 s102 s103 s104 s105 s106 s107 s108 s109 s110 s111 s112 s113 s114 s115 s116 s117 s118 s119 s120 s121 s122 s123 s124 s125 s126 s127 s128 s129 s130 s131 s132 s133 s134 s135 s136 s137 s138 s139 s140 s141 s142 s143 s144 s145 s146 s147 s148 s149 s150 s151 s152 s153 s154 s155 s156 s157 s158 s159 s160 s161 s162 s163 s164 s165 s166 s167 s168 s169 s170 s171 s172 s173 s174 s175 s176 s177 s178 s179 s180 s181 s182 s183 s184 s185 s186 s187 s188 s189 s190 s191 s192 s193 s194 s195 s196 s197 s198 s199 s200 s201 s202 s203 s204 s205 s206 s207 s208 s209 s210 s211 s212 s213 s214 s215 s216 s217 s218 s219 s220 s221 s222 s223 s224 s225 s226 s227 s228 s229 s230 s231 s232 s233 s234 s235 s236 s237 s238 s239 s240 s241 s242 s243 s244 s245 s246 s247 s248 s249 : Value) (v' : Value) (m' : Nat) (w' : World), IS w w' DB LB FB nb (some ⟨ba, oa, none⟩) n cap m' BF v' vg vg fin g g us → Q .normal ⟨#[u0, .int .u8 way, .pointer (some ⟨DB, 0, none⟩), u3, u4, v', .int .i64 (dfin : Int), .pointer (some ⟨LB, 0, none⟩), .int .i64 (i : Int), .pointer (some ⟨FB, 0, none⟩), s10, s11, s12, s13, u14, u15, u16, u17, u18, u19, u20, u21, u22, u23, u24, u25, u26, u27, u28, u29, u30, u31, u32, u33, u34, s35, s36, s37, s38, s39, s40, s41, s42, s43, s44, s45, s46, s47, s48, s49, s50, s51, s52, s53, s54, s55, s56, s57, s58, s59, s60, s61, s62, s63, s64, s65, s66, s67, s68, s69, s70, s71, s72, s73, s74, s75, s76, s77, s78, s79, s80, s81, s82, s83, s84, s85, s86, s87, s88, s89, s90, s91, s92, s93, s94, s95, s96, s97, s98, s99, s100, s101, s102, s103, s104, s105, s106, s107, s108, s109, s110, s111, s112, s113, s114, s115, s116, s117, s118, s119, s120, s121, s122, s123, s124, s125, s126, s127, s128, s129, s130, s131, s132, s133, s134, s135, s136, s137, s138, s139, s140, s141, s142, s143, s144, s145, s146, s147, s148, s149, s150, s151, s152, s153, s154, s155, s156, s157, s158, s159, s160, s161, s162, s163, s164, s165, s166, s167, s168, s169, s170, s171, s172, s173, s174, s175, s176, s177, s178, s179, s180, s181, s182, s183, s184, s185, s186, s187, s188, s189, s190, s191, s192, s193, s194, s195, s196, s197, s198, s199, s200, s201, s202, s203, s204, s205, s206, s207, s208, s209, s210, s211, s212, s213, s214, s215, s216, s217, s218, s219, s220, s221, s222, s223, s224, s225, s226, s227, s228, s229, s230, s231, s232, s233, s234, s235, s236, s237, s238, s239, s240, s241, s242, s243, s244, s245, s246, s247, s248, s249, u250, u251, u252, u253, u254, u255, u256, u257, u258], []⟩ w') :
    Code.wp Try.prog (headC code25i) (Exit.then K (Exit.then K2 Q)) ⟨#[u0, .int .u8 way, .pointer (some ⟨DB, 0, none⟩), u3, u4, v, .int .i64 (dd : Int), .pointer (some ⟨LB, 0, none⟩), .int .i64 (i : Int), .pointer (some ⟨FB, 0, none⟩), .int .i64 fi, .int .i64 ((fi + (mm : Int))), u12, u13, u14, u15, u16, u17, u18, u19, u20, u21, u22, u23, u24, u25, u26, u27, u28, u29, u30, u31, u32, u33, u34, u35, u36, u37, u38, u39, u40, u41, u42, u43, u44, u45, u46, u47, u48, u49, u50, u51, u52, u53, u54, u55, u56, u57, u58, u59, u60, u61, u62, u63, u64, u65, u66, u67, u68, u69, u70, u71, u72, u73, u74, u75, u76, u77, u78, u79, u80, u81, u82, u83, u84, u85, u86, u87, u88, u89, u90, u91, u92, u93, u94, u95, u96, u97, u98, u99, u100, u101, u102, u103, u104, u105, u106, u107, u108, u109, u110, u111, u112, u113, u114, u115, u116, u117, u118, u119, u120, u121, u122, u123, u124, u125, u126, u127, u128, u129, u130, u131, u132, u133, u134, u135, u136, u137, u138, u139, u140, u141, u142, u143, u144, u145, u146, u147, u148, u149, u150, u151, u152, u153, u154, u155, u156, u157, u158, u159, u160, u161, u162, u163, u164, u165, u166, u167, u168, u169, u170, u171, u172, u173, u174, u175, u176, u177, u178, u179, u180, u181, u182, u183, u184, u185, u186, u187, u188, u189, u190, u191, u192, u193, u194, u195, u196, u197, u198, u199, u200, u201, u202, u203, u204, u205, u206, u207, u208, u209, u210, u211, u212, u213, u214, u215, u216, u217, u218, u219, u220, u221, u222, u223, u224, u225, u226, u227, u228, u229, u230, u231, u232, u233, u234, u235, u236, u237, u238, u239, u240, u241, u242, u243, u244, u245, u246, u247, u248, u249, u250, u251, u252, u253, u254, u255, u256, u257, u258], []⟩ W := by
  have hk0 := hS.kept
  obtain ⟨f0, f1⟩ := hfi
  obtain ⟨y0w, y1w⟩ := hway
  have hwd : way.tdiv 3 = way / 3 := Int.tdiv_eq_ediv_of_nonneg y0w
  obtain ⟨wq, hwq⟩ : ∃ z, way / 3 = z := ⟨_, rfl⟩
  have hwq0 : 0 ≤ wq ∧ wq ≤ 85 := by omega
  rw [hwd] at hw
  rw [hwq] at hw hwd
  have hw8 : IntKind.u8.wrap wq = wq := wrap8 (by omega) (by omega)
  obtain ⟨i29, hi29, hz0, hz1, hz2⟩ := info_parts info29
  have HS := hide hS
  have HQ := hide hQ
  have hkc : Kept W W := Below.refl _ _
  have hmb := hS.bnd
  obtain ⟨y0, hy0⟩ : ∃ y, itemS 2 1 fi false = y := ⟨_, rfl⟩
  have hit0 := item17n 2 1 fi false (show 0 ≤ fi ∧ fi < 4294967296 by omega) y0 hy0
  obtain ⟨y1, hy1⟩ : ∃ y, itemS 2 2 (fi + (mm : Int)) false = y := ⟨_, rfl⟩
  have hit1 := item17n 2 2 (fi + (mm : Int)) false (show 0 ≤ fi + (mm : Int) ∧ fi + (mm : Int) < 4294967296 by omega) y1 hy1
  have hyok : ∀ x ∈ [y0, y1], x.ok := by
    intro x hx
    simp only [List.mem_cons, List.not_mem_nil, or_false] at hx
    rcases hx with rfl | rfl
    · rw [← hy0]; exact (itemS_ok (by omega) (by omega)).2
    · rw [← hy1]; exact (itemS_ok (by omega) (by omega)).2
  have Hy0 := hide hy0
  have Hy1 := hide hy1
  clear hy0 hy1
  have Hus := hide hus
  have He := hide he
  clear hS hQ hus he hwq
  conv => arg 2; whnf
  conv at hK => enter [a, w', 1, 2]; whnf
  conv at hK2 => enter [a, w', 1, 2]; whnf
  by_cases hw0 : w2 = 0
  · have hus := Hus.out
    rw [if_pos hw0] at hus
    have hweq : (w2 == 0) = true := by rw [hw0]; rfl
    have Hus2 := hide hus
    have Hw0 := hide hw0
    clear hus hw0
    go_upto_region 31 with (first
      | (go_at_call 17; have hg0 := hkq0; refine (hit1 _).mono ?_; rintro e w5 ⟨rfl, hkq1⟩; replace hkc := hkc.trans' hkq1; try dsimp only)
      | (go_at_call 17; refine (hit0 _).mono ?_; rintro e w5 ⟨rfl, hkq0⟩; replace hkc := hkc.trans' hkq0; try dsimp only)
      | (at_builtin; refine wpList_append_sl (T := itT) rfl (.tmp 193) (.tmp 198) 22 rfl w.heap.size 29 i29 _ 24 Try.underlying22 hi29 hz0 hz1 hz2 rfl (by decide) _ m outL (by rfl) ((HS.out.ownm.kept hkc).alloc _) (some ⟨_, 0, none⟩) 2 2 [y0, y1] (by rfl) (by exact sl_it_heap (heap_at _ rfl) rfl hyok ⟨by simp, fun e => by have h9 := ((HS.out.ownm.kept hkc).lt e).2; omega⟩) (by_one29 _ _) (by unfold maxLen; omega) (by omega) (by have h9 := HS.out.kept.size; have h8 := hkc.size; simp; omega) ?_; intro v9 w9 hown9 hg9 hb9 hat9))
    refine p31 (f := f) (w2 := w2) (w3 := w3) (((HS.out.keep hkc).keep ((Below.refl _ _).alloc (Nat.le_refl _) _)).grow hg9 hb9 hown9) h7 hba hin hfl hkd (by rw [← He.out, Hus2.out, Hy0.out, Hy1.out, List.append_assoc]) hd (by simp only [List.length_cons, List.length_nil]; omega) hBF hd6 _ _ ?_ HQ.out <;> assumption
  · have hus := Hus.out
    rw [if_neg hw0] at hus
    have hweq : (w2 == 0) = false := by simpa using hw0
    have Hus2 := hide hus
    have Hw0 := hide hw0
    have HF3 := hide (show ∀ q : Nat, q ≤ 5 → (itemS 2 0 (fi + (q : Int)) false).ok from fun q hq => (itemS_ok (by omega) (by omega)).2)
    clear hus hw0 hit0 hit1 hyok
    go_wp2_with fail
    go_loopg [5, 12] (mm + 1) (fun g' s5 s12 wr => ∃ (k : Nat) (vv : Value), k + g' = mm + 1 ∧ s5 = vv ∧ s12 = .int .i64 (fi + (k : Int)) ∧ IS w wr DB LB FB nb (some ⟨ba, oa, none⟩) n cap (m + k) (B + k) vv vl vg (outL ++ (List.range k).map fun (q : Nat) => itemS 2 0 (fi + (q : Int)) false) l g us)
    case atStart => exact ⟨0, v, by omega, rfl, by simp, by simpa using HS.out⟩
    case round =>
      clear HS hkc hmb
      obtain ⟨k, vv, hk, rfl, rfl, hS⟩ := hrel
      have Hk := hide hk
      have HS := hide hS
      have hmb := hS.bnd
      obtain ⟨ol, hol⟩ : ∃ ol, (outL ++ (List.range k).map fun (q : Nat) => itemS 2 0 (fi + (q : Int)) false) = ol := ⟨_, rfl⟩
      rw [hol] at HS
      have Hol := hide hol
      clear hk hS hol
      by_cases hlt : k < mm + 1
      case pos =>
        have hle : fi + (k : Int) ≤ fi + (mm : Int) := by omega
        have hwk : IntKind.i64.wrap (fi + (k : Int) + 1) = fi + ((k + 1 : Nat) : Int) := by rw [IntKind.wrap_i64]; omega
        obtain ⟨y0, hy0⟩ : ∃ y, itemS 2 0 (fi + (k : Int)) false = y := ⟨_, rfl⟩
        have hit0 := item17n 2 0 (fi + (k : Int)) false (show 0 ≤ fi + (k : Int) ∧ fi + (k : Int) < 4294967296 by omega) y0 hy0
        have hyok : ∀ x ∈ [y0], x.ok := by
          intro x hx
          have : x = y0 := by simpa using hx
          rw [this, ← hy0]
          exact (itemS_ok (by omega) (by omega)).2
        have Hy0 := hide hy0
        have hkc : Kept wr wr := Below.refl _ _
        clear hy0
        go_upto_region 29 with (first
          | (go_at_call 17; refine (hit0 _).mono ?_; rintro e w5 ⟨rfl, hkq0⟩; replace hkc := hkc.trans' hkq0; try dsimp only)
          | (at_builtin; refine wpList_append_sl (T := itT) rfl (.tmp 206) (.tmp 209) 22 rfl w.heap.size 29 i29 _ 24 Try.underlying22 hi29 hz0 hz1 hz2 rfl (by decide) _ (m + k) ol (by rfl) ((HS.out.ownm.kept hkc).alloc _) (some ⟨_, 0, none⟩) 1 1 [y0] (by rfl) (by exact sl_it_heap (heap_at _ rfl) rfl hyok ⟨by simp, fun e => by have h9 := ((HS.out.ownm.kept hkc).lt e).2; omega⟩) (by_one29 _ _) (by unfold maxLen; omega) (by omega) (by have h9 := HS.out.kept.size; have h8 := hkc.size; simp; omega) ?_; intro v9 w9 hown9 hg9 hb9 hat9))
        have hn2 := ((HS.out.keep hkc).keep ((Below.refl _ _).alloc (Nat.le_refl _) _)).grow hg9 hb9 hown9
        have e2 : ol ++ [y0] = outL ++ (List.range (k + 1)).map fun (q : Nat) => itemS 2 0 (fi + (q : Int)) false := by rw [← Hol.out, List.range_succ, List.map_append, ← Hy0.out, List.append_assoc]; rfl
        rw [e2] at hn2
        have Hn2 := hide hn2
        clear hn2 e2 hown9 hg9 hb9 hat9 hit0 hyok hkc
        go_wp2_with fail
        go_roundg (gk - 1)
        case measure => have := Hk.out; omega
        case rel => exact ⟨k + 1, v9, by have := Hk.out; omega, rfl, by first | rfl | go_num | (rw [hwk]), Hn2.out⟩
      case neg =>
        have hkm : k = mm + 1 := by have := Hk.out; omega
        have hnle : ¬ fi + (k : Int) ≤ fi + (mm : Int) := by omega
        subst hkm
        have hnle2 : ¬ fi + ((mm : Int) + 1) ≤ fi + (mm : Int) := by omega
        go_upto_region 31 with fail
        refine p31 (f := f) (w2 := w2) (w3 := w3) HS.out h7 hba hin hfl hkd (by rw [← He.out, Hus2.out, ← Hol.out, List.append_assoc]) hd (by omega) hBF hd6 _ _ ?_ HQ.out <;> assumption
end Go.Proofs.Ytegdigfcgeoboaa
