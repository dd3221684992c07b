/- The items of plain data: their end. -/
import Derived.Test.YtegdigfcgeoboaaChecked
import Derived.Deep.RegionHeld3
import Derived.Deep.DrawnRows
import Derived.Deep.DeepCutAuto
import Derived.Deep.LoopGhost
import Derived.Outline
import Derived.Handy
import Derived.OwnWalk
import Derived.BigQuiet
import Derived.Test.YtegdigfcgeoboaaN30
import Derived.Test.YtegdigfcgeoboaaWdK
import Derived.Test.YtegdigfcgeoboaaN15
set_option linter.unusedVariables false
set_option linter.unusedSimpArgs false
set_option linter.unusedSectionVars false
/- The law's items of plain data: what holds between the groups. Printed by gen_we.py. -/
namespace Go.Proofs.Ytegdigfcgeoboaa
open Go.RowKit
attribute [local go_sem ↓] Go.wp_at_zero Go.wp_at_succ

/-- what holds between the groups -/
structure IS (w W : World) (DB LB FB : Nat) (nb : Bool) (A : Option Addr) (n cap m B : Nat) (v vl vg : Value) (outL : List It) (l g : Fd) (us : List Int) : Prop where
  kept : Kept w W
  dbox : W.heap[DB]? = some (.cells #[.bool nb, .slice A n cap] 52 (0, 0))
  lbox : W.heap[LB]? = some (.cells (l.cellsAt vl) 59 (0, 0))
  fbox : W.heap[FB]? = some (.cells (g.cellsAt vg) 59 (0, 0))
  low : w.heap.size ≤ DB ∧ w.heap.size ≤ LB ∧ w.heap.size ≤ FB ∧ LB ≠ FB
  own : Own itT 29 w.heap.size W v outL.length outL
  us : Own u32T 27 w.heap.size W vg us.length us
  len : outL.length = m
  bnd : m ≤ B
section
variable {w W W' : World} {DB LB FB n cap m B : Nat} {nb : Bool} {A : Option Addr} {v v' vl vg : Value} {outL ys : List It} {l g : Fd} {us : List Int}
theorem flat_it : Flat itT := fun {_ _ _ _ _ _} h => h
theorem IS.keep (h : IS w W DB LB FB nb A n cap m B v vl vg outL l g us) (hk : Kept W W') : IS w W' DB LB FB nb A n cap m B v vl vg outL l g us :=
  ⟨h.kept.trans' hk, heap_kept hk h.dbox, heap_kept hk h.lbox, heap_kept hk h.fbox, h.low, h.own.kept hk, h.us.kept hk, h.len, h.bnd⟩
theorem IS.grow (h : IS w W DB LB FB nb A n cap m B v vl vg outL l g us) (hg : W.grownBy W' v.ownBlock) (hb : Below w.heap.size W W') (ho : Own itT 29 w.heap.size W' v' (m + ys.length) (outL ++ ys)) : IS w W' DB LB FB nb A n cap (m + ys.length) (B + ys.length) v' vl vg (outL ++ ys) l g us := by
  have hl := h.len
  have hbn := h.bnd
  refine ⟨h.kept.trans hb, heap_grown hg h.dbox (fun e => own_type_ne h.own h.dbox (by decide) e.symm), heap_grown hg h.lbox (fun e => own_type_ne h.own h.lbox (by decide) e.symm), heap_grown hg h.fbox (fun e => own_type_ne h.own h.fbox (by decide) e.symm), h.low, by rw [List.length_append, hl]; exact ho, h.us.grownF flat_u32 hg (rows_apart h.us h.own (by decide)), by rw [List.length_append, hl], by omega⟩
theorem IS.bump (h : IS w W DB LB FB nb A n cap m B v vl vg outL l g us) {B' : Nat} (hB : B ≤ B') : IS w W DB LB FB nb A n cap m B' v vl vg outL l g us :=
  ⟨h.kept, h.dbox, h.lbox, h.fbox, h.low, h.own, h.us, h.len, Nat.le_trans h.bnd hB⟩
end
theorem item17n (t g n : Int) (sg : Bool) (h : if sg then -32768 ≤ n ∧ n < 2147483648 else 0 ≤ n ∧ n < 4294967296) (x : It) (hx : itemS t g n sg = x) (w : World) : Calls Try.prog 17 #[.int .u8 t, .int .u8 g, .int .i64 n, .bool sg] w fun e w' => e = .returned (.agg #[.int .u8 x.ty, .int .u8 x.tg, .int .i64 x.size, .int .u32 x.data]) ∧ Kept w w' := by
  subst hx
  cases sg with
  | false => exact item17u t g n h.1 h.2 w
  | true => exact item17s t g n h.1 h.2 w
end Go.Proofs.Ytegdigfcgeoboaa
/- The law's items of plain data: the conditions. Printed by gen_we.py. -/
namespace Go.Proofs.Ytegdigfcgeoboaa
open Go.RowKit
attribute [local go_sem ↓] Go.wp_at_zero Go.wp_at_succ

noncomputable def code14i : Code := (Try.f18.body.bind (findQ 14)).getD .skip
set_option maxRecDepth 1000000 in
set_option maxHeartbeats 16000000 in
theorem ask_14 {u0 u2 u3 u4 u5 u6 u10 u11 u12 u13 u14 u15 u16 u17 u18 u19 u20 u21 u22 u23 u24 u25 u26 u27 u28 u29 u30 u31 u32 u33 u34 u35 u36 u37 u38 u39 u40 u41 u42 u43 u44 u45 u46 u47 u48 u49 u50 u51 u52 u53 u54 u55 u56 u57 u58 u59 u60 u61 u62 u63 u64 u65 u66 u67 u68 u69 u70 u71 u72 u73 u74 u75 u76 u77 u78 u79 u80 u81 u82 u83 u84 u85 u86 u87 u88 u89 u90 u91 u92 u93 u94 u95 u96 u97 u98 u99 u100 u101 u102 u103 u104 u105 u106 u107 u108 u109 u110 u111 u112 u113 u114 u115 u116 u117 u118 u119 u120 u121 u122 u123 u124 u125 u126 u127 u128 u129 u130 u131 u132 u133 u134 u135 u136 u137 u138 u139 u140 u141 u142 u143 u144 u145 u146 u147 u148 u149 u150 u151 u152 u153 u154 u155 u156 u157 u158 u159 u160 u161 u162 u163 u164 u165 u166 u167 u168 u169 u170 u171 u172 u173 u174 u175 u176 u177 u178 u179 u180 u181 u182 u183 u184 u185 u186 u187 u188 u189 u190 u191 u192 u193 u194 u195 u196 u197 u198 u199 u200 u201 u202 u203 u204 u205 u206 u207 u208 u209 u210 u211 u212 u213 u214 u215 u216 u217 u218 u219 u220 u221 u222 u223 u224 u225 u226 u227 u228 u229 u230 u231 u232 u233 u234 u235 u236 u237 u238 u239 u240 u241 u242 u243 u244 u245 u246 u247 u248 u249 u250 u251 u252 u253 u254 u255 u256 u257 u258 : Value} {W : World} {LB FB DB i n cap : Nat} {nb : Bool} {A : Option Addr} {way w3 : Int} {vl vg : Value} {l g : Fd} (hL : W.heap[LB]? = some (.cells (l.cellsAt vl) 59 (0, 0))) (hF : W.heap[FB]? = some (.cells (g.cellsAt vg) 59 (0, 0))) (hD : W.heap[DB]? = some (.cells #[.bool nb, .slice A n cap] 52 (0, 0))) (hw : way.tmod 3 = w3)
    (Q : Exit → Act → World → Prop) (hQ : ∀ (s68 s69 s70 s71 s72 s73 s74 s75 s76 s77 s78 s79 s80 : Value), Q .normal ⟨#[u0, .int .u8 way, u2, u3, u4, u5, u6, .pointer (some ⟨LB, 0, none⟩), .int .i64 (i : Int), .pointer (some ⟨FB, 0, none⟩), u10, u11, u12, u13, u14, u15, u16, u17, u18, u19, u20, u21, u22, u23, u24, u25, u26, u27, u28, u29, u30, u31, u32, u33, u34, u35, u36, u37, u38, u39, u40, u41, u42, u43, u44, u45, u46, u47, u48, u49, u50, u51, u52, u53, u54, u55, u56, u57, u58, u59, u60, u61, u62, u63, u64, u65, u66, u67, s68, s69, s70, s71, s72, s73, s74, s75, s76, s77, s78, s79, s80, .bool (ask w3 i l.lo g.lo), u82, u83, u84, u85, u86, u87, u88, u89, u90, u91, u92, u93, u94, u95, u96, u97, u98, u99, u100, u101, u102, u103, u104, u105, u106, u107, u108, u109, u110, u111, u112, u113, u114, u115, u116, u117, u118, u119, u120, u121, u122, u123, u124, u125, u126, u127, u128, u129, u130, u131, u132, u133, u134, u135, u136, u137, u138, u139, u140, u141, u142, u143, u144, u145, u146, u147, u148, u149, u150, u151, u152, u153, u154, u155, u156, u157, u158, u159, u160, u161, u162, u163, u164, u165, u166, u167, u168, u169, u170, u171, u172, u173, u174, u175, u176, u177, u178, u179, u180, u181, u182, u183, u184, u185, u186, u187, u188, u189, u190, u191, u192, u193, u194, u195, u196, u197, u198, u199, u200, u201, u202, u203, u204, u205, u206, u207, u208, u209, u210, u211, u212, u213, u214, u215, u216, u217, u218, u219, u220, u221, u222, u223, u224, u225, u226, u227, u228, u229, u230, u231, u232, u233, u234, u235, u236, u237, u238, u239, u240, u241, u242, u243, u244, u245, u246, u247, u248, u249, u250, u251, u252, u253, u254, u255, u256, u257, u258], []⟩ W) :
    Code.wp Try.prog (headC code14i) Q ⟨#[u0, .int .u8 way, u2, u3, u4, u5, u6, .pointer (some ⟨LB, 0, none⟩), .int .i64 (i : Int), .pointer (some ⟨FB, 0, none⟩), u10, u11, u12, u13, u14, u15, u16, u17, u18, u19, u20, u21, u22, u23, u24, u25, u26, u27, u28, u29, u30, u31, u32, u33, u34, u35, u36, u37, u38, u39, u40, u41, u42, u43, u44, u45, u46, u47, u48, u49, u50, u51, u52, u53, u54, u55, u56, u57, u58, u59, u60, u61, u62, u63, u64, u65, u66, u67, u68, u69, u70, u71, u72, u73, u74, u75, u76, u77, u78, u79, u80, u81, u82, u83, u84, u85, u86, u87, u88, u89, u90, u91, u92, u93, u94, u95, u96, u97, u98, u99, u100, u101, u102, u103, u104, u105, u106, u107, u108, u109, u110, u111, u112, u113, u114, u115, u116, u117, u118, u119, u120, u121, u122, u123, u124, u125, u126, u127, u128, u129, u130, u131, u132, u133, u134, u135, u136, u137, u138, u139, u140, u141, u142, u143, u144, u145, u146, u147, u148, u149, u150, u151, u152, u153, u154, u155, u156, u157, u158, u159, u160, u161, u162, u163, u164, u165, u166, u167, u168, u169, u170, u171, u172, u173, u174, u175, u176, u177, u178, u179, u180, u181, u182, u183, u184, u185, u186, u187, u188, u189, u190, u191, u192, u193, u194, u195, u196, u197, u198, u199, u200, u201, u202, u203, u204, u205, u206, u207, u208, u209, u210, u211, u212, u213, u214, u215, u216, u217, u218, u219, u220, u221, u222, u223, u224, u225, u226, u227, u228, u229, u230, u231, u232, u233, u234, u235, u236, u237, u238, u239, u240, u241, u242, u243, u244, u245, u246, u247, u248, u249, u250, u251, u252, u253, u254, u255, u256, u257, u258], []⟩ W := by
  have a4 : W.cell? ⟨LB, 4, none⟩ = some (.int .i64 l.lo) := cell_heap hL (o := 4) rfl
  have b4 : W.cell? ⟨FB, 4, none⟩ = some (.int .i64 g.lo) := cell_heap hF (o := 4) rfl
  have d0 : W.cell? ⟨DB, 0, none⟩ = some (.bool nb) := cell_heap hD (o := 0) rfl
  have lL := heap_lt hL
  have lF := heap_lt hF
  have lD := heap_lt hD
  obtain ⟨r, hr⟩ : ∃ r, (ask w3 i l.lo g.lo) = r := ⟨_, rfl⟩
  rw [hr] at hQ
  have HQ := hide hQ
  clear hQ hL hF hD
  unfold ask at hr
  obtain ⟨c1, hc1⟩ : ∃ c, (w3 == 1) = c := ⟨_, rfl⟩
  obtain ⟨c2, hc2⟩ : ∃ c, decide (i = 0) = c := ⟨_, rfl⟩
  obtain ⟨c3, hc3⟩ : ∃ c, (l.lo == g.lo) = c := ⟨_, rfl⟩
  rw [hc1, hc2, hc3] at hr
  have n1 : (w3 != 1) = !c1 := by rw [← hc1]; rfl
  have n2 : ((i : Int) == 0) = c2 := by rw [← hc2]; by_cases h : i = 0 <;> simp [h]
  have n3 : (l.lo != g.lo) = !c3 := by rw [← hc3]; rfl
  clear hc2
  conv => arg 2; whnf
  cases c1 with
  | false =>
    clear hc3
    subst hr
    go_wp2_with fail
    exact HQ.out _ _ _ _ _ _ _ _ _ _ _ _ _ 
  | true =>
  cases c2 with
  | true =>
    clear hc3
    subst hr
    go_wp2_with fail
    exact HQ.out _ _ _ _ _ _ _ _ _ _ _ _ _ 
  | false =>
  cases c3 with
  | true =>
    subst hr
    go_wp2_with fail
    exact HQ.out _ _ _ _ _ _ _ _ _ _ _ _ _ 
  | false =>
    subst hr
    go_wp2_with fail
    exact HQ.out _ _ _ _ _ _ _ _ _ _ _ _ _ 
noncomputable def code16i : Code := (Try.f18.body.bind (findQ 16)).getD .skip
set_option maxRecDepth 1000000 in
set_option maxHeartbeats 16000000 in
theorem ask_16 {u0 u2 u3 u4 u5 u6 u10 u11 u12 u13 u14 u15 u16 u17 u18 u19 u20 u21 u22 u23 u24 u25 u26 u27 u28 u29 u30 u31 u32 u33 u34 u35 u36 u37 u38 u39 u40 u41 u42 u43 u44 u45 u46 u47 u48 u49 u50 u51 u52 u53 u54 u55 u56 u57 u58 u59 u60 u61 u62 u63 u64 u65 u66 u67 u68 u69 u70 u71 u72 u73 u74 u75 u76 u77 u78 u79 u80 u81 u82 u83 u84 u85 u86 u87 u88 u89 u90 u91 u92 u93 u94 u95 u96 u97 u98 u99 u100 u101 u102 u103 u104 u105 u106 u107 u108 u109 u110 u111 u112 u113 u114 u115 u116 u117 u118 u119 u120 u121 u122 u123 u124 u125 u126 u127 u128 u129 u130 u131 u132 u133 u134 u135 u136 u137 u138 u139 u140 u141 u142 u143 u144 u145 u146 u147 u148 u149 u150 u151 u152 u153 u154 u155 u156 u157 u158 u159 u160 u161 u162 u163 u164 u165 u166 u167 u168 u169 u170 u171 u172 u173 u174 u175 u176 u177 u178 u179 u180 u181 u182 u183 u184 u185 u186 u187 u188 u189 u190 u191 u192 u193 u194 u195 u196 u197 u198 u199 u200 u201 u202 u203 u204 u205 u206 u207 u208 u209 u210 u211 u212 u213 u214 u215 u216 u217 u218 u219 u220 u221 u222 u223 u224 u225 u226 u227 u228 u229 u230 u231 u232 u233 u234 u235 u236 u237 u238 u239 u240 u241 u242 u243 u244 u245 u246 u247 u248 u249 u250 u251 u252 u253 u254 u255 u256 u257 u258 : Value} {W : World} {LB FB DB i n cap : Nat} {nb : Bool} {A : Option Addr} {way w3 : Int} {vl vg : Value} {l g : Fd} (hL : W.heap[LB]? = some (.cells (l.cellsAt vl) 59 (0, 0))) (hF : W.heap[FB]? = some (.cells (g.cellsAt vg) 59 (0, 0))) (hD : W.heap[DB]? = some (.cells #[.bool nb, .slice A n cap] 52 (0, 0))) (hw : way.tmod 3 = w3)
    (Q : Exit → Act → World → Prop) (hQ : ∀ (s88 s89 s90 s91 s92 s93 s94 s95 s96 s97 s98 s99 s100 : Value), Q .normal ⟨#[u0, .int .u8 way, u2, u3, u4, u5, u6, .pointer (some ⟨LB, 0, none⟩), .int .i64 (i : Int), .pointer (some ⟨FB, 0, none⟩), u10, u11, u12, u13, u14, u15, u16, u17, u18, u19, u20, u21, u22, u23, u24, u25, u26, u27, u28, u29, u30, u31, u32, u33, u34, u35, u36, u37, u38, u39, u40, u41, u42, u43, u44, u45, u46, u47, u48, u49, u50, u51, u52, u53, u54, u55, u56, u57, u58, u59, u60, u61, u62, u63, u64, u65, u66, u67, u68, u69, u70, u71, u72, u73, u74, u75, u76, u77, u78, u79, u80, u81, u82, u83, u84, u85, u86, u87, s88, s89, s90, s91, s92, s93, s94, s95, s96, s97, s98, s99, s100, .bool (ask w3 i l.hi g.hi), u102, u103, u104, u105, u106, u107, u108, u109, u110, u111, u112, u113, u114, u115, u116, u117, u118, u119, u120, u121, u122, u123, u124, u125, u126, u127, u128, u129, u130, u131, u132, u133, u134, u135, u136, u137, u138, u139, u140, u141, u142, u143, u144, u145, u146, u147, u148, u149, u150, u151, u152, u153, u154, u155, u156, u157, u158, u159, u160, u161, u162, u163, u164, u165, u166, u167, u168, u169, u170, u171, u172, u173, u174, u175, u176, u177, u178, u179, u180, u181, u182, u183, u184, u185, u186, u187, u188, u189, u190, u191, u192, u193, u194, u195, u196, u197, u198, u199, u200, u201, u202, u203, u204, u205, u206, u207, u208, u209, u210, u211, u212, u213, u214, u215, u216, u217, u218, u219, u220, u221, u222, u223, u224, u225, u226, u227, u228, u229, u230, u231, u232, u233, u234, u235, u236, u237, u238, u239, u240, u241, u242, u243, u244, u245, u246, u247, u248, u249, u250, u251, u252, u253, u254, u255, u256, u257, u258], []⟩ W) :
    Code.wp Try.prog (headC code16i) Q ⟨#[u0, .int .u8 way, u2, u3, u4, u5, u6, .pointer (some ⟨LB, 0, none⟩), .int .i64 (i : Int), .pointer (some ⟨FB, 0, none⟩), u10, u11, u12, u13, u14, u15, u16, u17, u18, u19, u20, u21, u22, u23, u24, u25, u26, u27, u28, u29, u30, u31, u32, u33, u34, u35, u36, u37, u38, u39, u40, u41, u42, u43, u44, u45, u46, u47, u48, u49, u50, u51, u52, u53, u54, u55, u56, u57, u58, u59, u60, u61, u62, u63, u64, u65, u66, u67, u68, u69, u70, u71, u72, u73, u74, u75, u76, u77, u78, u79, u80, u81, u82, u83, u84, u85, u86, u87, u88, u89, u90, u91, u92, u93, u94, u95, u96, u97, u98, u99, u100, u101, u102, u103, u104, u105, u106, u107, u108, u109, u110, u111, u112, u113, u114, u115, u116, u117, u118, u119, u120, u121, u122, u123, u124, u125, u126, u127, u128, u129, u130, u131, u132, u133, u134, u135, u136, u137, u138, u139, u140, u141, u142, u143, u144, u145, u146, u147, u148, u149, u150, u151, u152, u153, u154, u155, u156, u157, u158, u159, u160, u161, u162, u163, u164, u165, u166, u167, u168, u169, u170, u171, u172, u173, u174, u175, u176, u177, u178, u179, u180, u181, u182, u183, u184, u185, u186, u187, u188, u189, u190, u191, u192, u193, u194, u195, u196, u197, u198, u199, u200, u201, u202, u203, u204, u205, u206, u207, u208, u209, u210, u211, u212, u213, u214, u215, u216, u217, u218, u219, u220, u221, u222, u223, u224, u225, u226, u227, u228, u229, u230, u231, u232, u233, u234, u235, u236, u237, u238, u239, u240, u241, u242, u243, u244, u245, u246, u247, u248, u249, u250, u251, u252, u253, u254, u255, u256, u257, u258], []⟩ W := by
  have a5 : W.cell? ⟨LB, 5, none⟩ = some (.int .i64 l.hi) := cell_heap hL (o := 5) rfl
  have b5 : W.cell? ⟨FB, 5, none⟩ = some (.int .i64 g.hi) := cell_heap hF (o := 5) rfl
  have d0 : W.cell? ⟨DB, 0, none⟩ = some (.bool nb) := cell_heap hD (o := 0) rfl
  have lL := heap_lt hL
  have lF := heap_lt hF
  have lD := heap_lt hD
  obtain ⟨r, hr⟩ : ∃ r, (ask w3 i l.hi g.hi) = r := ⟨_, rfl⟩
  rw [hr] at hQ
  have HQ := hide hQ
  clear hQ hL hF hD
  unfold ask at hr
  obtain ⟨c1, hc1⟩ : ∃ c, (w3 == 1) = c := ⟨_, rfl⟩
  obtain ⟨c2, hc2⟩ : ∃ c, decide (i = 0) = c := ⟨_, rfl⟩
  obtain ⟨c3, hc3⟩ : ∃ c, (l.hi == g.hi) = c := ⟨_, rfl⟩
  rw [hc1, hc2, hc3] at hr
  have n1 : (w3 != 1) = !c1 := by rw [← hc1]; rfl
  have n2 : ((i : Int) == 0) = c2 := by rw [← hc2]; by_cases h : i = 0 <;> simp [h]
  have n3 : (l.hi != g.hi) = !c3 := by rw [← hc3]; rfl
  clear hc2
  conv => arg 2; whnf
  cases c1 with
  | false =>
    clear hc3
    subst hr
    go_wp2_with fail
    exact HQ.out _ _ _ _ _ _ _ _ _ _ _ _ _ 
  | true =>
  cases c2 with
  | true =>
    clear hc3
    subst hr
    go_wp2_with fail
    exact HQ.out _ _ _ _ _ _ _ _ _ _ _ _ _ 
  | false =>
  cases c3 with
  | true =>
    subst hr
    go_wp2_with fail
    exact HQ.out _ _ _ _ _ _ _ _ _ _ _ _ _ 
  | false =>
    subst hr
    go_wp2_with fail
    exact HQ.out _ _ _ _ _ _ _ _ _ _ _ _ _ 
noncomputable def code18i : Code := (Try.f18.body.bind (findQ 18)).getD .skip
set_option maxRecDepth 1000000 in
set_option maxHeartbeats 16000000 in
theorem ask_18 {u0 u2 u3 u4 u5 u6 u10 u11 u12 u13 u14 u15 u16 u17 u18 u19 u20 u21 u22 u23 u24 u25 u26 u27 u28 u29 u30 u31 u32 u33 u34 u35 u36 u37 u38 u39 u40 u41 u42 u43 u44 u45 u46 u47 u48 u49 u50 u51 u52 u53 u54 u55 u56 u57 u58 u59 u60 u61 u62 u63 u64 u65 u66 u67 u68 u69 u70 u71 u72 u73 u74 u75 u76 u77 u78 u79 u80 u81 u82 u83 u84 u85 u86 u87 u88 u89 u90 u91 u92 u93 u94 u95 u96 u97 u98 u99 u100 u101 u102 u103 u104 u105 u106 u107 u108 u109 u110 u111 u112 u113 u114 u115 u116 u117 u118 u119 u120 u121 u122 u123 u124 u125 u126 u127 u128 u129 u130 u131 u132 u133 u134 u135 u136 u137 u138 u139 u140 u141 u142 u143 u144 u145 u146 u147 u148 u149 u150 u151 u152 u153 u154 u155 u156 u157 u158 u159 u160 u161 u162 u163 u164 u165 u166 u167 u168 u169 u170 u171 u172 u173 u174 u175 u176 u177 u178 u179 u180 u181 u182 u183 u184 u185 u186 u187 u188 u189 u190 u191 u192 u193 u194 u195 u196 u197 u198 u199 u200 u201 u202 u203 u204 u205 u206 u207 u208 u209 u210 u211 u212 u213 u214 u215 u216 u217 u218 u219 u220 u221 u222 u223 u224 u225 u226 u227 u228 u229 u230 u231 u232 u233 u234 u235 u236 u237 u238 u239 u240 u241 u242 u243 u244 u245 u246 u247 u248 u249 u250 u251 u252 u253 u254 u255 u256 u257 u258 : Value} {W : World} {LB FB DB i n cap : Nat} {nb : Bool} {A : Option Addr} {way w3 : Int} {vl vg : Value} {l g : Fd} (hL : W.heap[LB]? = some (.cells (l.cellsAt vl) 59 (0, 0))) (hF : W.heap[FB]? = some (.cells (g.cellsAt vg) 59 (0, 0))) (hD : W.heap[DB]? = some (.cells #[.bool nb, .slice A n cap] 52 (0, 0))) (hw : way.tmod 3 = w3)
    (Q : Exit → Act → World → Prop) (hQ : ∀ (s108 s109 s110 s111 s112 s113 s114 s115 s116 s117 s118 s119 s120 : Value), Q .normal ⟨#[u0, .int .u8 way, u2, u3, u4, u5, u6, .pointer (some ⟨LB, 0, none⟩), .int .i64 (i : Int), .pointer (some ⟨FB, 0, none⟩), u10, u11, u12, u13, u14, u15, u16, u17, u18, u19, u20, u21, u22, u23, u24, u25, u26, u27, u28, u29, u30, u31, u32, u33, u34, u35, u36, u37, u38, u39, u40, u41, u42, u43, u44, u45, u46, u47, u48, u49, u50, u51, u52, u53, u54, u55, u56, u57, u58, u59, u60, u61, u62, u63, u64, u65, u66, u67, u68, u69, u70, u71, u72, u73, u74, u75, u76, u77, u78, u79, u80, u81, u82, u83, u84, u85, u86, u87, u88, u89, u90, u91, u92, u93, u94, u95, u96, u97, u98, u99, u100, u101, u102, u103, u104, u105, u106, u107, s108, s109, s110, s111, s112, s113, s114, s115, s116, s117, s118, s119, s120, .bool (ask w3 i l.size g.size), u122, u123, u124, u125, u126, u127, u128, u129, u130, u131, u132, u133, u134, u135, u136, u137, u138, u139, u140, u141, u142, u143, u144, u145, u146, u147, u148, u149, u150, u151, u152, u153, u154, u155, u156, u157, u158, u159, u160, u161, u162, u163, u164, u165, u166, u167, u168, u169, u170, u171, u172, u173, u174, u175, u176, u177, u178, u179, u180, u181, u182, u183, u184, u185, u186, u187, u188, u189, u190, u191, u192, u193, u194, u195, u196, u197, u198, u199, u200, u201, u202, u203, u204, u205, u206, u207, u208, u209, u210, u211, u212, u213, u214, u215, u216, u217, u218, u219, u220, u221, u222, u223, u224, u225, u226, u227, u228, u229, u230, u231, u232, u233, u234, u235, u236, u237, u238, u239, u240, u241, u242, u243, u244, u245, u246, u247, u248, u249, u250, u251, u252, u253, u254, u255, u256, u257, u258], []⟩ W) :
    Code.wp Try.prog (headC code18i) Q ⟨#[u0, .int .u8 way, u2, u3, u4, u5, u6, .pointer (some ⟨LB, 0, none⟩), .int .i64 (i : Int), .pointer (some ⟨FB, 0, none⟩), u10, u11, u12, u13, u14, u15, u16, u17, u18, u19, u20, u21, u22, u23, u24, u25, u26, u27, u28, u29, u30, u31, u32, u33, u34, u35, u36, u37, u38, u39, u40, u41, u42, u43, u44, u45, u46, u47, u48, u49, u50, u51, u52, u53, u54, u55, u56, u57, u58, u59, u60, u61, u62, u63, u64, u65, u66, u67, u68, u69, u70, u71, u72, u73, u74, u75, u76, u77, u78, u79, u80, u81, u82, u83, u84, u85, u86, u87, u88, u89, u90, u91, u92, u93, u94, u95, u96, u97, u98, u99, u100, u101, u102, u103, u104, u105, u106, u107, u108, u109, u110, u111, u112, u113, u114, u115, u116, u117, u118, u119, u120, u121, u122, u123, u124, u125, u126, u127, u128, u129, u130, u131, u132, u133, u134, u135, u136, u137, u138, u139, u140, u141, u142, u143, u144, u145, u146, u147, u148, u149, u150, u151, u152, u153, u154, u155, u156, u157, u158, u159, u160, u161, u162, u163, u164, u165, u166, u167, u168, u169, u170, u171, u172, u173, u174, u175, u176, u177, u178, u179, u180, u181, u182, u183, u184, u185, u186, u187, u188, u189, u190, u191, u192, u193, u194, u195, u196, u197, u198, u199, u200, u201, u202, u203, u204, u205, u206, u207, u208, u209, u210, u211, u212, u213, u214, u215, u216, u217, u218, u219, u220, u221, u222, u223, u224, u225, u226, u227, u228, u229, u230, u231, u232, u233, u234, u235, u236, u237, u238, u239, u240, u241, u242, u243, u244, u245, u246, u247, u248, u249, u250, u251, u252, u253, u254, u255, u256, u257, u258], []⟩ W := by
  have a6 : W.cell? ⟨LB, 6, none⟩ = some (.int .i64 l.size) := cell_heap hL (o := 6) rfl
  have b6 : W.cell? ⟨FB, 6, none⟩ = some (.int .i64 g.size) := cell_heap hF (o := 6) rfl
  have d0 : W.cell? ⟨DB, 0, none⟩ = some (.bool nb) := cell_heap hD (o := 0) rfl
  have lL := heap_lt hL
  have lF := heap_lt hF
  have lD := heap_lt hD
  obtain ⟨r, hr⟩ : ∃ r, (ask w3 i l.size g.size) = r := ⟨_, rfl⟩
  rw [hr] at hQ
  have HQ := hide hQ
  clear hQ hL hF hD
  unfold ask at hr
  obtain ⟨c1, hc1⟩ : ∃ c, (w3 == 1) = c := ⟨_, rfl⟩
  obtain ⟨c2, hc2⟩ : ∃ c, decide (i = 0) = c := ⟨_, rfl⟩
  obtain ⟨c3, hc3⟩ : ∃ c, (l.size == g.size) = c := ⟨_, rfl⟩
  rw [hc1, hc2, hc3] at hr
  have n1 : (w3 != 1) = !c1 := by rw [← hc1]; rfl
  have n2 : ((i : Int) == 0) = c2 := by rw [← hc2]; by_cases h : i = 0 <;> simp [h]
  have n3 : (l.size != g.size) = !c3 := by rw [← hc3]; rfl
  clear hc2
  conv => arg 2; whnf
  cases c1 with
  | false =>
    clear hc3
    subst hr
    go_wp2_with fail
    exact HQ.out _ _ _ _ _ _ _ _ _ _ _ _ _ 
  | true =>
  cases c2 with
  | true =>
    clear hc3
    subst hr
    go_wp2_with fail
    exact HQ.out _ _ _ _ _ _ _ _ _ _ _ _ _ 
  | false =>
  cases c3 with
  | true =>
    subst hr
    go_wp2_with fail
    exact HQ.out _ _ _ _ _ _ _ _ _ _ _ _ _ 
  | false =>
    subst hr
    go_wp2_with fail
    exact HQ.out _ _ _ _ _ _ _ _ _ _ _ _ _ 
noncomputable def code20i : Code := (Try.f18.body.bind (findQ 20)).getD .skip
set_option maxRecDepth 1000000 in
set_option maxHeartbeats 16000000 in
theorem ask_20 {u0 u2 u3 u4 u5 u6 u10 u11 u12 u13 u14 u15 u16 u17 u18 u19 u20 u21 u22 u23 u24 u25 u26 u27 u28 u29 u30 u31 u32 u33 u34 u35 u36 u37 u38 u39 u40 u41 u42 u43 u44 u45 u46 u47 u48 u49 u50 u51 u52 u53 u54 u55 u56 u57 u58 u59 u60 u61 u62 u63 u64 u65 u66 u67 u68 u69 u70 u71 u72 u73 u74 u75 u76 u77 u78 u79 u80 u81 u82 u83 u84 u85 u86 u87 u88 u89 u90 u91 u92 u93 u94 u95 u96 u97 u98 u99 u100 u101 u102 u103 u104 u105 u106 u107 u108 u109 u110 u111 u112 u113 u114 u115 u116 u117 u118 u119 u120 u121 u122 u123 u124 u125 u126 u127 u128 u129 u130 u131 u132 u133 u134 u135 u136 u137 u138 u139 u140 u141 u142 u143 u144 u145 u146 u147 u148 u149 u150 u151 u152 u153 u154 u155 u156 u157 u158 u159 u160 u161 u162 u163 u164 u165 u166 u167 u168 u169 u170 u171 u172 u173 u174 u175 u176 u177 u178 u179 u180 u181 u182 u183 u184 u185 u186 u187 u188 u189 u190 u191 u192 u193 u194 u195 u196 u197 u198 u199 u200 u201 u202 u203 u204 u205 u206 u207 u208 u209 u210 u211 u212 u213 u214 u215 u216 u217 u218 u219 u220 u221 u222 u223 u224 u225 u226 u227 u228 u229 u230 u231 u232 u233 u234 u235 u236 u237 u238 u239 u240 u241 u242 u243 u244 u245 u246 u247 u248 u249 u250 u251 u252 u253 u254 u255 u256 u257 u258 : Value} {W : World} {LB FB DB i n cap : Nat} {nb : Bool} {A : Option Addr} {way w3 : Int} {vl vg : Value} {l g : Fd} (hL : W.heap[LB]? = some (.cells (l.cellsAt vl) 59 (0, 0))) (hF : W.heap[FB]? = some (.cells (g.cellsAt vg) 59 (0, 0))) (hD : W.heap[DB]? = some (.cells #[.bool nb, .slice A n cap] 52 (0, 0))) (hw : way.tmod 3 = w3)
    (Q : Exit → Act → World → Prop) (hQ : ∀ (s128 s129 s130 s131 s132 s133 s134 s135 s136 s137 s138 s139 s140 : Value), Q .normal ⟨#[u0, .int .u8 way, u2, u3, u4, u5, u6, .pointer (some ⟨LB, 0, none⟩), .int .i64 (i : Int), .pointer (some ⟨FB, 0, none⟩), u10, u11, u12, u13, u14, u15, u16, u17, u18, u19, u20, u21, u22, u23, u24, u25, u26, u27, u28, u29, u30, u31, u32, u33, u34, u35, u36, u37, u38, u39, u40, u41, u42, u43, u44, u45, u46, u47, u48, u49, u50, u51, u52, u53, u54, u55, u56, u57, u58, u59, u60, u61, u62, u63, u64, u65, u66, u67, u68, u69, u70, u71, u72, u73, u74, u75, u76, u77, u78, u79, u80, u81, u82, u83, u84, u85, u86, u87, u88, u89, u90, u91, u92, u93, u94, u95, u96, u97, u98, u99, u100, u101, u102, u103, u104, u105, u106, u107, u108, u109, u110, u111, u112, u113, u114, u115, u116, u117, u118, u119, u120, u121, u122, u123, u124, u125, u126, u127, s128, s129, s130, s131, s132, s133, s134, s135, s136, s137, s138, s139, s140, .bool (ask w3 i l.count g.count), u142, u143, u144, u145, u146, u147, u148, u149, u150, u151, u152, u153, u154, u155, u156, u157, u158, u159, u160, u161, u162, u163, u164, u165, u166, u167, u168, u169, u170, u171, u172, u173, u174, u175, u176, u177, u178, u179, u180, u181, u182, u183, u184, u185, u186, u187, u188, u189, u190, u191, u192, u193, u194, u195, u196, u197, u198, u199, u200, u201, u202, u203, u204, u205, u206, u207, u208, u209, u210, u211, u212, u213, u214, u215, u216, u217, u218, u219, u220, u221, u222, u223, u224, u225, u226, u227, u228, u229, u230, u231, u232, u233, u234, u235, u236, u237, u238, u239, u240, u241, u242, u243, u244, u245, u246, u247, u248, u249, u250, u251, u252, u253, u254, u255, u256, u257, u258], []⟩ W) :
    Code.wp Try.prog (headC code20i) Q ⟨#[u0, .int .u8 way, u2, u3, u4, u5, u6, .pointer (some ⟨LB, 0, none⟩), .int .i64 (i : Int), .pointer (some ⟨FB, 0, none⟩), u10, u11, u12, u13, u14, u15, u16, u17, u18, u19, u20, u21, u22, u23, u24, u25, u26, u27, u28, u29, u30, u31, u32, u33, u34, u35, u36, u37, u38, u39, u40, u41, u42, u43, u44, u45, u46, u47, u48, u49, u50, u51, u52, u53, u54, u55, u56, u57, u58, u59, u60, u61, u62, u63, u64, u65, u66, u67, u68, u69, u70, u71, u72, u73, u74, u75, u76, u77, u78, u79, u80, u81, u82, u83, u84, u85, u86, u87, u88, u89, u90, u91, u92, u93, u94, u95, u96, u97, u98, u99, u100, u101, u102, u103, u104, u105, u106, u107, u108, u109, u110, u111, u112, u113, u114, u115, u116, u117, u118, u119, u120, u121, u122, u123, u124, u125, u126, u127, u128, u129, u130, u131, u132, u133, u134, u135, u136, u137, u138, u139, u140, u141, u142, u143, u144, u145, u146, u147, u148, u149, u150, u151, u152, u153, u154, u155, u156, u157, u158, u159, u160, u161, u162, u163, u164, u165, u166, u167, u168, u169, u170, u171, u172, u173, u174, u175, u176, u177, u178, u179, u180, u181, u182, u183, u184, u185, u186, u187, u188, u189, u190, u191, u192, u193, u194, u195, u196, u197, u198, u199, u200, u201, u202, u203, u204, u205, u206, u207, u208, u209, u210, u211, u212, u213, u214, u215, u216, u217, u218, u219, u220, u221, u222, u223, u224, u225, u226, u227, u228, u229, u230, u231, u232, u233, u234, u235, u236, u237, u238, u239, u240, u241, u242, u243, u244, u245, u246, u247, u248, u249, u250, u251, u252, u253, u254, u255, u256, u257, u258], []⟩ W := by
  have a7 : W.cell? ⟨LB, 7, none⟩ = some (.int .i64 l.count) := cell_heap hL (o := 7) rfl
  have b7 : W.cell? ⟨FB, 7, none⟩ = some (.int .i64 g.count) := cell_heap hF (o := 7) rfl
  have d0 : W.cell? ⟨DB, 0, none⟩ = some (.bool nb) := cell_heap hD (o := 0) rfl
  have lL := heap_lt hL
  have lF := heap_lt hF
  have lD := heap_lt hD
  obtain ⟨r, hr⟩ : ∃ r, (ask w3 i l.count g.count) = r := ⟨_, rfl⟩
  rw [hr] at hQ
  have HQ := hide hQ
  clear hQ hL hF hD
  unfold ask at hr
  obtain ⟨c1, hc1⟩ : ∃ c, (w3 == 1) = c := ⟨_, rfl⟩
  obtain ⟨c2, hc2⟩ : ∃ c, decide (i = 0) = c := ⟨_, rfl⟩
  obtain ⟨c3, hc3⟩ : ∃ c, (l.count == g.count) = c := ⟨_, rfl⟩
  rw [hc1, hc2, hc3] at hr
  have n1 : (w3 != 1) = !c1 := by rw [← hc1]; rfl
  have n2 : ((i : Int) == 0) = c2 := by rw [← hc2]; by_cases h : i = 0 <;> simp [h]
  have n3 : (l.count != g.count) = !c3 := by rw [← hc3]; rfl
  clear hc2
  conv => arg 2; whnf
  cases c1 with
  | false =>
    clear hc3
    subst hr
    go_wp2_with fail
    exact HQ.out _ _ _ _ _ _ _ _ _ _ _ _ _ 
  | true =>
  cases c2 with
  | true =>
    clear hc3
    subst hr
    go_wp2_with fail
    exact HQ.out _ _ _ _ _ _ _ _ _ _ _ _ _ 
  | false =>
  cases c3 with
  | true =>
    subst hr
    go_wp2_with fail
    exact HQ.out _ _ _ _ _ _ _ _ _ _ _ _ _ 
  | false =>
    subst hr
    go_wp2_with fail
    exact HQ.out _ _ _ _ _ _ _ _ _ _ _ _ _ 
noncomputable def code22i : Code := (Try.f18.body.bind (findQ 22)).getD .skip
set_option maxRecDepth 1000000 in
set_option maxHeartbeats 16000000 in
theorem ask_22 {u0 u3 u4 u5 u6 u10 u11 u12 u13 u14 u15 u16 u17 u18 u19 u20 u21 u22 u23 u24 u25 u26 u27 u28 u29 u30 u31 u32 u33 u34 u35 u36 u37 u38 u39 u40 u41 u42 u43 u44 u45 u46 u47 u48 u49 u50 u51 u52 u53 u54 u55 u56 u57 u58 u59 u60 u61 u62 u63 u64 u65 u66 u67 u68 u69 u70 u71 u72 u73 u74 u75 u76 u77 u78 u79 u80 u81 u82 u83 u84 u85 u86 u87 u88 u89 u90 u91 u92 u93 u94 u95 u96 u97 u98 u99 u100 u101 u102 u103 u104 u105 u106 u107 u108 u109 u110 u111 u112 u113 u114 u115 u116 u117 u118 u119 u120 u121 u122 u123 u124 u125 u126 u127 u128 u129 u130 u131 u132 u133 u134 u135 u136 u137 u138 u139 u140 u141 u142 u143 u144 u145 u146 u147 u148 u149 u150 u151 u152 u153 u154 u155 u156 u157 u158 u159 u160 u161 u162 u163 u164 u165 u166 u167 u168 u169 u170 u171 u172 u173 u174 u175 u176 u177 u178 u179 u180 u181 u182 u183 u184 u185 u186 u187 u188 u189 u190 u191 u192 u193 u194 u195 u196 u197 u198 u199 u200 u201 u202 u203 u204 u205 u206 u207 u208 u209 u210 u211 u212 u213 u214 u215 u216 u217 u218 u219 u220 u221 u222 u223 u224 u225 u226 u227 u228 u229 u230 u231 u232 u233 u234 u235 u236 u237 u238 u239 u240 u241 u242 u243 u244 u245 u246 u247 u248 u249 u250 u251 u252 u253 u254 u255 u256 u257 u258 : Value} {W : World} {LB FB DB i n cap : Nat} {nb : Bool} {A : Option Addr} {way w3 : Int} {vl vg : Value} {l g : Fd} (hL : W.heap[LB]? = some (.cells (l.cellsAt vl) 59 (0, 0))) (hF : W.heap[FB]? = some (.cells (g.cellsAt vg) 59 (0, 0))) (hD : W.heap[DB]? = some (.cells #[.bool nb, .slice A n cap] 52 (0, 0))) (hw : way.tmod 3 = w3)
    (Q : Exit → Act → World → Prop) (hQ : ∀ (s148 s149 s150 s151 s152 s153 s154 s155 s156 s157 s158 s159 s160 s161 s162 s163 s164 : Value), Q .normal ⟨#[u0, .int .u8 way, .pointer (some ⟨DB, 0, none⟩), u3, u4, u5, u6, .pointer (some ⟨LB, 0, none⟩), .int .i64 (i : Int), .pointer (some ⟨FB, 0, none⟩), u10, u11, u12, u13, u14, u15, u16, u17, u18, u19, u20, u21, u22, u23, u24, u25, u26, u27, u28, u29, u30, u31, u32, u33, u34, u35, u36, u37, u38, u39, u40, u41, u42, u43, u44, u45, u46, u47, u48, u49, u50, u51, u52, u53, u54, u55, u56, u57, u58, u59, u60, u61, u62, u63, u64, u65, u66, u67, u68, u69, u70, u71, u72, u73, u74, u75, u76, u77, u78, u79, u80, u81, u82, u83, u84, u85, u86, u87, u88, u89, u90, u91, u92, u93, u94, u95, u96, u97, u98, u99, u100, u101, u102, u103, u104, u105, u106, u107, u108, u109, u110, u111, u112, u113, u114, u115, u116, u117, u118, u119, u120, u121, u122, u123, u124, u125, u126, u127, u128, u129, u130, u131, u132, u133, u134, u135, u136, u137, u138, u139, u140, u141, u142, u143, u144, u145, u146, u147, s148, s149, s150, s151, s152, s153, s154, s155, s156, s157, s158, s159, s160, s161, s162, s163, s164, .bool (nb && ask w3 i l.report g.report), u166, u167, u168, u169, u170, u171, u172, u173, u174, u175, u176, u177, u178, u179, u180, u181, u182, u183, u184, u185, u186, u187, u188, u189, u190, u191, u192, u193, u194, u195, u196, u197, u198, u199, u200, u201, u202, u203, u204, u205, u206, u207, u208, u209, u210, u211, u212, u213, u214, u215, u216, u217, u218, u219, u220, u221, u222, u223, u224, u225, u226, u227, u228, u229, u230, u231, u232, u233, u234, u235, u236, u237, u238, u239, u240, u241, u242, u243, u244, u245, u246, u247, u248, u249, u250, u251, u252, u253, u254, u255, u256, u257, u258], []⟩ W) :
    Code.wp Try.prog (headC code22i) Q ⟨#[u0, .int .u8 way, .pointer (some ⟨DB, 0, none⟩), u3, u4, u5, u6, .pointer (some ⟨LB, 0, none⟩), .int .i64 (i : Int), .pointer (some ⟨FB, 0, none⟩), u10, u11, u12, u13, u14, u15, u16, u17, u18, u19, u20, u21, u22, u23, u24, u25, u26, u27, u28, u29, u30, u31, u32, u33, u34, u35, u36, u37, u38, u39, u40, u41, u42, u43, u44, u45, u46, u47, u48, u49, u50, u51, u52, u53, u54, u55, u56, u57, u58, u59, u60, u61, u62, u63, u64, u65, u66, u67, u68, u69, u70, u71, u72, u73, u74, u75, u76, u77, u78, u79, u80, u81, u82, u83, u84, u85, u86, u87, u88, u89, u90, u91, u92, u93, u94, u95, u96, u97, u98, u99, u100, u101, u102, u103, u104, u105, u106, u107, u108, u109, u110, u111, u112, u113, u114, u115, u116, u117, u118, u119, u120, u121, u122, u123, u124, u125, u126, u127, u128, u129, u130, u131, u132, u133, u134, u135, u136, u137, u138, u139, u140, u141, u142, u143, u144, u145, u146, u147, u148, u149, u150, u151, u152, u153, u154, u155, u156, u157, u158, u159, u160, u161, u162, u163, u164, u165, u166, u167, u168, u169, u170, u171, u172, u173, u174, u175, u176, u177, u178, u179, u180, u181, u182, u183, u184, u185, u186, u187, u188, u189, u190, u191, u192, u193, u194, u195, u196, u197, u198, u199, u200, u201, u202, u203, u204, u205, u206, u207, u208, u209, u210, u211, u212, u213, u214, u215, u216, u217, u218, u219, u220, u221, u222, u223, u224, u225, u226, u227, u228, u229, u230, u231, u232, u233, u234, u235, u236, u237, u238, u239, u240, u241, u242, u243, u244, u245, u246, u247, u248, u249, u250, u251, u252, u253, u254, u255, u256, u257, u258], []⟩ W := by
  have a1 : W.cell? ⟨LB, 1, none⟩ = some (.int .u8 l.report) := cell_heap hL (o := 1) rfl
  have b1 : W.cell? ⟨FB, 1, none⟩ = some (.int .u8 g.report) := cell_heap hF (o := 1) rfl
  have d0 : W.cell? ⟨DB, 0, none⟩ = some (.bool nb) := cell_heap hD (o := 0) rfl
  have lL := heap_lt hL
  have lF := heap_lt hF
  have lD := heap_lt hD
  obtain ⟨r, hr⟩ : ∃ r, (nb && ask w3 i l.report g.report) = r := ⟨_, rfl⟩
  rw [hr] at hQ
  have HQ := hide hQ
  clear hQ hL hF hD
  unfold ask at hr
  obtain ⟨c1, hc1⟩ : ∃ c, (w3 == 1) = c := ⟨_, rfl⟩
  obtain ⟨c2, hc2⟩ : ∃ c, decide (i = 0) = c := ⟨_, rfl⟩
  obtain ⟨c3, hc3⟩ : ∃ c, (l.report == g.report) = c := ⟨_, rfl⟩
  rw [hc1, hc2, hc3] at hr
  have n1 : (w3 != 1) = !c1 := by rw [← hc1]; rfl
  have n2 : ((i : Int) == 0) = c2 := by rw [← hc2]; by_cases h : i = 0 <;> simp [h]
  have n3 : (l.report != g.report) = !c3 := by rw [← hc3]; rfl
  clear hc2
  conv => arg 2; whnf
  cases nb with
  | false =>
    clear hc1 hc3
    subst hr
    go_wp2_with fail
    exact HQ.out _ _ _ _ _ _ _ _ _ _ _ _ _ _ _ _ _ 
  | true =>
  cases c1 with
  | false =>
    clear hc3
    subst hr
    go_wp2_with fail
    exact HQ.out _ _ _ _ _ _ _ _ _ _ _ _ _ _ _ _ _ 
  | true =>
  cases c2 with
  | true =>
    clear hc3
    subst hr
    go_wp2_with fail
    exact HQ.out _ _ _ _ _ _ _ _ _ _ _ _ _ _ _ _ _ 
  | false =>
  cases c3 with
  | true =>
    subst hr
    go_wp2_with fail
    exact HQ.out _ _ _ _ _ _ _ _ _ _ _ _ _ _ _ _ _ 
  | false =>
    subst hr
    go_wp2_with fail
    exact HQ.out _ _ _ _ _ _ _ _ _ _ _ _ _ _ _ _ _ 
end Go.Proofs.Ytegdigfcgeoboaa
/- The law's items of plain data: its end. Printed by gen_we.py. -/
namespace Go.Proofs.Ytegdigfcgeoboaa
open Go.RowKit
attribute [local go_sem ↓] Go.wp_at_zero Go.wp_at_succ

def isAt (k : Nat) : Code → Bool
  | .seq (.region i _ _) _ => i == k
  | .region i _ _ => i == k
  | _ => false
/-- what comes behind the node that begins with a region -/
def afterQ (k : Nat) : Code → Option Code
  | .seq a c => if isAt k a then some c else (afterQ k a).orElse fun _ => afterQ k c
  | .block _ c => afterQ k c
  | .scope c => afterQ k c
  | .loop c => afterQ k c
  | .cond _ c e => (afterQ k c).orElse fun _ => afterQ k e
  | _ => none
theorem IS.ownm {w W : World} {DB LB FB n cap m B : Nat} {nb : Bool} {A : Option Addr} {v vl vg : Value} {outL : List It} {l g : Fd} {us : List Int} (h : IS w W DB LB FB nb A n cap m B v vl vg outL l g us) : Own itT 29 w.heap.size W v m outL := by have h1 := h.own; rw [h.len] at h1; exact h1
theorem IS.row {w W : World} {DB LB FB n cap m B : Nat} {nb : Bool} {A : Option Addr} {v vl vg : Value} {outL : List It} {l g : Fd} {us : List Int} (h : IS w W DB LB FB nb A n cap m B v vl vg outL l g us) : IS w (W.setRow LB (g.cellsAt vg)) DB LB FB nb A n cap m B v vg vg outL g g us := by
  obtain ⟨l1, l2, l3, l4⟩ := h.low
  have hne : ∀ b, b ≠ LB → (W.setRow LB (g.cellsAt vg)).heap[b]? = W.heap[b]? := fun b hb => by simp [World.setRow, Array.getElem?_modify, show ¬ LB = b from fun e => hb e.symm]
  have hDL : DB ≠ LB := fun e => by
    have h1 := h.dbox
    rw [e, h.lbox] at h1
    injection h1 with h1
    injection h1 with _ h2 _
    exact absurd h2 (by decide)
  exact ⟨below_row h.kept l2 _, (hne DB hDL).trans h.dbox, heap_row h.lbox, (hne FB (fun e => l4 e.symm)).trans h.fbox, h.low, h.own.sameB flat_it (fun b hb => hne b (fun e => own_type_ne h.own h.lbox (by decide) (e ▸ hb))), h.us.sameB flat_u32 (fun b hb => hne b (fun e => own_type_ne h.us h.lbox (by decide) (e ▸ hb))), h.len, h.bnd⟩
theorem IS.one {w W : World} {DB LB FB n cap m B : Nat} {nb : Bool} {A : Option Addr} {v vl vg : Value} {outL : List It} {l g : Fd} {us : List Int} (h : IS w W DB LB FB nb A n cap m B v vl vg outL l g us) : vg.oneCell' = true := by
  obtain ⟨_, _, e, _⟩ := h.us.isSlice
  rw [e]; rfl
noncomputable def code36i : Code := (Try.f18.body.bind (findQ 36)).getD .skip
set_option maxRecDepth 1000000 in
set_option maxHeartbeats 16000000 in
theorem p36 {u0 u3 u4 u10 u11 u12 u13 u14 u15 u16 u17 u18 u19 u20 u21 u22 u23 u24 u25 u26 u27 u28 u29 u30 u31 u32 u33 u34 u35 u36 u37 u38 u39 u40 u41 u42 u43 u44 u45 u46 u47 u48 u49 u50 u51 u52 u53 u54 u55 u56 u57 u58 u59 u60 u61 u62 u63 u64 u65 u66 u67 u68 u69 u70 u71 u72 u73 u74 u75 u76 u77 u78 u79 u80 u81 u82 u83 u84 u85 u86 u87 u88 u89 u90 u91 u92 u93 u94 u95 u96 u97 u98 u99 u100 u101 u102 u103 u104 u105 u106 u107 u108 u109 u110 u111 u112 u113 u114 u115 u116 u117 u118 u119 u120 u121 u122 u123 u124 u125 u126 u127 u128 u129 u130 u131 u132 u133 u134 u135 u136 u137 u138 u139 u140 u141 u142 u143 u144 u145 u146 u147 u148 u149 u150 u151 u152 u153 u154 u155 u156 u157 u158 u159 u160 u161 u162 u163 u164 u165 u166 u167 u168 u169 u170 u171 u172 u173 u174 u175 u176 u177 u178 u179 u180 u181 u182 u183 u184 u185 u186 u187 u188 u189 u190 u191 u192 u193 u194 u195 u196 u197 u198 u199 u200 u201 u202 u203 u204 u205 u206 u207 u208 u209 u210 u211 u212 u213 u214 u215 u216 u217 u218 u219 u220 u221 u222 u223 u224 u225 u226 u227 u228 u229 u230 u231 u232 u233 u234 u235 u236 u237 u238 u239 u240 u241 u242 u243 u244 u245 u246 u247 u248 u249 u250 u251 u252 u253 u254 u255 u256 u257 u258 : Value} {w W : World} {DB LB FB ba oa n cap m B BF i dd dfin : Nat} {nb : Bool} {way w3 w2 : Int} {v vl vg : Value} {outL fin : List It} {l g : Fd} {us : List Int} {f : PF} (hS : IS w W DB LB FB nb (some ⟨ba, oa, none⟩) n cap m B v vl vg outL l g us) (he : outL = fin) (hB : B ≤ BF)
    (Q : Exit → Act → World → Prop)  (hQ : ∀ (s10 s11 s12 s13 s35 s36 s37 s38 s39 s40 s41 s42 s43 s44 s45 s46 s47 s48 s49 s50 s51 s52 s53 s54 s55 s56 s57 s58 s59 s60 s61 s62 s63 s64 s65 s66 s67 s68 s69 s70 s71 s72 s73 s74 s75 s76 s77 s78 s79 s80 s81 s82 s83 s84 s85 s86 s87 s88 s89 s90 s91 s92 s93 s94 s95 s96 s97 s98 s99 s100 s101 s102 s103 s104 s105 s106 s107 s108 s109 s110 s111 s112 s113 s114 s115 s116 s117 s118 s119 s120 s121 s122 s123 s124 s125 s126 s127 s128 s129 s130 s131 s132 s133 s134 s135 s136 s137 s138 s139 s140 s141 s142 s143 s144 s145 s146 s147 s148 s149 s150 s151 s152 s153 s154 s155 s156 s157 s158 s159 s160 s161 s162 s163 s164 s165 s166 s167 s168 s169 s170 s171 s172 s173 s174 s175 s176 s177 s178 s179 s180 s181 s182 s183 s184 s185 s186 s187 s188 s189 s190 s191 s192 s193 s194 s195 s196 s197 s198 s199 s200 s201 s202 s203 s204 s205 s206 s207 s208 s209 s210 s211 s212 s213 s214 s215 s216 s217 s218 s219 s220 s221 s222 s223 s224 s225 s226 s227 s228 s229 s230 s231 s232 s233 s234 s235 s236 s237 s238 s239 s240 s241 s242 s243 s244 s245 s246 s247 s248 s249 : Value) (v' : Value) (m' : Nat) (w' : World), IS w w' DB LB FB nb (some ⟨ba, oa, none⟩) n cap m' BF v' vg vg fin g g us → Q .normal ⟨#[u0, .int .u8 way, .pointer (some ⟨DB, 0, none⟩), u3, u4, v', .int .i64 (dfin : Int), .pointer (some ⟨LB, 0, none⟩), .int .i64 (i : Int), .pointer (some ⟨FB, 0, none⟩), s10, s11, s12, s13, u14, u15, u16, u17, u18, u19, u20, u21, u22, u23, u24, u25, u26, u27, u28, u29, u30, u31, u32, u33, u34, s35, s36, s37, s38, s39, s40, s41, s42, s43, s44, s45, s46, s47, s48, s49, s50, s51, s52, s53, s54, s55, s56, s57, s58, s59, s60, s61, s62, s63, s64, s65, s66, s67, s68, s69, s70, s71, s72, s73, s74, s75, s76, s77, s78, s79, s80, s81, s82, s83, s84, s85, s86, s87, s88, s89, s90, s91, s92, s93, s94, s95, s96, s97, s98, s99, s100, s101, s102, s103, s104, s105, s106, s107, s108, s109, s110, s111, s112, s113, s114, s115, s116, s117, s118, s119, s120, s121, s122, s123, s124, s125, s126, s127, s128, s129, s130, s131, s132, s133, s134, s135, s136, s137, s138, s139, s140, s141, s142, s143, s144, s145, s146, s147, s148, s149, s150, s151, s152, s153, s154, s155, s156, s157, s158, s159, s160, s161, s162, s163, s164, s165, s166, s167, s168, s169, s170, s171, s172, s173, s174, s175, s176, s177, s178, s179, s180, s181, s182, s183, s184, s185, s186, s187, s188, s189, s190, s191, s192, s193, s194, s195, s196, s197, s198, s199, s200, s201, s202, s203, s204, s205, s206, s207, s208, s209, s210, s211, s212, s213, s214, s215, s216, s217, s218, s219, s220, s221, s222, s223, s224, s225, s226, s227, s228, s229, s230, s231, s232, s233, s234, s235, s236, s237, s238, s239, s240, s241, s242, s243, s244, s245, s246, s247, s248, s249, u250, u251, u252, u253, u254, u255, u256, u257, u258], []⟩ w') :
    Code.wp Try.prog (headC code36i) Q ⟨#[u0, .int .u8 way, .pointer (some ⟨DB, 0, none⟩), u3, u4, v, .int .i64 (dfin : Int), .pointer (some ⟨LB, 0, none⟩), .int .i64 (i : Int), .pointer (some ⟨FB, 0, none⟩), u10, u11, u12, u13, u14, u15, u16, u17, u18, u19, u20, u21, u22, u23, u24, u25, u26, u27, u28, u29, u30, u31, u32, u33, u34, u35, u36, u37, u38, u39, u40, u41, u42, u43, u44, u45, u46, u47, u48, u49, u50, u51, u52, u53, u54, u55, u56, u57, u58, u59, u60, u61, u62, u63, u64, u65, u66, u67, u68, u69, u70, u71, u72, u73, u74, u75, u76, u77, u78, u79, u80, u81, u82, u83, u84, u85, u86, u87, u88, u89, u90, u91, u92, u93, u94, u95, u96, u97, u98, u99, u100, u101, u102, u103, u104, u105, u106, u107, u108, u109, u110, u111, u112, u113, u114, u115, u116, u117, u118, u119, u120, u121, u122, u123, u124, u125, u126, u127, u128, u129, u130, u131, u132, u133, u134, u135, u136, u137, u138, u139, u140, u141, u142, u143, u144, u145, u146, u147, u148, u149, u150, u151, u152, u153, u154, u155, u156, u157, u158, u159, u160, u161, u162, u163, u164, u165, u166, u167, u168, u169, u170, u171, u172, u173, u174, u175, u176, u177, u178, u179, u180, u181, u182, u183, u184, u185, u186, u187, u188, u189, u190, u191, u192, u193, u194, u195, u196, u197, u198, u199, u200, u201, u202, u203, u204, u205, u206, u207, u208, u209, u210, u211, u212, u213, u214, u215, u216, u217, u218, u219, u220, u221, u222, u223, u224, u225, u226, u227, u228, u229, u230, u231, u232, u233, u234, u235, u236, u237, u238, u239, u240, u241, u242, u243, u244, u245, u246, u247, u248, u249, u250, u251, u252, u253, u254, u255, u256, u257, u258], []⟩ W := by
  obtain ⟨AV, cv, hvg, _, _⟩ := hS.us.isSlice
  subst hvg
  have HS := hide hS
  have HQ := hide hQ
  have hL := hS.lbox
  have hF := hS.fbox
  subst he
  unfold Fd.cellsAt at hL hF
  have HL := hide hL
  have HF := hide hF
  clear hS hQ hL hF
  conv => arg 2; whnf
  go_wp2_with (first
    | (refine wpList_load_row rfl 59 (.tmp 9) rfl _ (by rfl) 59 _ (0, 0) _ HF.out Try.underlying59 rfl (by kernel_rfl) ?_)
    | (refine wpList_store_row rfl 59 (.tmp 7) (.tmp 249) rfl LB (g.cellsAt (.slice AV us.length cv)) (by rfl) (by rfl) 59 _ HL.out (by kernel_rfl) (by rfl) (by unfold Fd.cellsAt; simp [Value.oneCell']) ?_))
  exact HQ.out _ _ _ _ _ _ _ _ _ _ _ _ _ _ _ _ _ _ _ _ _ _ _ _ _ _ _ _ _ _ _ _ _ _ _ _ _ _ _ _ _ _ _ _ _ _ _ _ _ _ _ _ _ _ _ _ _ _ _ _ _ _ _ _ _ _ _ _ _ _ _ _ _ _ _ _ _ _ _ _ _ _ _ _ _ _ _ _ _ _ _ _ _ _ _ _ _ _ _ _ _ _ _ _ _ _ _ _ _ _ _ _ _ _ _ _ _ _ _ _ _ _ _ _ _ _ _ _ _ _ _ _ _ _ _ _ _ _ _ _ _ _ _ _ _ _ _ _ _ _ _ _ _ _ _ _ _ _ _ _ _ _ _ _ _ _ _ _ _ _ _ _ _ _ _ _ _ _ _ _ _ _ _ _ _ _ _ _ _ _ _ _ _ _ _ _ _ _ _ _ _ _ _ _ _ _ _ _ _ _ _ _ _ _ _ _ _ _ _ _ _ _ (HS.out.row.bump hB)
end Go.Proofs.Ytegdigfcgeoboaa
/- The law's items of plain data: two more conditions. Printed by gen_we.py. -/
namespace Go.Proofs.Ytegdigfcgeoboaa
open Go.RowKit
attribute [local go_sem ↓] Go.wp_at_zero Go.wp_at_succ

noncomputable def code33i : Code := (Try.f18.body.bind (findQ 33)).getD .skip
set_option maxRecDepth 1000000 in
set_option maxHeartbeats 16000000 in
theorem ask_33 {u0 u1 u3 u4 u5 u7 u9 u10 u11 u12 u13 u14 u15 u16 u17 u18 u19 u20 u21 u22 u23 u24 u25 u26 u27 u28 u29 u30 u31 u32 u33 u34 u35 u36 u37 u38 u39 u40 u41 u42 u43 u44 u45 u46 u47 u48 u49 u50 u51 u52 u53 u54 u55 u56 u57 u58 u59 u60 u61 u62 u63 u64 u65 u66 u67 u68 u69 u70 u71 u72 u73 u74 u75 u76 u77 u78 u79 u80 u81 u82 u83 u84 u85 u86 u87 u88 u89 u90 u91 u92 u93 u94 u95 u96 u97 u98 u99 u100 u101 u102 u103 u104 u105 u106 u107 u108 u109 u110 u111 u112 u113 u114 u115 u116 u117 u118 u119 u120 u121 u122 u123 u124 u125 u126 u127 u128 u129 u130 u131 u132 u133 u134 u135 u136 u137 u138 u139 u140 u141 u142 u143 u144 u145 u146 u147 u148 u149 u150 u151 u152 u153 u154 u155 u156 u157 u158 u159 u160 u161 u162 u163 u164 u165 u166 u167 u168 u169 u170 u171 u172 u173 u174 u175 u176 u177 u178 u179 u180 u181 u182 u183 u184 u185 u186 u187 u188 u189 u190 u191 u192 u193 u194 u195 u196 u197 u198 u199 u200 u201 u202 u203 u204 u205 u206 u207 u208 u209 u210 u211 u212 u213 u214 u215 u216 u217 u218 u219 u220 u221 u222 u223 u224 u225 u226 u227 u228 u229 u230 u231 u232 u233 u234 u235 u236 u237 u238 u239 u240 u241 u242 u243 u244 u245 u246 u247 u248 u249 u250 u251 u252 u253 u254 u255 u256 u257 u258 : Value} {W : World} {DB ba oa i n cap dd : Nat} {nb : Bool} {f : PF} (hD : W.heap[DB]? = some (.cells #[.bool nb, .slice (some ⟨ba, oa, none⟩) n cap] 52 (0, 0))) (h7 : W.cell? ⟨ba, oa + i * 8 + 7, none⟩ = some (.int .u8 f.flags)) (hba : ba < W.heap.size) (hin : (i : Int) < (n : Int)) (hfl : u8k f.flags)
    (Q : Exit → Act → World → Prop) (hQ : ∀ (s231 s232 s233 s234 s235 s236 s237 s238 s239 s240 s241 : Value), Q .normal ⟨#[u0, u1, .pointer (some ⟨DB, 0, none⟩), u3, u4, u5, .int .i64 (dd : Int), u7, .int .i64 (i : Int), u9, u10, u11, u12, u13, u14, u15, u16, u17, u18, u19, u20, u21, u22, u23, u24, u25, u26, u27, u28, u29, u30, u31, u32, u33, u34, u35, u36, u37, u38, u39, u40, u41, u42, u43, u44, u45, u46, u47, u48, u49, u50, u51, u52, u53, u54, u55, u56, u57, u58, u59, u60, u61, u62, u63, u64, u65, u66, u67, u68, u69, u70, u71, u72, u73, u74, u75, u76, u77, u78, u79, u80, u81, u82, u83, u84, u85, u86, u87, u88, u89, u90, u91, u92, u93, u94, u95, u96, u97, u98, u99, u100, u101, u102, u103, u104, u105, u106, u107, u108, u109, u110, u111, u112, u113, u114, u115, u116, u117, u118, u119, u120, u121, u122, u123, u124, u125, u126, u127, u128, u129, u130, u131, u132, u133, u134, u135, u136, u137, u138, u139, u140, u141, u142, u143, u144, u145, u146, u147, u148, u149, u150, u151, u152, u153, u154, u155, u156, u157, u158, u159, u160, u161, u162, u163, u164, u165, u166, u167, u168, u169, u170, u171, u172, u173, u174, u175, u176, u177, u178, u179, u180, u181, u182, u183, u184, u185, u186, u187, u188, u189, u190, u191, u192, u193, u194, u195, u196, u197, u198, u199, u200, u201, u202, u203, u204, u205, u206, u207, u208, u209, u210, u211, u212, u213, u214, u215, u216, u217, u218, u219, u220, u221, u222, u223, u224, u225, u226, u227, u228, u229, u230, s231, s232, s233, s234, s235, s236, s237, s238, s239, s240, s241, .bool (endsB f dd), u243, u244, u245, u246, u247, u248, u249, u250, u251, u252, u253, u254, u255, u256, u257, u258], []⟩ W) :
    Code.wp Try.prog (headC code33i) Q ⟨#[u0, u1, .pointer (some ⟨DB, 0, none⟩), u3, u4, u5, .int .i64 (dd : Int), u7, .int .i64 (i : Int), u9, u10, u11, u12, u13, u14, u15, u16, u17, u18, u19, u20, u21, u22, u23, u24, u25, u26, u27, u28, u29, u30, u31, u32, u33, u34, u35, u36, u37, u38, u39, u40, u41, u42, u43, u44, u45, u46, u47, u48, u49, u50, u51, u52, u53, u54, u55, u56, u57, u58, u59, u60, u61, u62, u63, u64, u65, u66, u67, u68, u69, u70, u71, u72, u73, u74, u75, u76, u77, u78, u79, u80, u81, u82, u83, u84, u85, u86, u87, u88, u89, u90, u91, u92, u93, u94, u95, u96, u97, u98, u99, u100, u101, u102, u103, u104, u105, u106, u107, u108, u109, u110, u111, u112, u113, u114, u115, u116, u117, u118, u119, u120, u121, u122, u123, u124, u125, u126, u127, u128, u129, u130, u131, u132, u133, u134, u135, u136, u137, u138, u139, u140, u141, u142, u143, u144, u145, u146, u147, u148, u149, u150, u151, u152, u153, u154, u155, u156, u157, u158, u159, u160, u161, u162, u163, u164, u165, u166, u167, u168, u169, u170, u171, u172, u173, u174, u175, u176, u177, u178, u179, u180, u181, u182, u183, u184, u185, u186, u187, u188, u189, u190, u191, u192, u193, u194, u195, u196, u197, u198, u199, u200, u201, u202, u203, u204, u205, u206, u207, u208, u209, u210, u211, u212, u213, u214, u215, u216, u217, u218, u219, u220, u221, u222, u223, u224, u225, u226, u227, u228, u229, u230, u231, u232, u233, u234, u235, u236, u237, u238, u239, u240, u241, u242, u243, u244, u245, u246, u247, u248, u249, u250, u251, u252, u253, u254, u255, u256, u257, u258], []⟩ W := by
  have d1 : W.cell? ⟨DB, 1, none⟩ = some (.slice (some ⟨ba, oa, none⟩) n cap) := cell_heap hD (o := 1) rfl
  have lD := heap_lt hD
  have hi0 : (0 : Int) ≤ (i : Int) := by omega
  obtain ⟨r, hr⟩ : ∃ r, (endsB f dd) = r := ⟨_, rfl⟩
  rw [hr] at hQ
  have HQ := hide hQ
  clear hQ hD
  unfold endsB at hr
  obtain ⟨c1, hc1⟩ : ∃ c, (f.flags / 16 % 2 == 1) = c := ⟨_, rfl⟩
  obtain ⟨c2, hc2⟩ : ∃ c, decide (1 < dd) = c := ⟨_, rfl⟩
  rw [hc1, hc2] at hr
  have n1 : (bits .and .u8 f.flags 16 != 0) = c1 := by rw [bits16 hfl, ← hc1]; rcases (show f.flags / 16 % 2 = 0 ∨ f.flags / 16 % 2 = 1 by omega) with e | e <;> rw [e] <;> rfl
  have n1' : (bits .and .u8 f.flags 16 == 0) = !c1 := by rw [← n1]; simp [bne]
  have n2 : decide (1 < (dd : Int)) = c2 := by rw [← hc2]; congr 1; exact propext (by omega)
  clear hc1 hc2
  conv => arg 2; whnf
  cases c1 with
  | false =>
    subst hr
    go_wp2_with fail
    exact HQ.out _ _ _ _ _ _ _ _ _ _ _ 
  | true =>
  cases c2 with
  | true =>
    have n3 : 1 < (dd : Int) := of_decide_eq_true n2
    subst hr
    go_wp2_with fail
    exact HQ.out _ _ _ _ _ _ _ _ _ _ _ 
  | false =>
    have n3 : ¬ (1 < (dd : Int)) := of_decide_eq_false n2
    subst hr
    go_wp2_with fail
    exact HQ.out _ _ _ _ _ _ _ _ _ _ _ 
noncomputable def code9i : Code := (Try.f18.body.bind (findQ 9)).getD .skip
set_option maxRecDepth 1000000 in
set_option maxHeartbeats 16000000 in
theorem ask_9 {u0 u1 u3 u4 u5 u7 u9 u10 u11 u12 u13 u14 u15 u16 u17 u18 u19 u20 u21 u22 u23 u24 u25 u26 u27 u28 u29 u30 u31 u32 u33 u34 u35 u36 u37 u38 u39 u40 u41 u42 u43 u44 u45 u46 u47 u48 u49 u50 u51 u52 u53 u54 u55 u56 u57 u58 u59 u60 u61 u62 u63 u64 u65 u66 u67 u68 u69 u70 u71 u72 u73 u74 u75 u76 u77 u78 u79 u80 u81 u82 u83 u84 u85 u86 u87 u88 u89 u90 u91 u92 u93 u94 u95 u96 u97 u98 u99 u100 u101 u102 u103 u104 u105 u106 u107 u108 u109 u110 u111 u112 u113 u114 u115 u116 u117 u118 u119 u120 u121 u122 u123 u124 u125 u126 u127 u128 u129 u130 u131 u132 u133 u134 u135 u136 u137 u138 u139 u140 u141 u142 u143 u144 u145 u146 u147 u148 u149 u150 u151 u152 u153 u154 u155 u156 u157 u158 u159 u160 u161 u162 u163 u164 u165 u166 u167 u168 u169 u170 u171 u172 u173 u174 u175 u176 u177 u178 u179 u180 u181 u182 u183 u184 u185 u186 u187 u188 u189 u190 u191 u192 u193 u194 u195 u196 u197 u198 u199 u200 u201 u202 u203 u204 u205 u206 u207 u208 u209 u210 u211 u212 u213 u214 u215 u216 u217 u218 u219 u220 u221 u222 u223 u224 u225 u226 u227 u228 u229 u230 u231 u232 u233 u234 u235 u236 u237 u238 u239 u240 u241 u242 u243 u244 u245 u246 u247 u248 u249 u250 u251 u252 u253 u254 u255 u256 u257 u258 : Value} {W : World} {DB ba oa i n cap dd : Nat} {nb : Bool} {f : PF} (hD : W.heap[DB]? = some (.cells #[.bool nb, .slice (some ⟨ba, oa, none⟩) n cap] 52 (0, 0))) (h7 : W.cell? ⟨ba, oa + i * 8 + 7, none⟩ = some (.int .u8 f.flags)) (hba : ba < W.heap.size) (hin : (i : Int) < (n : Int)) (hfl : u8k f.flags)
    (Q : Exit → Act → World → Prop) (hQ : ∀ (s35 s36 s37 s38 s39 s40 s41 s42 s43 s44 s45 : Value), Q .normal ⟨#[u0, u1, .pointer (some ⟨DB, 0, none⟩), u3, u4, u5, .int .i64 (dd : Int), u7, .int .i64 (i : Int), u9, u10, u11, u12, u13, u14, u15, u16, u17, u18, u19, u20, u21, u22, u23, u24, u25, u26, u27, u28, u29, u30, u31, u32, u33, u34, s35, s36, s37, s38, s39, s40, s41, s42, s43, s44, s45, .bool (beginsB f dd), u47, u48, u49, u50, u51, u52, u53, u54, u55, u56, u57, u58, u59, u60, u61, u62, u63, u64, u65, u66, u67, u68, u69, u70, u71, u72, u73, u74, u75, u76, u77, u78, u79, u80, u81, u82, u83, u84, u85, u86, u87, u88, u89, u90, u91, u92, u93, u94, u95, u96, u97, u98, u99, u100, u101, u102, u103, u104, u105, u106, u107, u108, u109, u110, u111, u112, u113, u114, u115, u116, u117, u118, u119, u120, u121, u122, u123, u124, u125, u126, u127, u128, u129, u130, u131, u132, u133, u134, u135, u136, u137, u138, u139, u140, u141, u142, u143, u144, u145, u146, u147, u148, u149, u150, u151, u152, u153, u154, u155, u156, u157, u158, u159, u160, u161, u162, u163, u164, u165, u166, u167, u168, u169, u170, u171, u172, u173, u174, u175, u176, u177, u178, u179, u180, u181, u182, u183, u184, u185, u186, u187, u188, u189, u190, u191, u192, u193, u194, u195, u196, u197, u198, u199, u200, u201, u202, u203, u204, u205, u206, u207, u208, u209, u210, u211, u212, u213, u214, u215, u216, u217, u218, u219, u220, u221, u222, u223, u224, u225, u226, u227, u228, u229, u230, u231, u232, u233, u234, u235, u236, u237, u238, u239, u240, u241, u242, u243, u244, u245, u246, u247, u248, u249, u250, u251, u252, u253, u254, u255, u256, u257, u258], []⟩ W) :
    Code.wp Try.prog (headC code9i) Q ⟨#[u0, u1, .pointer (some ⟨DB, 0, none⟩), u3, u4, u5, .int .i64 (dd : Int), u7, .int .i64 (i : Int), u9, u10, u11, u12, u13, u14, u15, u16, u17, u18, u19, u20, u21, u22, u23, u24, u25, u26, u27, u28, u29, u30, u31, u32, u33, u34, u35, u36, u37, u38, u39, u40, u41, u42, u43, u44, u45, u46, u47, u48, u49, u50, u51, u52, u53, u54, u55, u56, u57, u58, u59, u60, u61, u62, u63, u64, u65, u66, u67, u68, u69, u70, u71, u72, u73, u74, u75, u76, u77, u78, u79, u80, u81, u82, u83, u84, u85, u86, u87, u88, u89, u90, u91, u92, u93, u94, u95, u96, u97, u98, u99, u100, u101, u102, u103, u104, u105, u106, u107, u108, u109, u110, u111, u112, u113, u114, u115, u116, u117, u118, u119, u120, u121, u122, u123, u124, u125, u126, u127, u128, u129, u130, u131, u132, u133, u134, u135, u136, u137, u138, u139, u140, u141, u142, u143, u144, u145, u146, u147, u148, u149, u150, u151, u152, u153, u154, u155, u156, u157, u158, u159, u160, u161, u162, u163, u164, u165, u166, u167, u168, u169, u170, u171, u172, u173, u174, u175, u176, u177, u178, u179, u180, u181, u182, u183, u184, u185, u186, u187, u188, u189, u190, u191, u192, u193, u194, u195, u196, u197, u198, u199, u200, u201, u202, u203, u204, u205, u206, u207, u208, u209, u210, u211, u212, u213, u214, u215, u216, u217, u218, u219, u220, u221, u222, u223, u224, u225, u226, u227, u228, u229, u230, u231, u232, u233, u234, u235, u236, u237, u238, u239, u240, u241, u242, u243, u244, u245, u246, u247, u248, u249, u250, u251, u252, u253, u254, u255, u256, u257, u258], []⟩ W := by
  have d1 : W.cell? ⟨DB, 1, none⟩ = some (.slice (some ⟨ba, oa, none⟩) n cap) := cell_heap hD (o := 1) rfl
  have lD := heap_lt hD
  have hi0 : (0 : Int) ≤ (i : Int) := by omega
  obtain ⟨r, hr⟩ : ∃ r, (beginsB f dd) = r := ⟨_, rfl⟩
  rw [hr] at hQ
  have HQ := hide hQ
  clear hQ hD
  unfold beginsB at hr
  obtain ⟨c1, hc1⟩ : ∃ c, (f.flags / 8 % 2 == 1) = c := ⟨_, rfl⟩
  obtain ⟨c2, hc2⟩ : ∃ c, decide (dd < 5) = c := ⟨_, rfl⟩
  rw [hc1, hc2] at hr
  have n1 : (bits .and .u8 f.flags 8 != 0) = c1 := by rw [bits8 hfl, ← hc1]; rcases (show f.flags / 8 % 2 = 0 ∨ f.flags / 8 % 2 = 1 by omega) with e | e <;> rw [e] <;> rfl
  have n1' : (bits .and .u8 f.flags 8 == 0) = !c1 := by rw [← n1]; simp [bne]
  have n2 : decide ((dd : Int) < 5) = c2 := by rw [← hc2]; congr 1; exact propext (by omega)
  clear hc1 hc2
  conv => arg 2; whnf
  cases c1 with
  | false =>
    subst hr
    go_wp2_with fail
    exact HQ.out _ _ _ _ _ _ _ _ _ _ _ 
  | true =>
  cases c2 with
  | true =>
    have n3 : (dd : Int) < 5 := of_decide_eq_true n2
    subst hr
    go_wp2_with fail
    exact HQ.out _ _ _ _ _ _ _ _ _ _ _ 
  | false =>
    have n3 : ¬ ((dd : Int) < 5) := of_decide_eq_false n2
    subst hr
    go_wp2_with fail
    exact HQ.out _ _ _ _ _ _ _ _ _ _ _ 
end Go.Proofs.Ytegdigfcgeoboaa
