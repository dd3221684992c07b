/- The law Text: the loop over a setting's endpoints. Printed by gen_lq.py. -/
import Derived.Test.YtjgncofhobhjdaaDoorChecked
import Derived.Deep.RegionHeld3
import Derived.Deep.DrawnRows
import Derived.Deep.DeepCutAuto
import Derived.Deep.LoopGhost
import Derived.Outline
import Derived.Handy
import Derived.OwnWalk
import Derived.BigQuiet
import Derived.Test.YtjgncofhobhjdaaDoorLvK
import Derived.Test.YtjgncofhobhjdaaDoorLwK
import Derived.Test.YtjgncofhobhjdaaDoorLxK
set_option linter.unusedVariables false
set_option linter.unusedSimpArgs false
set_option linter.unusedSectionVars false
namespace Go.Proofs.YtjgncofhobhjdaaDoor
open Go.RowKit
attribute [local go_sem ↓] Go.wp_at_zero Go.wp_at_succ

theorem okEp_kind {e : EpD} (h : okEp e = true) : e.kind = 1 ∨ e.kind = 2 ∨ e.kind = 3 := by
  unfold okEp at h
  simp only [Bool.and_eq_true, decide_eq_true_eq] at h
  have h2 := h.2
  by_cases k2 : e.kind = 2
  · exact .inr (.inl k2)
  rw [if_neg k2] at h2
  by_cases k1 : e.kind = 1
  · exact .inl k1
  rw [if_neg k1] at h2
  by_cases k3 : e.kind = 3
  · exact .inr (.inr k3)
  rw [if_neg k3] at h2
  cases h2
theorem takeFlatE {l : List EpD} {i : Nat} {x : EpD} (h : l[i]? = some x) : epText (l.take (i + 1)) = epText (l.take i) ++ lineW (epW x) := by
  obtain ⟨h1, h2⟩ := List.getElem?_eq_some_iff.1 h
  unfold epText
  rw [List.take_succ_eq_append_getElem h1, h2, List.flatMap_append]
  simp
noncomputable def code22t : Code := (Tryd.f8.body.bind (findR 22)).getD .skip
set_option maxRecDepth 1000000 in
set_option maxHeartbeats 16000000 in
theorem ep_all {u0 u1 u2 u3 u5 u6 u8 u9 u10 u11 u12 u13 u14 u15 u16 u17 u18 u19 u20 u21 u22 u23 u24 u25 u26 u27 u28 u29 u30 u31 u32 u33 u34 u35 u36 u37 u38 u39 u40 u41 u42 u43 u44 u45 u46 u47 u48 u49 u50 u51 u52 u53 u54 u55 u56 u57 u58 u59 u60 u61 u62 u63 u64 u65 u66 u67 u68 u69 u70 u71 u72 u73 u74 u75 u76 u77 u78 u79 u80 u81 u82 u83 u84 u85 u86 u87 u88 u89 u90 u91 u92 u93 u94 u95 u96 u97 u98 u99 u100 u101 u102 u103 u104 u105 u106 u107 u108 u109 u110 u111 u112 u113 u114 u115 u116 u117 u118 u119 u120 u121 u122 u123 u124 u125 u126 u127 u128 u129 u130 u131 u132 u133 u134 u135 u136 u137 u138 u139 u140 u141 u142 u143 u144 u145 u146 u147 u148 u149 u150 u151 u152 u153 u154 u155 u156 u157 u158 u159 u160 u161 u162 u163 u164 u165 u166 u167 u168 u169 u170 u171 u172 u173 u174 u175 u176 u177 u178 u179 u180 u181 u182 u183 u184 u185 u186 u187 u188 u189 u190 u191 u192 u193 u194 u195 u196 u197 u198 u199 u200 u201 u202 u203 u204 u205 u206 u207 u208 u209 u210 u211 u212 u213 u214 u215 : Value} {AT e2 ce : Nat} {E : Option Addr} {es : List EpD} {acc4 : List UInt8} {wr : World} (lA0 : AT < wr.heap.size) (a80 : wr.cell? ⟨AT, 8, none⟩ = some (.slice E e2 ce)) (hq6 : Sl epT wr (low wr.heap.size) E e2 es) (hoks : ∀ e ∈ es, okEp e = true) (hce1 : e2 ≤ ce) (hce2 : ce ≤ maxLen) (he2 : e2 ≤ 1000) (hlen5 : acc4.length ≤ 2000000) (hT : Tabs wr)
    (Q : Exit → Act → World → Prop) (K : Act → World → Prop) (hK : ∀ a w', Code.wp Tryd.prog (restC code22t) Q a w' → K a w')
    (hQ : ∀ (s9 s10 s11 s159 s160 s161 s162 s163 s164 s165 s166 s167 s168 s169 s170 s171 s172 s173 s174 s175 s176 s177 s178 s179 s180 s181 s182 s183 s184 s185 s186 s187 s188 s189 s190 s191 s192 s193 s194 s195 s196 s197 s198 s199 s200 s201 s202 s203 s204 s205 s206 s207 s208 : Value) (w' : World), Kept wr w' → Q .normal ⟨#[u0, u1, u2, u3, .string (B8 (acc4 ++ epText es)), u5, u6, .pointer (some ⟨AT, 0, none⟩), u8, s9, s10, s11, u12, u13, u14, u15, u16, u17, u18, u19, u20, u21, u22, u23, u24, u25, u26, u27, u28, u29, u30, u31, u32, u33, u34, u35, u36, u37, u38, u39, u40, u41, u42, u43, u44, u45, u46, u47, u48, u49, u50, u51, u52, u53, u54, u55, u56, u57, u58, u59, u60, u61, u62, u63, u64, u65, u66, u67, u68, u69, u70, u71, u72, u73, u74, u75, u76, u77, u78, u79, u80, u81, u82, u83, u84, u85, u86, u87, u88, u89, u90, u91, u92, u93, u94, u95, u96, u97, u98, u99, u100, u101, u102, u103, u104, u105, u106, u107, u108, u109, u110, u111, u112, u113, u114, u115, u116, u117, u118, u119, u120, u121, u122, u123, u124, u125, u126, u127, u128, u129, u130, u131, u132, u133, u134, u135, u136, u137, u138, u139, u140, u141, u142, u143, u144, u145, u146, u147, u148, u149, u150, u151, u152, u153, u154, u155, u156, u157, u158, s159, s160, s161, s162, s163, s164, s165, s166, s167, s168, s169, s170, s171, s172, s173, s174, s175, s176, s177, s178, s179, s180, s181, s182, s183, s184, s185, s186, s187, s188, s189, s190, s191, s192, s193, s194, s195, s196, s197, s198, s199, s200, s201, s202, s203, s204, s205, s206, s207, s208, u209, u210, u211, u212, u213, u214, u215], []⟩ w') :
    Code.wp Tryd.prog (headC code22t) (Exit.then K Q) ⟨#[u0, u1, u2, u3, .string (B8 acc4), u5, u6, .pointer (some ⟨AT, 0, none⟩), u8, u9, u10, u11, u12, u13, u14, u15, u16, u17, u18, u19, u20, u21, u22, u23, u24, u25, u26, u27, u28, u29, u30, u31, u32, u33, u34, u35, u36, u37, u38, u39, u40, u41, u42, u43, u44, u45, u46, u47, u48, u49, u50, u51, u52, u53, u54, u55, u56, u57, u58, u59, u60, u61, u62, u63, u64, u65, u66, u67, u68, u69, u70, u71, u72, u73, u74, u75, u76, u77, u78, u79, u80, u81, u82, u83, u84, u85, u86, u87, u88, u89, u90, u91, u92, u93, u94, u95, u96, u97, u98, u99, u100, u101, u102, u103, u104, u105, u106, u107, u108, u109, u110, u111, u112, u113, u114, u115, u116, u117, u118, u119, u120, u121, u122, u123, u124, u125, u126, u127, u128, u129, u130, u131, u132, u133, u134, u135, u136, u137, u138, u139, u140, u141, u142, u143, u144, u145, u146, u147, u148, u149, u150, u151, u152, u153, u154, u155, u156, u157, u158, u159, u160, u161, u162, u163, u164, u165, u166, u167, u168, u169, u170, u171, u172, u173, u174, u175, u176, u177, u178, u179, u180, u181, u182, u183, u184, u185, u186, u187, u188, u189, u190, u191, u192, u193, u194, u195, u196, u197, u198, u199, u200, u201, u202, u203, u204, u205, u206, u207, u208, u209, u210, u211, u212, u213, u214, u215], []⟩ wr := by
  unfold maxLen at hce2
  have HQ := hide hQ
  have Hq6 := hide hq6
  have Hoks := hide hoks
  have HT := hide hT
  have He2 := hide hq6.1
  clear hQ hq6 hoks hT
  conv => arg 2; whnf
  conv at hK => enter [a, w', 1, 2]; whnf
  go_wp2_with fail
  obtain ⟨w0, rfl⟩ : ∃ w0, w0 = wr := ⟨_, rfl⟩
  go_loopg [4, 9] e2 (fun g s4 s9 wx => ∃ r : Nat, r + g = e2 ∧ s4 = .string (B8 (acc4 ++ epText (es.take r))) ∧ s9 = .int .i64 r ∧ Kept w0 wx ∧ (acc4 ++ epText (es.take r)).length ≤ 2000000 + 400 * r)
  case atStart => exact ⟨0, by omega, by simp [epText], rfl, Below.refl _ _, by simpa [epText] using hlen5⟩
  case round =>
    obtain ⟨r, hr, rfl, rfl, hkr9, hlr⟩ := hrel
    have a8 := (hkr9.cell (p := ⟨AT, 8, none⟩) lA0).trans a80
    have lA := Nat.lt_of_lt_of_le lA0 hkr9.size
    have Hr := hide hr
    clear hr
    by_cases hlr2 : r < e2
    case neg =>
      have hge2 : (e2 : Int) ≤ (r : Int) := by omega
      have htk : es.take r = es := List.take_of_length_le (by rw [He2.out]; omega)
      rw [htk]
      clear htk hlr
      go_wp2_with fail
      exact HQ.out _ _ _ _ _ _ _ _ _ _ _ _ _ _ _ _ _ _ _ _ _ _ _ _ _ _ _ _ _ _ _ _ _ _ _ _ _ _ _ _ _ _ _ _ _ _ _ _ _ _ _ _ _ _ hkr9
    case pos =>
    obtain ⟨ep, be, offe, cse, hee, rfl, hbe, hrel', hce⟩ := Hq6.out.at hlr2
    obtain ⟨rfl, heok⟩ : cse = ep.cells ∧ ep.ok := hrel'
    have hoke := Hoks.out ep (List.mem_of_getElem? hee)
    have hn15 : ep.num ≤ 15 := by have := okEp_num hoke; omega
    have h8 := takeFlatE hee
    have hbe' := Nat.lt_of_lt_of_le hbe hkr9.size
    have y := fun (o : Nat) v (hv : ep.cells[o]? = some v) => (hkr9.cell (p := ⟨be, offe + r * 5 + o, none⟩) hbe).trans (hce o v hv)
    have z0 := y 0 _ rfl
    rw [Nat.add_zero] at z0
    have z1 := y 1 _ rfl
    have z2 : _ = some (Value.int .u8 ep.kind) := y 2 _ rfl
    have z3 := y 3 _ rfl
    have z4 := y 4 _ rfl
    have hr0 : (0 : Int) ≤ (r : Int) := by omega
    have hrm : (r : Int) < (e2 : Int) := by omega
    have hwr : IntKind.i64.wrap ((r : Int) + 1) = ((r + 1 : Nat) : Int) := by rw [IntKind.wrap_i64]; omega
    have hTr := HT.out.kept hkr9
    have hep : acc4 ++ epText (es.take r) ++ lawEp ep = acc4 ++ epText (es.take (r + 1)) := by rw [h8, lawEp_eq hoke, List.append_assoc]
    have hlen9 : (acc4 ++ epText (es.take (r + 1))).length ≤ 2000000 + 400 * (r + 1) := by
      have hln := epLine_len heok
      rw [lawEp_eq hoke] at hln
      rw [← hep, List.length_append]
      omega
    have hlm : (acc4 ++ epText (es.take r)).length ≤ 3000000 := by omega
    have hkind := okEp_kind hoke
    obtain ⟨aex, haex⟩ : ∃ aex, acc4 ++ epText (es.take r) = aex := ⟨_, rfl⟩
    rw [haex] at hlm hep
    rw [haex]
    have Hep := hide hep
    have Hlen9 := hide hlen9
    clear y hce hee h8 hep hlen9 hlr haex hoke hlen5
    rcases hkind with hkd | hkd | hkd
    all_goals rw [hkd] at z2
    · go_upto_region 25 with (fail)
      refine ep_line1 lA a8 hbe' z0 z1 z2 z3 z4 hkd heok hn15 hr0 hrm hTr hlm _ _ ?_ ?_
      · assumption
      intro s10 s11 s159 s160 s161 s162 s163 s164 s165 s166 s167 s168 s169 s170 s171 s172 s173 s174 s175 s176 s177 s178 s179 s180 s181 s182 s183 s184 s185 s186 s187 s188 s189 s190 s191 s192 s193 s194 s195 s196 s197 s198 s199 s200 s201 s202 s203 s204 s205 s206 s207 s208 w7 hk7
      rw [Hep.out]
      clear z0 z1 z2 z3 z4 a8 lA hbe'
      go_wp2_with fail
      go_roundg (gk - 1)
      case measure => have := Hr.out; omega
      case rel => exact ⟨r + 1, by have := Hr.out; omega, rfl, by first | rfl | go_num, hkr9.trans' hk7, Hlen9.out⟩
    · go_upto_region 25 with (fail)
      refine ep_line2 lA a8 hbe' z0 z1 z2 z3 z4 hkd heok hn15 hr0 hrm hTr hlm _ _ ?_ ?_
      · assumption
      intro s10 s11 s159 s160 s161 s162 s163 s164 s165 s166 s167 s168 s169 s170 s171 s172 s173 s174 s175 s176 s177 s178 s179 s180 s181 s182 s183 s184 s185 s186 s187 s188 s189 s190 s191 s192 s193 s194 s195 s196 s197 s198 s199 s200 s201 s202 s203 s204 s205 s206 s207 s208 w7 hk7
      rw [Hep.out]
      clear z0 z1 z2 z3 z4 a8 lA hbe'
      go_wp2_with fail
      go_roundg (gk - 1)
      case measure => have := Hr.out; omega
      case rel => exact ⟨r + 1, by have := Hr.out; omega, rfl, by first | rfl | go_num, hkr9.trans' hk7, Hlen9.out⟩
    · go_upto_region 25 with (fail)
      refine ep_line3 lA a8 hbe' z0 z1 z2 z3 z4 hkd heok hn15 hr0 hrm hTr hlm _ _ ?_ ?_
      · assumption
      intro s10 s11 s159 s160 s161 s162 s163 s164 s165 s166 s167 s168 s169 s170 s171 s172 s173 s174 s175 s176 s177 s178 s179 s180 s181 s182 s183 s184 s185 s186 s187 s188 s189 s190 s191 s192 s193 s194 s195 s196 s197 s198 s199 s200 s201 s202 s203 s204 s205 s206 s207 s208 w7 hk7
      rw [Hep.out]
      clear z0 z1 z2 z3 z4 a8 lA hbe'
      go_wp2_with fail
      go_roundg (gk - 1)
      case measure => have := Hr.out; omega
      case rel => exact ⟨r + 1, by have := Hr.out; omega, rfl, by first | rfl | go_num, hkr9.trans' hk7, Hlen9.out⟩
end Go.Proofs.YtjgncofhobhjdaaDoor
