/- The items of plain data: their beginning. -/
import Derived.Test.YtegdigfcgeoboaaChecked
import Derived.Deep.RegionHeld3
import Derived.Deep.DrawnRows
import Derived.Deep.DeepCutAuto
import Derived.Deep.LoopGhost
import Derived.Outline
import Derived.Handy
import Derived.OwnWalk
import Derived.BigQuiet
import Derived.Test.YtegdigfcgeoboaaN33
set_option linter.unusedVariables false
set_option linter.unusedSimpArgs false
set_option linter.unusedSectionVars false
/- The law's items of plain data: the greatest value. Printed by gen_we.py. -/
namespace Go.Proofs.Ytegdigfcgeoboaa
open Go.RowKit
attribute [local go_sem ↓] Go.wp_at_zero Go.wp_at_succ

noncomputable def after16i : Code := (Try.f18.body.bind (afterQ 16)).getD .skip
set_option maxRecDepth 1000000 in
set_option maxHeartbeats 16000000 in
theorem p16 {u0 u3 u4 u10 u11 u12 u13 u14 u15 u16 u17 u18 u19 u20 u21 u22 u23 u24 u25 u26 u27 u28 u29 u30 u31 u32 u33 u34 u35 u36 u37 u38 u39 u40 u41 u42 u43 u44 u45 u46 u47 u48 u49 u50 u51 u52 u53 u54 u55 u56 u57 u58 u59 u60 u61 u62 u63 u64 u65 u66 u67 u68 u69 u70 u71 u72 u73 u74 u75 u76 u77 u78 u79 u80 u81 u82 u83 u84 u85 u86 u87 u88 u89 u90 u91 u92 u93 u94 u95 u96 u97 u98 u99 u100 u101 u102 u103 u104 u105 u106 u107 u108 u109 u110 u111 u112 u113 u114 u115 u116 u117 u118 u119 u120 u121 u122 u123 u124 u125 u126 u127 u128 u129 u130 u131 u132 u133 u134 u135 u136 u137 u138 u139 u140 u141 u142 u143 u144 u145 u146 u147 u148 u149 u150 u151 u152 u153 u154 u155 u156 u157 u158 u159 u160 u161 u162 u163 u164 u165 u166 u167 u168 u169 u170 u171 u172 u173 u174 u175 u176 u177 u178 u179 u180 u181 u182 u183 u184 u185 u186 u187 u188 u189 u190 u191 u192 u193 u194 u195 u196 u197 u198 u199 u200 u201 u202 u203 u204 u205 u206 u207 u208 u209 u210 u211 u212 u213 u214 u215 u216 u217 u218 u219 u220 u221 u222 u223 u224 u225 u226 u227 u228 u229 u230 u231 u232 u233 u234 u235 u236 u237 u238 u239 u240 u241 u242 u243 u244 u245 u246 u247 u248 u249 u250 u251 u252 u253 u254 u255 u256 u257 u258 : Value} {w W : World} {DB LB FB ba oa n cap m B BF i dd dfin : Nat} {nb : Bool} {way w3 w2 : Int} {mm : Nat} {fi : Int} {v vl vg : Value} {outL fin : List It} {l g : Fd} {us : List Int} {f : PF} (hS : IS w W DB LB FB nb (some ⟨ba, oa, none⟩) n cap m B v vl vg outL l g us) (h7 : w.cell? ⟨ba, oa + i * 8 + 7, none⟩ = some (.int .u8 f.flags)) (hba : ba < w.heap.size) (hin : (i : Int) < (n : Int)) (hfl : u8k f.flags) (hkd : g.kind = 1 ∨ g.kind = 2 ∨ g.kind = 3) (hfi : 0 ≤ fi ∧ fi < 256) (hmm : mm ≤ 5) (hus : usesI w2 f = if w2 = 0 then [itemS 2 1 fi false, itemS 2 2 (fi + (mm : Int)) false] else (List.range (mm + 1)).map fun (k : Nat) => itemS 2 0 (fi + (k : Int)) false) (hw : (way.tdiv 3).tmod 2 = w2) (hway : u8k way) (he : outL ++ (i4 w3 i l g ++ (i5 w3 i l g ++ (i6 w3 i l g ++ (i7 nb w3 i l g ++ (usesI w2 f ++ (i9 f g ++ i10 f dd)))))) = fin) (hd : d2 f dd = dfin) (hB : B + 12 ≤ BF) (hBF : BF ≤ 900) (hd6 : dd ≤ 6) (hul : us = (List.range (mm + 1)).map fun (q : Nat) => 458752 + fi + (q : Int)) (hw3 : way.tmod 3 = w3) (hgreport : 0 ≤ g.report ∧ g.report < 4294967296) (hgcount : 0 ≤ g.count ∧ g.count < 4294967296) (hgsize : 0 ≤ g.size ∧ g.size < 4294967296) (hghi : -32768 ≤ g.hi ∧ g.hi < 2147483648)
    (Q : Exit → Act → World → Prop) (K K2 : Act → World → Prop) (hK : ∀ a w', Code.wp Try.prog (restC code16i) (Exit.then K2 Q) a w' → K a w') (hK2 : ∀ a w', Code.wp Try.prog after16i Q a w' → K2 a w') (hQ : ∀ (s10 s11 s12 s13 s35 s36 s37 s38 s39 s40 s41 s42 s43 s44 s45 s46 s47 s48 s49 s50 s51 s52 s53 s54 s55 s56 s57 s58 s59 s60 s61 s62 s63 s64 s65 s66 s67 s68 s69 s70 s71 s72 s73 s74 s75 s76 s77 s78 s79 s80 s81 s82 s83 s84 s85 s86 s87 s88 s89 s90 s91 s92 s93 s94 s95 s96 s97 s98 s99 s100 s101 s102 s103 s104 s105 s106 s107 s108 s109 s110 s111 s112 s113 s114 s115 s116 s117 s118 s119 s120 s121 s122 s123 s124 s125 s126 s127 s128 s129 s130 s131 s132 s133 s134 s135 s136 s137 s138 s139 s140 s141 s142 s143 s144 s145 s146 s147 s148 s149 s150 s151 s152 s153 s154 s155 s156 s157 s158 s159 s160 s161 s162 s163 s164 s165 s166 s167 s168 s169 s170 s171 s172 s173 s174 s175 s176 s177 s178 s179 s180 s181 s182 s183 s184 s185 s186 s187 s188 s189 s190 s191 s192 s193 s194 s195 s196 s197 s198 s199 s200 s201 s202 s203 s204 s205 s206 s207 s208 s209 s210 s211 s212 s213 s214 s215 s216 s217 s218 s219 s220 s221 s222 s223 s224 s225 s226 s227 s228 s229 s230 s231 s232 s233 s234 s235 s236 s237 s238 s239 s240 s241 s242 s243 s244 s245 s246 s247 s248 s249 : Value) (v' : Value) (m' : Nat) (w' : World), IS w w' DB LB FB nb (some ⟨ba, oa, none⟩) n cap m' BF v' vg vg fin g g us → Q .normal ⟨#[u0, .int .u8 way, .pointer (some ⟨DB, 0, none⟩), u3, u4, v', .int .i64 (dfin : Int), .pointer (some ⟨LB, 0, none⟩), .int .i64 (i : Int), .pointer (some ⟨FB, 0, none⟩), s10, s11, s12, s13, u14, u15, u16, u17, u18, u19, u20, u21, u22, u23, u24, u25, u26, u27, u28, u29, u30, u31, u32, u33, u34, s35, s36, s37, s38, s39, s40, s41, s42, s43, s44, s45, s46, s47, s48, s49, s50, s51, s52, s53, s54, s55, s56, s57, s58, s59, s60, s61, s62, s63, s64, s65, s66, s67, s68, s69, s70, s71, s72, s73, s74, s75, s76, s77, s78, s79, s80, s81, s82, s83, s84, s85, s86, s87, s88, s89, s90, s91, s92, s93, s94, s95, s96, s97, s98, s99, s100, s101, s102, s103, s104, s105, s106, s107, s108, s109, s110, s111, s112, s113, s114, s115, s116, s117, s118, s119, s120, s121, s122, s123, s124, s125, s126, s127, s128, s129, s130, s131, s132, s133, s134, s135, s136, s137, s138, s139, s140, s141, s142, s143, s144, s145, s146, s147, s148, s149, s150, s151, s152, s153, s154, s155, s156, s157, s158, s159, s160, s161, s162, s163, s164, s165, s166, s167, s168, s169, s170, s171, s172, s173, s174, s175, s176, s177, s178, s179, s180, s181, s182, s183, s184, s185, s186, s187, s188, s189, s190, s191, s192, s193, s194, s195, s196, s197, s198, s199, s200, s201, s202, s203, s204, s205, s206, s207, s208, s209, s210, s211, s212, s213, s214, s215, s216, s217, s218, s219, s220, s221, s222, s223, s224, s225, s226, s227, s228, s229, s230, s231, s232, s233, s234, s235, s236, s237, s238, s239, s240, s241, s242, s243, s244, s245, s246, s247, s248, s249, u250, u251, u252, u253, u254, u255, u256, u257, u258], []⟩ w') :
    Code.wp Try.prog (headC code16i) (Exit.then K (Exit.then K2 Q)) ⟨#[u0, .int .u8 way, .pointer (some ⟨DB, 0, none⟩), u3, u4, v, .int .i64 (dd : Int), .pointer (some ⟨LB, 0, none⟩), .int .i64 (i : Int), .pointer (some ⟨FB, 0, none⟩), u10, u11, u12, u13, u14, u15, u16, u17, u18, u19, u20, u21, u22, u23, u24, u25, u26, u27, u28, u29, u30, u31, u32, u33, u34, u35, u36, u37, u38, u39, u40, u41, u42, u43, u44, u45, u46, u47, u48, u49, u50, u51, u52, u53, u54, u55, u56, u57, u58, u59, u60, u61, u62, u63, u64, u65, u66, u67, u68, u69, u70, u71, u72, u73, u74, u75, u76, u77, u78, u79, u80, u81, u82, u83, u84, u85, u86, u87, u88, u89, u90, u91, u92, u93, u94, u95, u96, u97, u98, u99, u100, u101, u102, u103, u104, u105, u106, u107, u108, u109, u110, u111, u112, u113, u114, u115, u116, u117, u118, u119, u120, u121, u122, u123, u124, u125, u126, u127, u128, u129, u130, u131, u132, u133, u134, u135, u136, u137, u138, u139, u140, u141, u142, u143, u144, u145, u146, u147, u148, u149, u150, u151, u152, u153, u154, u155, u156, u157, u158, u159, u160, u161, u162, u163, u164, u165, u166, u167, u168, u169, u170, u171, u172, u173, u174, u175, u176, u177, u178, u179, u180, u181, u182, u183, u184, u185, u186, u187, u188, u189, u190, u191, u192, u193, u194, u195, u196, u197, u198, u199, u200, u201, u202, u203, u204, u205, u206, u207, u208, u209, u210, u211, u212, u213, u214, u215, u216, u217, u218, u219, u220, u221, u222, u223, u224, u225, u226, u227, u228, u229, u230, u231, u232, u233, u234, u235, u236, u237, u238, u239, u240, u241, u242, u243, u244, u245, u246, u247, u248, u249, u250, u251, u252, u253, u254, u255, u256, u257, u258], []⟩ W := by
  have hgvv : (-32768 ≤ g.hi ∧ g.hi < 2147483648) := hghi
  obtain ⟨gv, hgve⟩ : ∃ z, g.hi = z := ⟨_, rfl⟩
  have hgv := hgvv
  rw [hgve] at hgv
  obtain ⟨i29, hi29, hz0, hz1, hz2⟩ := info_parts info29
  have HS := hide hS
  have HQ := hide hQ
  have hkc : Kept W W := Below.refl _ _
  have hmb := hS.bnd
  obtain ⟨y0, hy0⟩ : ∃ y, itemS 1 2 gv true = y := ⟨_, rfl⟩
  have hit0 := item17n 1 2 gv true (show (-32768 ≤ gv ∧ gv < 2147483648) by exact hgv) y0 hy0
  have hyok : ∀ x ∈ [y0], x.ok := by
    intro x hx
    simp only [List.mem_cons, List.not_mem_nil, or_false] at hx
    rcases hx with rfl
    · rw [← hy0]; exact (itemS_ok (by omega) (by omega)).2
  have Hy0 := hide hy0
  clear hy0
  have hL := hS.lbox
  have hF := hS.fbox
  have hD := hS.dbox
  have b5 : W.cell? ⟨FB, 5, none⟩ = some (.int .i64 gv) := by rw [← hgve]; exact cell_heap hF (o := 5) rfl
  have lF := heap_lt hF
  have He := hide he
  have Hge := hide hgve
  have Hus := hide hus
  have Hul := hide hul
  have Hkd := hide hkd
  have Hgv := hide hgvv
  clear hS hQ he hgve hus hul hkd hgvv
  conv => arg 2; whnf
  conv at hK => enter [a, w', 1, 2]; whnf
  conv at hK2 => enter [a, w', 1, 2]; whnf
  refine ask_16 (l := l) (g := g) (w3 := w3) (nb := nb) hL hF hD hw3 _ ?_
  intro s88 s89 s90 s91 s92 s93 s94 s95 s96 s97 s98 s99 s100
  clear hL hF hD
  cases hb : (ask w3 i l.hi g.hi) with
  | true =>
    have hgr : i4 w3 i l g = [y0] := by unfold i4; rw [hb, Hge.out, Hy0.out]; rfl
    have Hgr := hide hgr
    clear hgr hb
    go_upto_region 18 with (first
      | (go_at_call 17; refine (hit0 _).mono ?_; rintro e w5 ⟨rfl, hkq0⟩; replace hkc := hkc.trans' hkq0; try dsimp only)
      | (at_builtin; refine wpList_append_sl (T := itT) rfl (.tmp 102) (.tmp 106) 22 rfl w.heap.size 29 i29 _ 24 Try.underlying22 hi29 hz0 hz1 hz2 rfl (by decide) _ m outL (by rfl) ((HS.out.ownm.kept hkc).alloc _) (some ⟨_, 0, none⟩) 1 1 [y0] (by rfl) (by exact sl_it_heap (heap_at _ rfl) rfl hyok ⟨by simp, fun e => by have h9 := ((HS.out.ownm.kept hkc).lt e).2; omega⟩) (by_one29 _ _) (by unfold maxLen; omega) (by omega) (by have h9 := HS.out.kept.size; have h8 := hkc.size; simp; omega) ?_; intro v9 w9 hown9 hg9 hb9 hat9))
    refine p18 (f := f) (w2 := w2) (w3 := w3) (((HS.out.keep hkc).keep ((Below.refl _ _).alloc (Nat.le_refl _) _)).grow hg9 hb9 hown9) h7 hba hin hfl Hkd.out hfi hmm Hus.out hw hway (by rw [← He.out, Hgr.out]; simp only [List.append_assoc]) hd (by simp only [List.length_cons, List.length_nil]; omega) hBF hd6 Hul.out hw3 hgreport hgcount hgsize _ _ _ ?_ ?_ HQ.out <;> assumption
  | false =>
    have hgr : i4 w3 i l g = [] := by unfold i4; rw [hb]; rfl
    have Hgr := hide hgr
    clear hgr hb
    go_upto_region 18 with fail
    refine p18 (f := f) (w2 := w2) (w3 := w3) HS.out h7 hba hin hfl Hkd.out hfi hmm Hus.out hw hway (by rw [← He.out, Hgr.out]; rfl) hd (by omega) hBF hd6 Hul.out hw3 hgreport hgcount hgsize _ _ _ ?_ ?_ HQ.out <;> assumption
end Go.Proofs.Ytegdigfcgeoboaa
/- The law's items of plain data: the least value. Printed by gen_we.py. -/
namespace Go.Proofs.Ytegdigfcgeoboaa
open Go.RowKit
attribute [local go_sem ↓] Go.wp_at_zero Go.wp_at_succ

noncomputable def after14i : Code := (Try.f18.body.bind (afterQ 14)).getD .skip
set_option maxRecDepth 1000000 in
set_option maxHeartbeats 16000000 in
theorem p14 {u0 u3 u4 u10 u11 u12 u13 u14 u15 u16 u17 u18 u19 u20 u21 u22 u23 u24 u25 u26 u27 u28 u29 u30 u31 u32 u33 u34 u35 u36 u37 u38 u39 u40 u41 u42 u43 u44 u45 u46 u47 u48 u49 u50 u51 u52 u53 u54 u55 u56 u57 u58 u59 u60 u61 u62 u63 u64 u65 u66 u67 u68 u69 u70 u71 u72 u73 u74 u75 u76 u77 u78 u79 u80 u81 u82 u83 u84 u85 u86 u87 u88 u89 u90 u91 u92 u93 u94 u95 u96 u97 u98 u99 u100 u101 u102 u103 u104 u105 u106 u107 u108 u109 u110 u111 u112 u113 u114 u115 u116 u117 u118 u119 u120 u121 u122 u123 u124 u125 u126 u127 u128 u129 u130 u131 u132 u133 u134 u135 u136 u137 u138 u139 u140 u141 u142 u143 u144 u145 u146 u147 u148 u149 u150 u151 u152 u153 u154 u155 u156 u157 u158 u159 u160 u161 u162 u163 u164 u165 u166 u167 u168 u169 u170 u171 u172 u173 u174 u175 u176 u177 u178 u179 u180 u181 u182 u183 u184 u185 u186 u187 u188 u189 u190 u191 u192 u193 u194 u195 u196 u197 u198 u199 u200 u201 u202 u203 u204 u205 u206 u207 u208 u209 u210 u211 u212 u213 u214 u215 u216 u217 u218 u219 u220 u221 u222 u223 u224 u225 u226 u227 u228 u229 u230 u231 u232 u233 u234 u235 u236 u237 u238 u239 u240 u241 u242 u243 u244 u245 u246 u247 u248 u249 u250 u251 u252 u253 u254 u255 u256 u257 u258 : Value} {w W : World} {DB LB FB ba oa n cap m B BF i dd dfin : Nat} {nb : Bool} {way w3 w2 : Int} {mm : Nat} {fi : Int} {v vl vg : Value} {outL fin : List It} {l g : Fd} {us : List Int} {f : PF} (hS : IS w W DB LB FB nb (some ⟨ba, oa, none⟩) n cap m B v vl vg outL l g us) (h7 : w.cell? ⟨ba, oa + i * 8 + 7, none⟩ = some (.int .u8 f.flags)) (hba : ba < w.heap.size) (hin : (i : Int) < (n : Int)) (hfl : u8k f.flags) (hkd : g.kind = 1 ∨ g.kind = 2 ∨ g.kind = 3) (hfi : 0 ≤ fi ∧ fi < 256) (hmm : mm ≤ 5) (hus : usesI w2 f = if w2 = 0 then [itemS 2 1 fi false, itemS 2 2 (fi + (mm : Int)) false] else (List.range (mm + 1)).map fun (k : Nat) => itemS 2 0 (fi + (k : Int)) false) (hw : (way.tdiv 3).tmod 2 = w2) (hway : u8k way) (he : outL ++ (i3 w3 i l g ++ (i4 w3 i l g ++ (i5 w3 i l g ++ (i6 w3 i l g ++ (i7 nb w3 i l g ++ (usesI w2 f ++ (i9 f g ++ i10 f dd))))))) = fin) (hd : d2 f dd = dfin) (hB : B + 13 ≤ BF) (hBF : BF ≤ 900) (hd6 : dd ≤ 6) (hul : us = (List.range (mm + 1)).map fun (q : Nat) => 458752 + fi + (q : Int)) (hw3 : way.tmod 3 = w3) (hgreport : 0 ≤ g.report ∧ g.report < 4294967296) (hgcount : 0 ≤ g.count ∧ g.count < 4294967296) (hgsize : 0 ≤ g.size ∧ g.size < 4294967296) (hghi : -32768 ≤ g.hi ∧ g.hi < 2147483648) (hglo : -32768 ≤ g.lo ∧ g.lo < 2147483648)
    (Q : Exit → Act → World → Prop) (K K2 : Act → World → Prop) (hK : ∀ a w', Code.wp Try.prog (restC code14i) (Exit.then K2 Q) a w' → K a w') (hK2 : ∀ a w', Code.wp Try.prog after14i Q a w' → K2 a w') (hQ : ∀ (s10 s11 s12 s13 s35 s36 s37 s38 s39 s40 s41 s42 s43 s44 s45 s46 s47 s48 s49 s50 s51 s52 s53 s54 s55 s56 s57 s58 s59 s60 s61 s62 s63 s64 s65 s66 s67 s68 s69 s70 s71 s72 s73 s74 s75 s76 s77 s78 s79 s80 s81 s82 s83 s84 s85 s86 s87 s88 s89 s90 s91 s92 s93 s94 s95 s96 s97 s98 s99 s100 s101 s102 s103 s104 s105 s106 s107 s108 s109 s110 s111 s112 s113 s114 s115 s116 s117 s118 s119 s120 s121 s122 s123 s124 s125 s126 s127 s128 s129 s130 s131 s132 s133 s134 s135 s136 s137 s138 s139 s140 s141 s142 s143 s144 s145 s146 s147 s148 s149 s150 s151 s152 s153 s154 s155 s156 s157 s158 s159 s160 s161 s162 s163 s164 s165 s166 s167 s168 s169 s170 s171 s172 s173 s174 s175 s176 s177 s178 s179 s180 s181 s182 s183 s184 s185 s186 s187 s188 s189 s190 s191 s192 s193 s194 s195 s196 s197 s198 s199 s200 s201 s202 s203 s204 s205 s206 s207 s208 s209 s210 s211 s212 s213 s214 s215 s216 s217 s218 s219 s220 s221 s222 s223 s224 s225 s226 s227 s228 s229 s230 s231 s232 s233 s234 s235 s236 s237 s238 s239 s240 s241 s242 s243 s244 s245 s246 s247 s248 s249 : Value) (v' : Value) (m' : Nat) (w' : World), IS w w' DB LB FB nb (some ⟨ba, oa, none⟩) n cap m' BF v' vg vg fin g g us → Q .normal ⟨#[u0, .int .u8 way, .pointer (some ⟨DB, 0, none⟩), u3, u4, v', .int .i64 (dfin : Int), .pointer (some ⟨LB, 0, none⟩), .int .i64 (i : Int), .pointer (some ⟨FB, 0, none⟩), s10, s11, s12, s13, u14, u15, u16, u17, u18, u19, u20, u21, u22, u23, u24, u25, u26, u27, u28, u29, u30, u31, u32, u33, u34, s35, s36, s37, s38, s39, s40, s41, s42, s43, s44, s45, s46, s47, s48, s49, s50, s51, s52, s53, s54, s55, s56, s57, s58, s59, s60, s61, s62, s63, s64, s65, s66, s67, s68, s69, s70, s71, s72, s73, s74, s75, s76, s77, s78, s79, s80, s81, s82, s83, s84, s85, s86, s87, s88, s89, s90, s91, s92, s93, s94, s95, s96, s97, s98, s99, s100, s101, s102, s103, s104, s105, s106, s107, s108, s109, s110, s111, s112, s113, s114, s115, s116, s117, s118, s119, s120, s121, s122, s123, s124, s125, s126, s127, s128, s129, s130, s131, s132, s133, s134, s135, s136, s137, s138, s139, s140, s141, s142, s143, s144, s145, s146, s147, s148, s149, s150, s151, s152, s153, s154, s155, s156, s157, s158, s159, s160, s161, s162, s163, s164, s165, s166, s167, s168, s169, s170, s171, s172, s173, s174, s175, s176, s177, s178, s179, s180, s181, s182, s183, s184, s185, s186, s187, s188, s189, s190, s191, s192, s193, s194, s195, s196, s197, s198, s199, s200, s201, s202, s203, s204, s205, s206, s207, s208, s209, s210, s211, s212, s213, s214, s215, s216, s217, s218, s219, s220, s221, s222, s223, s224, s225, s226, s227, s228, s229, s230, s231, s232, s233, s234, s235, s236, s237, s238, s239, s240, s241, s242, s243, s244, s245, s246, s247, s248, s249, u250, u251, u252, u253, u254, u255, u256, u257, u258], []⟩ w') :
    Code.wp Try.prog (headC code14i) (Exit.then K (Exit.then K2 Q)) ⟨#[u0, .int .u8 way, .pointer (some ⟨DB, 0, none⟩), u3, u4, v, .int .i64 (dd : Int), .pointer (some ⟨LB, 0, none⟩), .int .i64 (i : Int), .pointer (some ⟨FB, 0, none⟩), u10, u11, u12, u13, u14, u15, u16, u17, u18, u19, u20, u21, u22, u23, u24, u25, u26, u27, u28, u29, u30, u31, u32, u33, u34, u35, u36, u37, u38, u39, u40, u41, u42, u43, u44, u45, u46, u47, u48, u49, u50, u51, u52, u53, u54, u55, u56, u57, u58, u59, u60, u61, u62, u63, u64, u65, u66, u67, u68, u69, u70, u71, u72, u73, u74, u75, u76, u77, u78, u79, u80, u81, u82, u83, u84, u85, u86, u87, u88, u89, u90, u91, u92, u93, u94, u95, u96, u97, u98, u99, u100, u101, u102, u103, u104, u105, u106, u107, u108, u109, u110, u111, u112, u113, u114, u115, u116, u117, u118, u119, u120, u121, u122, u123, u124, u125, u126, u127, u128, u129, u130, u131, u132, u133, u134, u135, u136, u137, u138, u139, u140, u141, u142, u143, u144, u145, u146, u147, u148, u149, u150, u151, u152, u153, u154, u155, u156, u157, u158, u159, u160, u161, u162, u163, u164, u165, u166, u167, u168, u169, u170, u171, u172, u173, u174, u175, u176, u177, u178, u179, u180, u181, u182, u183, u184, u185, u186, u187, u188, u189, u190, u191, u192, u193, u194, u195, u196, u197, u198, u199, u200, u201, u202, u203, u204, u205, u206, u207, u208, u209, u210, u211, u212, u213, u214, u215, u216, u217, u218, u219, u220, u221, u222, u223, u224, u225, u226, u227, u228, u229, u230, u231, u232, u233, u234, u235, u236, u237, u238, u239, u240, u241, u242, u243, u244, u245, u246, u247, u248, u249, u250, u251, u252, u253, u254, u255, u256, u257, u258], []⟩ W := by
  have hgvv : (-32768 ≤ g.lo ∧ g.lo < 2147483648) := hglo
  obtain ⟨gv, hgve⟩ : ∃ z, g.lo = z := ⟨_, rfl⟩
  have hgv := hgvv
  rw [hgve] at hgv
  obtain ⟨i29, hi29, hz0, hz1, hz2⟩ := info_parts info29
  have HS := hide hS
  have HQ := hide hQ
  have hkc : Kept W W := Below.refl _ _
  have hmb := hS.bnd
  obtain ⟨y0, hy0⟩ : ∃ y, itemS 1 1 gv true = y := ⟨_, rfl⟩
  have hit0 := item17n 1 1 gv true (show (-32768 ≤ gv ∧ gv < 2147483648) by exact hgv) y0 hy0
  have hyok : ∀ x ∈ [y0], x.ok := by
    intro x hx
    simp only [List.mem_cons, List.not_mem_nil, or_false] at hx
    rcases hx with rfl
    · rw [← hy0]; exact (itemS_ok (by omega) (by omega)).2
  have Hy0 := hide hy0
  clear hy0
  have hL := hS.lbox
  have hF := hS.fbox
  have hD := hS.dbox
  have b4 : W.cell? ⟨FB, 4, none⟩ = some (.int .i64 gv) := by rw [← hgve]; exact cell_heap hF (o := 4) rfl
  have lF := heap_lt hF
  have He := hide he
  have Hge := hide hgve
  have Hus := hide hus
  have Hul := hide hul
  have Hkd := hide hkd
  have Hgv := hide hgvv
  clear hS hQ he hgve hus hul hkd hgvv
  conv => arg 2; whnf
  conv at hK => enter [a, w', 1, 2]; whnf
  conv at hK2 => enter [a, w', 1, 2]; whnf
  refine ask_14 (l := l) (g := g) (w3 := w3) (nb := nb) hL hF hD hw3 _ ?_
  intro s68 s69 s70 s71 s72 s73 s74 s75 s76 s77 s78 s79 s80
  clear hL hF hD
  cases hb : (ask w3 i l.lo g.lo) with
  | true =>
    have hgr : i3 w3 i l g = [y0] := by unfold i3; rw [hb, Hge.out, Hy0.out]; rfl
    have Hgr := hide hgr
    clear hgr hb
    go_upto_region 16 with (first
      | (go_at_call 17; refine (hit0 _).mono ?_; rintro e w5 ⟨rfl, hkq0⟩; replace hkc := hkc.trans' hkq0; try dsimp only)
      | (at_builtin; refine wpList_append_sl (T := itT) rfl (.tmp 82) (.tmp 86) 22 rfl w.heap.size 29 i29 _ 24 Try.underlying22 hi29 hz0 hz1 hz2 rfl (by decide) _ m outL (by rfl) ((HS.out.ownm.kept hkc).alloc _) (some ⟨_, 0, none⟩) 1 1 [y0] (by rfl) (by exact sl_it_heap (heap_at _ rfl) rfl hyok ⟨by simp, fun e => by have h9 := ((HS.out.ownm.kept hkc).lt e).2; omega⟩) (by_one29 _ _) (by unfold maxLen; omega) (by omega) (by have h9 := HS.out.kept.size; have h8 := hkc.size; simp; omega) ?_; intro v9 w9 hown9 hg9 hb9 hat9))
    refine p16 (f := f) (w2 := w2) (w3 := w3) (((HS.out.keep hkc).keep ((Below.refl _ _).alloc (Nat.le_refl _) _)).grow hg9 hb9 hown9) h7 hba hin hfl Hkd.out hfi hmm Hus.out hw hway (by rw [← He.out, Hgr.out]; simp only [List.append_assoc]) hd (by simp only [List.length_cons, List.length_nil]; omega) hBF hd6 Hul.out hw3 hgreport hgcount hgsize hghi _ _ _ ?_ ?_ HQ.out <;> assumption
  | false =>
    have hgr : i3 w3 i l g = [] := by unfold i3; rw [hb]; rfl
    have Hgr := hide hgr
    clear hgr hb
    go_upto_region 16 with fail
    refine p16 (f := f) (w2 := w2) (w3 := w3) HS.out h7 hba hin hfl Hkd.out hfi hmm Hus.out hw hway (by rw [← He.out, Hgr.out]; rfl) hd (by omega) hBF hd6 Hul.out hw3 hgreport hgcount hgsize hghi _ _ _ ?_ ?_ HQ.out <;> assumption
end Go.Proofs.Ytegdigfcgeoboaa
/- The law's items of plain data: values between. Printed by gen_we.py. -/
namespace Go.Proofs.Ytegdigfcgeoboaa
open Go.RowKit
attribute [local go_sem ↓] Go.wp_at_zero Go.wp_at_succ

noncomputable def code12i : Code := (Try.f18.body.bind (findQ 12)).getD .skip
noncomputable def after12i : Code := (Try.f18.body.bind (afterQ 12)).getD .skip
set_option maxRecDepth 1000000 in
set_option maxHeartbeats 16000000 in
theorem p12 {u0 u3 u4 u10 u11 u12 u13 u14 u15 u16 u17 u18 u19 u20 u21 u22 u23 u24 u25 u26 u27 u28 u29 u30 u31 u32 u33 u34 u35 u36 u37 u38 u39 u40 u41 u42 u43 u44 u45 u46 u47 u48 u49 u50 u51 u52 u53 u54 u55 u56 u57 u58 u59 u60 u61 u62 u63 u64 u65 u66 u67 u68 u69 u70 u71 u72 u73 u74 u75 u76 u77 u78 u79 u80 u81 u82 u83 u84 u85 u86 u87 u88 u89 u90 u91 u92 u93 u94 u95 u96 u97 u98 u99 u100 u101 u102 u103 u104 u105 u106 u107 u108 u109 u110 u111 u112 u113 u114 u115 u116 u117 u118 u119 u120 u121 u122 u123 u124 u125 u126 u127 u128 u129 u130 u131 u132 u133 u134 u135 u136 u137 u138 u139 u140 u141 u142 u143 u144 u145 u146 u147 u148 u149 u150 u151 u152 u153 u154 u155 u156 u157 u158 u159 u160 u161 u162 u163 u164 u165 u166 u167 u168 u169 u170 u171 u172 u173 u174 u175 u176 u177 u178 u179 u180 u181 u182 u183 u184 u185 u186 u187 u188 u189 u190 u191 u192 u193 u194 u195 u196 u197 u198 u199 u200 u201 u202 u203 u204 u205 u206 u207 u208 u209 u210 u211 u212 u213 u214 u215 u216 u217 u218 u219 u220 u221 u222 u223 u224 u225 u226 u227 u228 u229 u230 u231 u232 u233 u234 u235 u236 u237 u238 u239 u240 u241 u242 u243 u244 u245 u246 u247 u248 u249 u250 u251 u252 u253 u254 u255 u256 u257 u258 : Value} {w W : World} {DB LB FB ba oa n cap m B BF i dd dfin : Nat} {nb : Bool} {way w3 w2 : Int} {mm : Nat} {fi : Int} {v vl vg : Value} {outL fin : List It} {l g : Fd} {us : List Int} {f : PF} (hS : IS w W DB LB FB nb (some ⟨ba, oa, none⟩) n cap m B v vl vg outL l g us) (h7 : w.cell? ⟨ba, oa + i * 8 + 7, none⟩ = some (.int .u8 f.flags)) (hba : ba < w.heap.size) (hin : (i : Int) < (n : Int)) (hfl : u8k f.flags) (hkd : g.kind = 1 ∨ g.kind = 2 ∨ g.kind = 3) (hfi : 0 ≤ fi ∧ fi < 256) (hmm : mm ≤ 5) (hus : usesI w2 f = if w2 = 0 then [itemS 2 1 fi false, itemS 2 2 (fi + (mm : Int)) false] else (List.range (mm + 1)).map fun (k : Nat) => itemS 2 0 (fi + (k : Int)) false) (hw : (way.tdiv 3).tmod 2 = w2) (hway : u8k way) (he : outL ++ (i2 w3 ++ (i3 w3 i l g ++ (i4 w3 i l g ++ (i5 w3 i l g ++ (i6 w3 i l g ++ (i7 nb w3 i l g ++ (usesI w2 f ++ (i9 f g ++ i10 f dd)))))))) = fin) (hd : d2 f dd = dfin) (hB : B + 18 ≤ BF) (hBF : BF ≤ 900) (hd6 : dd ≤ 6) (hul : us = (List.range (mm + 1)).map fun (q : Nat) => 458752 + fi + (q : Int)) (hw3 : way.tmod 3 = w3) (hgreport : 0 ≤ g.report ∧ g.report < 4294967296) (hgcount : 0 ≤ g.count ∧ g.count < 4294967296) (hgsize : 0 ≤ g.size ∧ g.size < 4294967296) (hghi : -32768 ≤ g.hi ∧ g.hi < 2147483648) (hglo : -32768 ≤ g.lo ∧ g.lo < 2147483648)
    (Q : Exit → Act → World → Prop) (K K2 : Act → World → Prop) (hK : ∀ a w', Code.wp Try.prog (restC code12i) (Exit.then K2 Q) a w' → K a w') (hK2 : ∀ a w', Code.wp Try.prog after12i Q a w' → K2 a w') (hQ : ∀ (s10 s11 s12 s13 s35 s36 s37 s38 s39 s40 s41 s42 s43 s44 s45 s46 s47 s48 s49 s50 s51 s52 s53 s54 s55 s56 s57 s58 s59 s60 s61 s62 s63 s64 s65 s66 s67 s68 s69 s70 s71 s72 s73 s74 s75 s76 s77 s78 s79 s80 s81 s82 s83 s84 s85 s86 s87 s88 s89 s90 s91 s92 s93 s94 s95 s96 s97 s98 s99 s100 s101 s102 s103 s104 s105 s106 s107 s108 s109 s110 s111 s112 s113 s114 s115 s116 s117 s118 s119 s120 s121 s122 s123 s124 s125 s126 s127 s128 s129 s130 s131 s132 s133 s134 s135 s136 s137 s138 s139 s140 s141 s142 s143 s144 s145 s146 s147 s148 s149 s150 s151 s152 s153 s154 s155 s156 s157 s158 s159 s160 s161 s162 s163 s164 s165 s166 s167 s168 s169 s170 s171 s172 s173 s174 s175 s176 s177 s178 s179 s180 s181 s182 s183 s184 s185 s186 s187 s188 s189 s190 s191 s192 s193 s194 s195 s196 s197 s198 s199 s200 s201 s202 s203 s204 s205 s206 s207 s208 s209 s210 s211 s212 s213 s214 s215 s216 s217 s218 s219 s220 s221 s222 s223 s224 s225 s226 s227 s228 s229 s230 s231 s232 s233 s234 s235 s236 s237 s238 s239 s240 s241 s242 s243 s244 s245 s246 s247 s248 s249 : Value) (v' : Value) (m' : Nat) (w' : World), IS w w' DB LB FB nb (some ⟨ba, oa, none⟩) n cap m' BF v' vg vg fin g g us → Q .normal ⟨#[u0, .int .u8 way, .pointer (some ⟨DB, 0, none⟩), u3, u4, v', .int .i64 (dfin : Int), .pointer (some ⟨LB, 0, none⟩), .int .i64 (i : Int), .pointer (some ⟨FB, 0, none⟩), s10, s11, s12, s13, u14, u15, u16, u17, u18, u19, u20, u21, u22, u23, u24, u25, u26, u27, u28, u29, u30, u31, u32, u33, u34, s35, s36, s37, s38, s39, s40, s41, s42, s43, s44, s45, s46, s47, s48, s49, s50, s51, s52, s53, s54, s55, s56, s57, s58, s59, s60, s61, s62, s63, s64, s65, s66, s67, s68, s69, s70, s71, s72, s73, s74, s75, s76, s77, s78, s79, s80, s81, s82, s83, s84, s85, s86, s87, s88, s89, s90, s91, s92, s93, s94, s95, s96, s97, s98, s99, s100, s101, s102, s103, s104, s105, s106, s107, s108, s109, s110, s111, s112, s113, s114, s115, s116, s117, s118, s119, s120, s121, s122, s123, s124, s125, s126, s127, s128, s129, s130, s131, s132, s133, s134, s135, s136, s137, s138, s139, s140, s141, s142, s143, s144, s145, s146, s147, s148, s149, s150, s151, s152, s153, s154, s155, s156, s157, s158, s159, s160, s161, s162, s163, s164, s165, s166, s167, s168, s169, s170, s171, s172, s173, s174, s175, s176, s177, s178, s179, s180, s181, s182, s183, s184, s185, s186, s187, s188, s189, s190, s191, s192, s193, s194, s195, s196, s197, s198, s199, s200, s201, s202, s203, s204, s205, s206, s207, s208, s209, s210, s211, s212, s213, s214, s215, s216, s217, s218, s219, s220, s221, s222, s223, s224, s225, s226, s227, s228, s229, s230, s231, s232, s233, s234, s235, s236, s237, s238, s239, s240, s241, s242, s243, s244, s245, s246, s247, s248, s249, u250, u251, u252, u253, u254, u255, u256, u257, u258], []⟩ w') :
    Code.wp Try.prog (headC code12i) (Exit.then K (Exit.then K2 Q)) ⟨#[u0, .int .u8 way, .pointer (some ⟨DB, 0, none⟩), u3, u4, v, .int .i64 (dd : Int), .pointer (some ⟨LB, 0, none⟩), .int .i64 (i : Int), .pointer (some ⟨FB, 0, none⟩), u10, u11, u12, u13, u14, u15, u16, u17, u18, u19, u20, u21, u22, u23, u24, u25, u26, u27, u28, u29, u30, u31, u32, u33, u34, u35, u36, u37, u38, u39, u40, u41, u42, u43, u44, u45, u46, u47, u48, u49, u50, u51, u52, u53, u54, u55, u56, u57, u58, u59, u60, u61, u62, u63, u64, u65, u66, u67, u68, u69, u70, u71, u72, u73, u74, u75, u76, u77, u78, u79, u80, u81, u82, u83, u84, u85, u86, u87, u88, u89, u90, u91, u92, u93, u94, u95, u96, u97, u98, u99, u100, u101, u102, u103, u104, u105, u106, u107, u108, u109, u110, u111, u112, u113, u114, u115, u116, u117, u118, u119, u120, u121, u122, u123, u124, u125, u126, u127, u128, u129, u130, u131, u132, u133, u134, u135, u136, u137, u138, u139, u140, u141, u142, u143, u144, u145, u146, u147, u148, u149, u150, u151, u152, u153, u154, u155, u156, u157, u158, u159, u160, u161, u162, u163, u164, u165, u166, u167, u168, u169, u170, u171, u172, u173, u174, u175, u176, u177, u178, u179, u180, u181, u182, u183, u184, u185, u186, u187, u188, u189, u190, u191, u192, u193, u194, u195, u196, u197, u198, u199, u200, u201, u202, u203, u204, u205, u206, u207, u208, u209, u210, u211, u212, u213, u214, u215, u216, u217, u218, u219, u220, u221, u222, u223, u224, u225, u226, u227, u228, u229, u230, u231, u232, u233, u234, u235, u236, u237, u238, u239, u240, u241, u242, u243, u244, u245, u246, u247, u248, u249, u250, u251, u252, u253, u254, u255, u256, u257, u258], []⟩ W := by
  obtain ⟨i29, hi29, hz0, hz1, hz2⟩ := info_parts info29
  have HS := hide hS
  have HQ := hide hQ
  have hkc : Kept W W := Below.refl _ _
  have hmb := hS.bnd
  obtain ⟨y0, hy0⟩ : ∃ y, itemS 1 10 0 false = y := ⟨_, rfl⟩
  have hit0 := item17n 1 10 0 false (by decide) y0 hy0
  obtain ⟨y1, hy1⟩ : ∃ y, itemS 1 0 9 false = y := ⟨_, rfl⟩
  have hit1 := item17n 1 0 9 false (by decide) y1 hy1
  obtain ⟨y2, hy2⟩ : ∃ y, itemS 1 1 (-5) true = y := ⟨_, rfl⟩
  have hit2 := item17n 1 1 (-5) true (by decide) y2 hy2
  obtain ⟨y3, hy3⟩ : ∃ y, itemS 1 7 9 false = y := ⟨_, rfl⟩
  have hit3 := item17n 1 7 9 false (by decide) y3 hy3
  obtain ⟨y4, hy4⟩ : ∃ y, itemS 1 11 0 false = y := ⟨_, rfl⟩
  have hit4 := item17n 1 11 0 false (by decide) y4 hy4
  have hyok : ∀ x ∈ [y0, y1, y2, y3, y4], x.ok := by
    intro x hx
    simp only [List.mem_cons, List.not_mem_nil, or_false] at hx
    rcases hx with rfl | rfl | rfl | rfl | rfl
    · rw [← hy0]; exact (itemS_ok (by omega) (by omega)).2
    · rw [← hy1]; exact (itemS_ok (by omega) (by omega)).2
    · rw [← hy2]; exact (itemS_ok (by omega) (by omega)).2
    · rw [← hy3]; exact (itemS_ok (by omega) (by omega)).2
    · rw [← hy4]; exact (itemS_ok (by omega) (by omega)).2
  have Hy0 := hide hy0
  have Hy1 := hide hy1
  have Hy2 := hide hy2
  have Hy3 := hide hy3
  have Hy4 := hide hy4
  clear hy0 hy1 hy2 hy3 hy4
  have He := hide he
  have Hus := hide hus
  have Hul := hide hul
  have Hkd := hide hkd
  clear hS hQ he hus hul hkd
  conv => arg 2; whnf
  conv at hK => enter [a, w', 1, 2]; whnf
  conv at hK2 => enter [a, w', 1, 2]; whnf
  by_cases hb : w3 = 2
  · have hgr : i2 w3 = [y0, y1, y2, y3, y4] := by unfold i2 betweenI; rw [if_pos hb, Hy0.out, Hy1.out, Hy2.out, Hy3.out, Hy4.out]
    have hbe : (w3 == 2) = true := by rw [hb]; rfl
    have Hgr := hide hgr
    clear hgr hb
    go_upto_region 14 with (first
      | (go_at_call 17; have hg0 := hkq3; refine (hit4 _).mono ?_; rintro e w5 ⟨rfl, hkq4⟩; replace hkc := hkc.trans' hkq4; try dsimp only)
      | (go_at_call 17; have hg0 := hkq2; refine (hit3 _).mono ?_; rintro e w5 ⟨rfl, hkq3⟩; replace hkc := hkc.trans' hkq3; try dsimp only)
      | (go_at_call 17; have hg0 := hkq1; refine (hit2 _).mono ?_; rintro e w5 ⟨rfl, hkq2⟩; replace hkc := hkc.trans' hkq2; try dsimp only)
      | (go_at_call 17; have hg0 := hkq0; refine (hit1 _).mono ?_; rintro e w5 ⟨rfl, hkq1⟩; replace hkc := hkc.trans' hkq1; try dsimp only)
      | (go_at_call 17; refine (hit0 _).mono ?_; rintro e w5 ⟨rfl, hkq0⟩; replace hkc := hkc.trans' hkq0; try dsimp only)
      | (at_builtin; refine wpList_append_sl (T := itT) rfl (.tmp 60) (.tmp 66) 22 rfl w.heap.size 29 i29 _ 24 Try.underlying22 hi29 hz0 hz1 hz2 rfl (by decide) _ m outL (by rfl) ((HS.out.ownm.kept hkc).alloc _) (some ⟨_, 0, none⟩) 5 5 [y0, y1, y2, y3, y4] (by rfl) (by exact sl_it_heap (heap_at _ rfl) rfl hyok ⟨by simp, fun e => by have h9 := ((HS.out.ownm.kept hkc).lt e).2; omega⟩) (by_one29 _ _) (by unfold maxLen; omega) (by omega) (by have h9 := HS.out.kept.size; have h8 := hkc.size; simp; omega) ?_; intro v9 w9 hown9 hg9 hb9 hat9))
    refine p14 (f := f) (w2 := w2) (w3 := w3) (((HS.out.keep hkc).keep ((Below.refl _ _).alloc (Nat.le_refl _) _)).grow hg9 hb9 hown9) h7 hba hin hfl Hkd.out hfi hmm Hus.out hw hway (by rw [← He.out, Hgr.out]; simp only [List.append_assoc]) hd (by simp only [List.length_cons, List.length_nil]; omega) hBF hd6 Hul.out hw3 hgreport hgcount hgsize hghi hglo _ _ _ ?_ ?_ HQ.out <;> assumption
  · have hgr : i2 w3 = [] := by unfold i2; rw [if_neg hb]
    have hbe : (w3 == 2) = false := by simpa using hb
    have Hgr := hide hgr
    clear hgr hb
    go_upto_region 14 with fail
    refine p14 (f := f) (w2 := w2) (w3 := w3) HS.out h7 hba hin hfl Hkd.out hfi hmm Hus.out hw hway (by rw [← He.out, Hgr.out]; rfl) hd (by omega) hBF hd6 Hul.out hw3 hgreport hgcount hgsize hghi hglo _ _ _ ?_ ?_ HQ.out <;> assumption
end Go.Proofs.Ytegdigfcgeoboaa
/- The law's items of plain data: the beginning of a collection. Printed by gen_we.py. -/
namespace Go.Proofs.Ytegdigfcgeoboaa
open Go.RowKit
attribute [local go_sem ↓] Go.wp_at_zero Go.wp_at_succ

noncomputable def after9i : Code := (Try.f18.body.bind (afterQ 9)).getD .skip
set_option maxRecDepth 1000000 in
set_option maxHeartbeats 16000000 in
theorem p9 {u0 u3 u4 u10 u11 u12 u13 u14 u15 u16 u17 u18 u19 u20 u21 u22 u23 u24 u25 u26 u27 u28 u29 u30 u31 u32 u33 u34 u35 u36 u37 u38 u39 u40 u41 u42 u43 u44 u45 u46 u47 u48 u49 u50 u51 u52 u53 u54 u55 u56 u57 u58 u59 u60 u61 u62 u63 u64 u65 u66 u67 u68 u69 u70 u71 u72 u73 u74 u75 u76 u77 u78 u79 u80 u81 u82 u83 u84 u85 u86 u87 u88 u89 u90 u91 u92 u93 u94 u95 u96 u97 u98 u99 u100 u101 u102 u103 u104 u105 u106 u107 u108 u109 u110 u111 u112 u113 u114 u115 u116 u117 u118 u119 u120 u121 u122 u123 u124 u125 u126 u127 u128 u129 u130 u131 u132 u133 u134 u135 u136 u137 u138 u139 u140 u141 u142 u143 u144 u145 u146 u147 u148 u149 u150 u151 u152 u153 u154 u155 u156 u157 u158 u159 u160 u161 u162 u163 u164 u165 u166 u167 u168 u169 u170 u171 u172 u173 u174 u175 u176 u177 u178 u179 u180 u181 u182 u183 u184 u185 u186 u187 u188 u189 u190 u191 u192 u193 u194 u195 u196 u197 u198 u199 u200 u201 u202 u203 u204 u205 u206 u207 u208 u209 u210 u211 u212 u213 u214 u215 u216 u217 u218 u219 u220 u221 u222 u223 u224 u225 u226 u227 u228 u229 u230 u231 u232 u233 u234 u235 u236 u237 u238 u239 u240 u241 u242 u243 u244 u245 u246 u247 u248 u249 u250 u251 u252 u253 u254 u255 u256 u257 u258 : Value} {w W : World} {DB LB FB ba oa n cap m B BF i dd dfin : Nat} {nb : Bool} {way w3 w2 : Int} {mm : Nat} {fi : Int} {v vl vg : Value} {outL fin : List It} {l g : Fd} {us : List Int} {f : PF} (hS : IS w W DB LB FB nb (some ⟨ba, oa, none⟩) n cap m B v vl vg outL l g us) (h7 : w.cell? ⟨ba, oa + i * 8 + 7, none⟩ = some (.int .u8 f.flags)) (hba : ba < w.heap.size) (hin : (i : Int) < (n : Int)) (hfl : u8k f.flags) (hkd : g.kind = 1 ∨ g.kind = 2 ∨ g.kind = 3) (hfi : 0 ≤ fi ∧ fi < 256) (hmm : mm ≤ 5) (hus : usesI w2 f = if w2 = 0 then [itemS 2 1 fi false, itemS 2 2 (fi + (mm : Int)) false] else (List.range (mm + 1)).map fun (k : Nat) => itemS 2 0 (fi + (k : Int)) false) (hw : (way.tdiv 3).tmod 2 = w2) (hway : u8k way) (he : outL ++ (i1 f i dd ++ (i2 w3 ++ (i3 w3 i l g ++ (i4 w3 i l g ++ (i5 w3 i l g ++ (i6 w3 i l g ++ (i7 nb w3 i l g ++ (usesI w2 f ++ (i9 f g ++ i10 f (d1 f dd)))))))))) = fin) (hd : d2 f (d1 f dd) = dfin) (hB : B + 20 ≤ BF) (hBF : BF ≤ 900) (hd6 : dd ≤ 5) (hi20 : i < 20) (hul : us = (List.range (mm + 1)).map fun (q : Nat) => 458752 + fi + (q : Int)) (hw3 : way.tmod 3 = w3) (hgreport : 0 ≤ g.report ∧ g.report < 4294967296) (hgcount : 0 ≤ g.count ∧ g.count < 4294967296) (hgsize : 0 ≤ g.size ∧ g.size < 4294967296) (hghi : -32768 ≤ g.hi ∧ g.hi < 2147483648) (hglo : -32768 ≤ g.lo ∧ g.lo < 2147483648)
    (Q : Exit → Act → World → Prop) (K K2 : Act → World → Prop) (hK : ∀ a w', Code.wp Try.prog (restC code9i) (Exit.then K2 Q) a w' → K a w') (hK2 : ∀ a w', Code.wp Try.prog after9i Q a w' → K2 a w') (hQ : ∀ (s10 s11 s12 s13 s35 s36 s37 s38 s39 s40 s41 s42 s43 s44 s45 s46 s47 s48 s49 s50 s51 s52 s53 s54 s55 s56 s57 s58 s59 s60 s61 s62 s63 s64 s65 s66 s67 s68 s69 s70 s71 s72 s73 s74 s75 s76 s77 s78 s79 s80 s81 s82 s83 s84 s85 s86 s87 s88 s89 s90 s91 s92 s93 s94 s95 s96 s97 s98 s99 s100 s101 s102 s103 s104 s105 s106 s107 s108 s109 s110 s111 s112 s113 s114 s115 s116 s117 s118 s119 s120 s121 s122 s123 s124 s125 s126 s127 s128 s129 s130 s131 s132 s133 s134 s135 s136 s137 s138 s139 s140 s141 s142 s143 s144 s145 s146 s147 s148 s149 s150 s151 s152 s153 s154 s155 s156 s157 s158 s159 s160 s161 s162 s163 s164 s165 s166 s167 s168 s169 s170 s171 s172 s173 s174 s175 s176 s177 s178 s179 s180 s181 s182 s183 s184 s185 s186 s187 s188 s189 s190 s191 s192 s193 s194 s195 s196 s197 s198 s199 s200 s201 s202 s203 s204 s205 s206 s207 s208 s209 s210 s211 s212 s213 s214 s215 s216 s217 s218 s219 s220 s221 s222 s223 s224 s225 s226 s227 s228 s229 s230 s231 s232 s233 s234 s235 s236 s237 s238 s239 s240 s241 s242 s243 s244 s245 s246 s247 s248 s249 : Value) (v' : Value) (m' : Nat) (w' : World), IS w w' DB LB FB nb (some ⟨ba, oa, none⟩) n cap m' BF v' vg vg fin g g us → Q .normal ⟨#[u0, .int .u8 way, .pointer (some ⟨DB, 0, none⟩), u3, u4, v', .int .i64 (dfin : Int), .pointer (some ⟨LB, 0, none⟩), .int .i64 (i : Int), .pointer (some ⟨FB, 0, none⟩), s10, s11, s12, s13, u14, u15, u16, u17, u18, u19, u20, u21, u22, u23, u24, u25, u26, u27, u28, u29, u30, u31, u32, u33, u34, s35, s36, s37, s38, s39, s40, s41, s42, s43, s44, s45, s46, s47, s48, s49, s50, s51, s52, s53, s54, s55, s56, s57, s58, s59, s60, s61, s62, s63, s64, s65, s66, s67, s68, s69, s70, s71, s72, s73, s74, s75, s76, s77, s78, s79, s80, s81, s82, s83, s84, s85, s86, s87, s88, s89, s90, s91, s92, s93, s94, s95, s96, s97, s98, s99, s100, s101, s102, s103, s104, s105, s106, s107, s108, s109, s110, s111, s112, s113, s114, s115, s116, s117, s118, s119, s120, s121, s122, s123, s124, s125, s126, s127, s128, s129, s130, s131, s132, s133, s134, s135, s136, s137, s138, s139, s140, s141, s142, s143, s144, s145, s146, s147, s148, s149, s150, s151, s152, s153, s154, s155, s156, s157, s158, s159, s160, s161, s162, s163, s164, s165, s166, s167, s168, s169, s170, s171, s172, s173, s174, s175, s176, s177, s178, s179, s180, s181, s182, s183, s184, s185, s186, s187, s188, s189, s190, s191, s192, s193, s194, s195, s196, s197, s198, s199, s200, s201, s202, s203, s204, s205, s206, s207, s208, s209, s210, s211, s212, s213, s214, s215, s216, s217, s218, s219, s220, s221, s222, s223, s224, s225, s226, s227, s228, s229, s230, s231, s232, s233, s234, s235, s236, s237, s238, s239, s240, s241, s242, s243, s244, s245, s246, s247, s248, s249, u250, u251, u252, u253, u254, u255, u256, u257, u258], []⟩ w') :
    Code.wp Try.prog (headC code9i) (Exit.then K (Exit.then K2 Q)) ⟨#[u0, .int .u8 way, .pointer (some ⟨DB, 0, none⟩), u3, u4, v, .int .i64 (dd : Int), .pointer (some ⟨LB, 0, none⟩), .int .i64 (i : Int), .pointer (some ⟨FB, 0, none⟩), u10, u11, u12, u13, u14, u15, u16, u17, u18, u19, u20, u21, u22, u23, u24, u25, u26, u27, u28, u29, u30, u31, u32, u33, u34, u35, u36, u37, u38, u39, u40, u41, u42, u43, u44, u45, u46, u47, u48, u49, u50, u51, u52, u53, u54, u55, u56, u57, u58, u59, u60, u61, u62, u63, u64, u65, u66, u67, u68, u69, u70, u71, u72, u73, u74, u75, u76, u77, u78, u79, u80, u81, u82, u83, u84, u85, u86, u87, u88, u89, u90, u91, u92, u93, u94, u95, u96, u97, u98, u99, u100, u101, u102, u103, u104, u105, u106, u107, u108, u109, u110, u111, u112, u113, u114, u115, u116, u117, u118, u119, u120, u121, u122, u123, u124, u125, u126, u127, u128, u129, u130, u131, u132, u133, u134, u135, u136, u137, u138, u139, u140, u141, u142, u143, u144, u145, u146, u147, u148, u149, u150, u151, u152, u153, u154, u155, u156, u157, u158, u159, u160, u161, u162, u163, u164, u165, u166, u167, u168, u169, u170, u171, u172, u173, u174, u175, u176, u177, u178, u179, u180, u181, u182, u183, u184, u185, u186, u187, u188, u189, u190, u191, u192, u193, u194, u195, u196, u197, u198, u199, u200, u201, u202, u203, u204, u205, u206, u207, u208, u209, u210, u211, u212, u213, u214, u215, u216, u217, u218, u219, u220, u221, u222, u223, u224, u225, u226, u227, u228, u229, u230, u231, u232, u233, u234, u235, u236, u237, u238, u239, u240, u241, u242, u243, u244, u245, u246, u247, u248, u249, u250, u251, u252, u253, u254, u255, u256, u257, u258], []⟩ W := by
  have hk0 := hS.kept
  obtain ⟨i4, hi4⟩ : ∃ z : Nat, i % 4 = z := ⟨_, rfl⟩
  have hi44 : i4 < 4 := by omega
  have hmi : (i : Int).tmod 4 = (i4 : Int) := by rw [Int.tmod_eq_emod_of_nonneg (by omega)]; omega
  obtain ⟨i29, hi29, hz0, hz1, hz2⟩ := info_parts info29
  have HS := hide hS
  have HQ := hide hQ
  have hkc : Kept W W := Below.refl _ _
  have hmb := hS.bnd
  obtain ⟨y0, hy0⟩ : ∃ y, itemS 2 0 (i : Int) false = y := ⟨_, rfl⟩
  have hit0 := item17n 2 0 (i : Int) false (show 0 ≤ (i : Int) ∧ (i : Int) < 4294967296 by omega) y0 hy0
  obtain ⟨y1, hy1⟩ : ∃ y, itemS 0 10 (i4 : Int) false = y := ⟨_, rfl⟩
  have hit1 := item17n 0 10 (i4 : Int) false (show 0 ≤ (i4 : Int) ∧ (i4 : Int) < 4294967296 by omega) y1 hy1
  have hyok : ∀ x ∈ [y0, y1], x.ok := by
    intro x hx
    simp only [List.mem_cons, List.not_mem_nil, or_false] at hx
    rcases hx with rfl | rfl
    · rw [← hy0]; exact (itemS_ok (by omega) (by omega)).2
    · rw [← hy1]; exact (itemS_ok (by omega) (by omega)).2
  have Hy0 := hide hy0
  have Hy1 := hide hy1
  clear hy0 hy1
  have hD := hS.dbox
  have h7W := (hk0.cell (p := ⟨ba, oa + i * 8 + 7, none⟩) hba).trans h7
  have hbaW := Nat.lt_of_lt_of_le hba hk0.size
  have He := hide he
  have Hus := hide hus
  have Hul := hide hul
  have Hkd := hide hkd
  have Hi4 := hide hi4
  clear hS hQ he hus hul hkd hi4
  conv => arg 2; whnf
  conv at hK => enter [a, w', 1, 2]; whnf
  conv at hK2 => enter [a, w', 1, 2]; whnf
  refine ask_9 hD h7W hbaW hin hfl _ ?_
  intro s35 s36 s37 s38 s39 s40 s41 s42 s43 s44 s45
  clear hD h7W hbaW
  cases hb : beginsB f dd with
  | true =>
    have hd1 : d1 f dd = dd + 1 := by unfold d1; rw [hb]; rfl
    have hgr : i1 f i dd = [y0, y1] := by unfold i1 beginI; rw [hb, Hi4.out, Hy0.out, Hy1.out]; rfl
    have hdd : dd < 5 := by
      unfold beginsB at hb
      simp only [Bool.and_eq_true, decide_eq_true_eq] at hb
      exact hb.2
    have hwd : IntKind.i64.wrap ((dd : Int) + 1) = ((dd + 1 : Nat) : Int) := by rw [IntKind.wrap_i64]; omega
    have he2 := He.out
    rw [hd1] at hd he2
    have Hgr := hide hgr
    have He2 := hide he2
    have Hdd := hide hdd
    have Hd := hide hd
    clear hgr hb hd1 he2 hdd He hd
    go_upto_region 12 with (first
      | (go_at_call 17; have hg0 := hkq0; refine (hit1 _).mono ?_; rintro e w5 ⟨rfl, hkq1⟩; replace hkc := hkc.trans' hkq1; try dsimp only)
      | (go_at_call 17; refine (hit0 _).mono ?_; rintro e w5 ⟨rfl, hkq0⟩; replace hkc := hkc.trans' hkq0; try dsimp only)
      | (at_builtin; refine wpList_append_sl (T := itT) rfl (.tmp 47) (.tmp 53) 22 rfl w.heap.size 29 i29 _ 24 Try.underlying22 hi29 hz0 hz1 hz2 rfl (by decide) _ m outL (by rfl) ((HS.out.ownm.kept hkc).alloc _) (some ⟨_, 0, none⟩) 2 2 [y0, y1] (by rfl) (by exact sl_it_heap (heap_at _ rfl) rfl hyok ⟨by simp, fun e => by have h9 := ((HS.out.ownm.kept hkc).lt e).2; omega⟩) (by_one29 _ _) (by unfold maxLen; omega) (by omega) (by have h9 := HS.out.kept.size; have h8 := hkc.size; simp; omega) ?_; intro v9 w9 hown9 hg9 hb9 hat9))
    refine p12 (f := f) (w2 := w2) (w3 := w3) (dd := dd + 1) (((HS.out.keep hkc).keep ((Below.refl _ _).alloc (Nat.le_refl _) _)).grow hg9 hb9 hown9) h7 hba hin hfl Hkd.out hfi hmm Hus.out hw hway (by rw [← He2.out, Hgr.out]; simp only [List.append_assoc]) Hd.out (by simp only [List.length_cons, List.length_nil]; omega) hBF (by have := Hdd.out; omega) Hul.out hw3 hgreport hgcount hgsize hghi hglo _ _ _ ?_ ?_ HQ.out <;> assumption
  | false =>
    have hd1 : d1 f dd = dd := by unfold d1; rw [hb]; rfl
    have hgr : i1 f i dd = [] := by unfold i1; rw [hb]; rfl
    have he2 := He.out
    rw [hd1] at hd he2
    have Hgr := hide hgr
    have He2 := hide he2
    have Hd := hide hd
    clear hgr hb hd1 he2 He hd
    go_upto_region 12 with fail
    refine p12 (f := f) (w2 := w2) (w3 := w3) HS.out h7 hba hin hfl Hkd.out hfi hmm Hus.out hw hway (by rw [← He2.out, Hgr.out]; rfl) Hd.out (by omega) hBF (by omega) Hul.out hw3 hgreport hgcount hgsize hghi hglo _ _ _ ?_ ?_ HQ.out <;> assumption
end Go.Proofs.Ytegdigfcgeoboaa
