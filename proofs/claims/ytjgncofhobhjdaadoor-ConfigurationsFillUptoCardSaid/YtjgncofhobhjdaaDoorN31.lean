/- The law Fill, its loops. -/
import Derived.Test.YtjgncofhobhjdaaDoorChecked
import Derived.Deep.RegionHeld3
import Derived.Deep.DrawnRows
import Derived.Deep.DeepCutAuto
import Derived.Deep.LoopGhost
import Derived.Outline
import Derived.Handy
import Derived.OwnWalk
import Derived.BigQuiet
import Derived.Test.YtjgncofhobhjdaaDoorN28
import Derived.Test.YtjgncofhobhjdaaDoorN30
set_option linter.unusedVariables false
set_option linter.unusedSimpArgs false
set_option linter.unusedSectionVars false
/- The law Fill: its first loops, which write wrong numbers. Printed by gen_wb.py. -/
namespace Go.Proofs.YtjgncofhobhjdaaDoor
open Go.RowKit
attribute [local go_sem ↓] Go.wp_at_zero Go.wp_at_succ

/-- the law's memory: the configuration that is altered, and the box of the other one -/
structure ML (w4 X : World) (S2 DB AB : Nat) (V : Value) (cc : Array Value) (D : CfgD) (L : List LF) : Prop where
  mid : MidC w4 X S2 DB V D L
  ab : X.heap[AB]? = some (.cells cc 32 (0, 0))
theorem ML.field {w4 X : World} {S2 DB AB i j g : Nat} {V : Value} {cc : Array Value} {D : CfgD} {L : List LF} {y : LF} {p : LA} (h : ML w4 X S2 DB AB V cc D L) (hy : L[i]? = some y) (hp : y.alts[j]? = some p) (hg : y.v.ownBlock = some g) {d' : IfD} {o : Nat} {u : Value} (ho : o < 7) (hd : d'.cells = p.a.d.cells.set o u) (hok : d'.ok) :
    ML w4 (X.setCell ⟨g, j * 9 + o, none⟩ u) S2 DB AB V cc D (L.set i ⟨y.alts.set j ⟨{ p.a with d := d' }, p.X, p.E⟩, y.v⟩) :=
  ⟨h.mid.field hy hp hg ho hd hok, heap_other h.ab (fun e => own_ne (h.mid.lis.rows y (List.mem_of_getElem? hy)).1 h.ab (by decide) (e ▸ hg))⟩
noncomputable def code13f : Code := (Tryd.f7.body.bind (findR 13)).getD .skip
set_option maxRecDepth 1000000 in
set_option maxHeartbeats 16000000 in
theorem mess_in {u0 u2 u3 u4 u5 u8 u9 u10 u11 u12 u13 u14 u15 u16 u17 u18 u19 u20 u21 u22 u23 u24 u25 u26 u27 u28 u29 u30 u31 u32 u33 u34 u35 u36 u37 u38 u39 u40 u41 u42 u43 u44 u45 u46 u47 u48 u49 u50 u51 u52 u53 u54 u55 u56 u57 u58 u59 u60 u61 u62 u63 u64 u65 u66 u67 u68 u69 u70 u71 u72 u73 u74 u75 u76 u77 u78 u79 u80 u81 u82 u83 u84 u85 u86 u87 u88 u89 u90 u91 u92 u93 u94 u95 u96 u97 u98 u99 u100 u101 u102 u103 u104 u105 u106 u107 u108 u109 u110 u111 u112 u113 u114 u115 u116 u117 u118 u119 u120 u121 u122 u123 u124 u125 u126 u127 u128 u129 u130 u131 u132 u133 u134 u135 u136 u137 u138 u139 u140 u141 u142 u143 u144 u145 u146 u147 u148 u149 u150 u151 u152 u153 u154 u155 u156 u157 u158 u159 u160 u161 u162 u163 u164 u165 u166 u167 u168 u169 u170 u171 u172 u173 u174 u175 u176 u177 u178 u179 u180 u181 u182 u183 u184 u185 u186 u187 u188 u189 u190 u191 u192 u193 u194 u195 u196 u197 u198 u199 u200 u201 u202 u203 u204 u205 u206 u207 u208 u209 u210 u211 u212 u213 u214 : Value} {w4 wr : World} {S2 DB AB gI n1 cI i : Nat} {cc : Array Value} {D : CfgD} {L : List LF} {I : List (List Alt)} {bz : Int} (hm : ML w4 wr S2 DB AB (.slice (some ⟨gI, 0, none⟩) n1 cI) cc D L) (hc : coreI (plainL L) = coreI I) (hL : L.length = n1) (hi : i < n1) (hb : u8k bz)
    (Q : Exit → Act → World → Prop) (K : Act → World → Prop) (hK : ∀ a w', Code.wp Tryd.prog (restC code13f) Q a w' → K a w')
    (hK2 : ∀ (s8 s9 s53 s54 s55 s56 s57 s58 s59 s60 s61 s62 s63 s64 s65 s66 s67 s68 s69 s70 s71 s72 s73 s74 s75 s76 s77 s78 s79 s80 s81 s82 s83 s84 s85 s86 s87 s88 s89 s90 s91 s92 s93 s94 s95 s96 s97 s98 s99 s100 s101 : Value) (L' : List LF) (w' : World), (ML w4 w' S2 DB AB (.slice (some ⟨gI, 0, none⟩) n1 cI) cc D L' ∧ coreI (plainL L') = coreI I ∧ L'.length = n1) → Q .normal ⟨#[u0, .int .u8 bz, u2, u3, u4, u5, .pointer (some ⟨DB, 0, none⟩), .int .i64 (i : Int), s8, s9, u10, u11, u12, u13, u14, u15, u16, u17, u18, u19, u20, u21, u22, u23, u24, u25, u26, u27, u28, u29, u30, u31, u32, u33, u34, u35, u36, u37, u38, u39, u40, u41, u42, u43, u44, u45, u46, u47, u48, u49, u50, u51, u52, s53, s54, s55, s56, s57, s58, s59, s60, s61, s62, s63, s64, s65, s66, s67, s68, s69, s70, s71, s72, s73, s74, s75, s76, s77, s78, s79, s80, s81, s82, s83, s84, s85, s86, s87, s88, s89, s90, s91, s92, s93, s94, s95, s96, s97, s98, s99, s100, s101, u102, u103, u104, u105, u106, u107, u108, u109, u110, u111, u112, u113, u114, u115, u116, u117, u118, u119, u120, u121, u122, u123, u124, u125, u126, u127, u128, u129, u130, u131, u132, u133, u134, u135, u136, u137, u138, u139, u140, u141, u142, u143, u144, u145, u146, u147, u148, u149, u150, u151, u152, u153, u154, u155, u156, u157, u158, u159, u160, u161, u162, u163, u164, u165, u166, u167, u168, u169, u170, u171, u172, u173, u174, u175, u176, u177, u178, u179, u180, u181, u182, u183, u184, u185, u186, u187, u188, u189, u190, u191, u192, u193, u194, u195, u196, u197, u198, u199, u200, u201, u202, u203, u204, u205, u206, u207, u208, u209, u210, u211, u212, u213, u214], []⟩ w') :
    Code.wp Tryd.prog (headC code13f) (Exit.then K Q) ⟨#[u0, .int .u8 bz, u2, u3, u4, u5, .pointer (some ⟨DB, 0, none⟩), .int .i64 (i : Int), u8, u9, u10, u11, u12, u13, u14, u15, u16, u17, u18, u19, u20, u21, u22, u23, u24, u25, u26, u27, u28, u29, u30, u31, u32, u33, u34, u35, u36, u37, u38, u39, u40, u41, u42, u43, u44, u45, u46, u47, u48, u49, u50, u51, u52, u53, u54, u55, u56, u57, u58, u59, u60, u61, u62, u63, u64, u65, u66, u67, u68, u69, u70, u71, u72, u73, u74, u75, u76, u77, u78, u79, u80, u81, u82, u83, u84, u85, u86, u87, u88, u89, u90, u91, u92, u93, u94, u95, u96, u97, u98, u99, u100, u101, u102, u103, u104, u105, u106, u107, u108, u109, u110, u111, u112, u113, u114, u115, u116, u117, u118, u119, u120, u121, u122, u123, u124, u125, u126, u127, u128, u129, u130, u131, u132, u133, u134, u135, u136, u137, u138, u139, u140, u141, u142, u143, u144, u145, u146, u147, u148, u149, u150, u151, u152, u153, u154, u155, u156, u157, u158, u159, u160, u161, u162, u163, u164, u165, u166, u167, u168, u169, u170, u171, u172, u173, u174, u175, u176, u177, u178, u179, u180, u181, u182, u183, u184, u185, u186, u187, u188, u189, u190, u191, u192, u193, u194, u195, u196, u197, u198, u199, u200, u201, u202, u203, u204, u205, u206, u207, u208, u209, u210, u211, u212, u213, u214], []⟩ wr := by
  have Hc := hide hc
  have HL := hide hL
  clear hc hL
  have HK := hide hK
  have HK2 := hide hK2
  have Hm := hide hm
  clear hm hK2
  conv => arg 2; whnf
  conv at hK => enter [a, w', 1, 2]; whnf
  clear HK
  go_wp2_with fail

  obtain ⟨m, hm0⟩ : ∃ m, (I[i]?.map List.length) = some m := ⟨_, by rw [List.getElem?_eq_getElem (by have h5 := len_core Hc.out; unfold plainL at h5; rw [List.length_map, HL.out] at h5; omega)]; rfl⟩
  have Hm0 := hide hm0
  clear hm0
  go_loopg [8, 9] m (fun g' s8 s9 wx => ∃ (j : Nat) (L' : List LF), j + g' = m ∧ s8 = .int .i64 (j : Int) ∧ ML w4 wx S2 DB AB (.slice (some ⟨gI, 0, none⟩) n1 cI) cc D L' ∧ coreI (plainL L') = coreI I ∧ L'.length = n1)
  case atStart => exact ⟨0, L, by omega, rfl, Hm.out, Hc.out, HL.out⟩
  case round =>
    clear Hm Hc HL
    obtain ⟨j, L', hj, rfl, hm, hc, hL'⟩ := hrel
    obtain ⟨y, hy⟩ : ∃ y, L'[i]? = some y := ⟨_, List.getElem?_eq_getElem (by omega)⟩
    have hoI := hm.mid.lis.own
    rw [hL'] at hoI
    have hoy := (hm.mid.lis.rows y (List.mem_of_getElem? hy)).1
    have hcI := own_cells (j := i) (cs := [y.v]) hoI hy (fun F c hr => hr.1) 0 _ rfl
    have hcI' : wr.cell? ⟨gI, i, none⟩ = some y.v := by simpa [lfT, Ty.flat] using hcI
    have b7 : wr.cell? ⟨DB, 7, none⟩ = some (.slice (some ⟨gI, 0, none⟩) n1 cI) := cell_heap hm.mid.box (o := 7) rfl
    have lD := heap_lt hm.mid.box
    obtain ⟨_, curI, _, hhI⟩ := ownBlock_heap hoI rfl
    have lI := heap_lt hhI
    have hym : y.alts.length = m := by
      have h5 := Hm0.out
      obtain ⟨l, hl, hl2⟩ := Option.map_eq_some_iff.1 h5
      have h6 := core_len_at hc (i := i) (l := y.alts.map LA.a) (by unfold plainL; rw [List.getElem?_map, hy]; rfl) hl
      rw [List.length_map] at h6
      omega
    rw [hym] at hoy
    obtain ⟨Ay, cy, hvy, hy1, hy2⟩ := hoy.isSlice
    rw [hvy] at hcI'
    unfold maxLen at hy2
    have hi0 : (0 : Int) ≤ (i : Int) := by omega
    have hin : (i : Int) < (n1 : Int) := by omega
    have Hm := hide hm
    have Hc := hide hc
    have HL' := hide hL'
    have Hy := hide hy
    have Hj := hide hj
    have Hvy := hide hvy
    have Hym := hide hym
    have Hoy := hide hoy
    clear hm hc hL' hy hj hoI hcI hhI hvy hym hoy
    by_cases hlt : j < m
    case neg =>
      have hge : ¬ (j : Int) < (m : Int) := by omega
      go_wp2_with fail
      exact HK2.out _ _ _ _ _ _ _ _ _ _ _ _ _ _ _ _ _ _ _ _ _ _ _ _ _ _ _ _ _ _ _ _ _ _ _ _ _ _ _ _ _ _ _ _ _ _ _ _ _ _ _ _ _ ⟨Hm.out, Hc.out, HL'.out⟩
    case pos =>
    have hjm : (j : Int) < (m : Int) := by omega
    have hj0 : (0 : Int) ≤ (j : Int) := by omega
    have hwj : IntKind.i64.wrap ((j : Int) + 1) = ((j + 1 : Nat) : Int) := by rw [IntKind.wrap_i64]; omega
    have hoy := Hoy.out
    obtain ⟨g, cA, curA, hvA, hgA, hhA, hcA1, hcA2, hbA⟩ := own_block hoy (by omega)
    rw [Hvy.out] at hvA
    injection hvA with hvA1 _ hvA3
    subst hvA1 hvA3
    obtain ⟨p, hp⟩ : ∃ p, y.alts[j]? = some p := ⟨_, List.getElem?_eq_getElem (by rw [Hym.out]; exact hlt)⟩
    have hcs := Hm.out.mid.cells Hy.out hp Hvy.out Hym.out
    have lg := heap_lt hhA
    have hDg : ¬ DB = g := fun e => own_ne hoy Hm.out.mid.box (by decide) (e ▸ hgA)
    have c0 : wr.cell? ⟨g, j * 9, none⟩ = some (.int .u8 p.a.d.num) := hcs 0 _ rfl
    have c1 : wr.cell? ⟨g, j * 9 + 1, none⟩ = some (.int .u8 p.a.d.alt) := hcs 1 _ rfl
    have c2 : wr.cell? ⟨g, j * 9 + 2, none⟩ = some (.int .u8 p.a.d.eps) := hcs 2 _ rfl
    have f0 := frozen_heap hhA (o := j * 9)
    have f1 := frozen_heap hhA (o := j * 9 + 1)
    have f2 := frozen_heap hhA (o := j * 9 + 2)
    have hpok : p.a.d.ok := by
      rw [Hvy.out] at hoy
      obtain ⟨_, cells, _, h3⟩ := hoy
      exact (h3 j p hp).2
    obtain ⟨z0, hz0⟩ : ∃ z, IntKind.u8.wrap (p.a.d.num + bz) = z := ⟨_, rfl⟩
    obtain ⟨z1, hz1⟩ : ∃ z, bits .xor .u8 p.a.d.alt bz = z := ⟨_, rfl⟩
    obtain ⟨z2, hz2⟩ : ∃ z, IntKind.u8.wrap (p.a.d.eps - bz) = z := ⟨_, rfl⟩
    have hz08 : u8k z0 := by rw [← hz0]; exact wrap_is8 _
    have hz18 : u8k z1 := by rw [← hz1]; exact wrap_is8 _
    have hz28 : u8k z2 := by rw [← hz2]; exact wrap_is8 _
    have hm1 : ML w4 (((wr.setCell ⟨g, j * 9, none⟩ (.int .u8 z0)).setCell ⟨g, j * 9 + 1, none⟩ (.int .u8 z1)).setCell ⟨g, j * 9 + 2, none⟩ (.int .u8 z2)) S2 DB AB (.slice (some ⟨gI, 0, none⟩) n1 cI) cc D (L'.set i ⟨y.alts.set j ⟨{ p.a with d := { p.a.d with num := z0, alt := z1, eps := z2 } }, p.X, p.E⟩, y.v⟩) := by
      obtain ⟨o0, o1, o2, o3, o4, o5, o6⟩ := hpok
      have e1 := Hm.out.field Hy.out hp hgA (d' := { p.a.d with num := z0 }) (o := 0) (u := .int .u8 z0) (by decide) rfl ⟨hz08, o1, o2, o3, o4, o5, o6⟩
      have e2 := e1.field (set_y Hy.out) (set_p hp) hgA (d' := { p.a.d with num := z0, alt := z1 }) (o := 1) (u := .int .u8 z1) (by decide) rfl ⟨hz08, hz18, o2, o3, o4, o5, o6⟩
      have e3 := e2.field (set_y (set_y Hy.out)) (set_p (set_p hp)) hgA (d' := { p.a.d with num := z0, alt := z1, eps := z2 }) (o := 2) (u := .int .u8 z2) (by decide) rfl ⟨hz08, hz18, hz28, o3, o4, o5, o6⟩
      simp only [List.set_set] at e3
      exact e3
    have hc1 : coreI (plainL (L'.set i ⟨y.alts.set j ⟨{ p.a with d := { p.a.d with num := z0, alt := z1, eps := z2 } }, p.X, p.E⟩, y.v⟩)) = coreI I := by
      rw [← Hc.out, plainL_set (l := y.alts.map LA.a) (by unfold plainL; rw [List.getElem?_map, Hy.out]; rfl) rfl]
      exact core_set (a := p.a) (by unfold plainL; rw [List.getElem?_map, Hy.out]; rfl) (by rw [List.getElem?_map, hp]; rfl) rfl
    have Hm1 := hide hm1
    have Hc1 := hide hc1
    clear hm1 hc1 hcs hoy hgA hhA hp hpok hz08 hz18 hz28 hbA
    go_wp2_with fail
    go_roundg (gk - 1)
    case measure => have := Hj.out; omega
    case rel => exact ⟨j + 1, _, by have := Hj.out; omega, by first | rfl | go_num, Hm1.out, Hc1.out, by rw [List.length_set]; exact HL'.out⟩
noncomputable def code10f : Code := (Tryd.f7.body.bind (findR 10)).getD .skip
set_option maxRecDepth 1000000 in
set_option maxHeartbeats 16000000 in
theorem mess_loop {u0 u2 u3 u4 u5 u7 u8 u9 u10 u11 u12 u13 u14 u15 u16 u17 u18 u19 u20 u21 u22 u23 u24 u25 u26 u27 u28 u29 u30 u31 u32 u33 u34 u35 u36 u37 u38 u39 u40 u41 u42 u43 u44 u45 u46 u47 u48 u49 u50 u51 u52 u53 u54 u55 u56 u57 u58 u59 u60 u61 u62 u63 u64 u65 u66 u67 u68 u69 u70 u71 u72 u73 u74 u75 u76 u77 u78 u79 u80 u81 u82 u83 u84 u85 u86 u87 u88 u89 u90 u91 u92 u93 u94 u95 u96 u97 u98 u99 u100 u101 u102 u103 u104 u105 u106 u107 u108 u109 u110 u111 u112 u113 u114 u115 u116 u117 u118 u119 u120 u121 u122 u123 u124 u125 u126 u127 u128 u129 u130 u131 u132 u133 u134 u135 u136 u137 u138 u139 u140 u141 u142 u143 u144 u145 u146 u147 u148 u149 u150 u151 u152 u153 u154 u155 u156 u157 u158 u159 u160 u161 u162 u163 u164 u165 u166 u167 u168 u169 u170 u171 u172 u173 u174 u175 u176 u177 u178 u179 u180 u181 u182 u183 u184 u185 u186 u187 u188 u189 u190 u191 u192 u193 u194 u195 u196 u197 u198 u199 u200 u201 u202 u203 u204 u205 u206 u207 u208 u209 u210 u211 u212 u213 u214 : Value} {w4 wr : World} {S2 DB AB gI n1 cI : Nat} {cc : Array Value} {D : CfgD} {L : List LF} {I : List (List Alt)} {bz : Int} (hm : ML w4 wr S2 DB AB (.slice (some ⟨gI, 0, none⟩) n1 cI) cc D L) (hc : coreI (plainL L) = coreI I) (hL : L.length = n1) (hb : u8k bz)
    (Q : Exit → Act → World → Prop) (K K2 : Act → World → Prop) (hK : ∀ a w', Code.wp Tryd.prog (restC code10f) (Exit.then K2 Q) a w' → K a w')
    (hK2 : ∀ (s7 s8 s9 s46 s47 s48 s49 s50 s51 s52 s53 s54 s55 s56 s57 s58 s59 s60 s61 s62 s63 s64 s65 s66 s67 s68 s69 s70 s71 s72 s73 s74 s75 s76 s77 s78 s79 s80 s81 s82 s83 s84 s85 s86 s87 s88 s89 s90 s91 s92 s93 s94 s95 s96 s97 s98 s99 s100 s101 : Value) (L' : List LF) (w' : World), (ML w4 w' S2 DB AB (.slice (some ⟨gI, 0, none⟩) n1 cI) cc D L' ∧ coreI (plainL L') = coreI I ∧ L'.length = n1) → K2 ⟨#[u0, .int .u8 bz, u2, u3, u4, u5, .pointer (some ⟨DB, 0, none⟩), s7, s8, s9, u10, u11, u12, u13, u14, u15, u16, u17, u18, u19, u20, u21, u22, u23, u24, u25, u26, u27, u28, u29, u30, u31, u32, u33, u34, u35, u36, u37, u38, u39, u40, u41, u42, u43, u44, u45, s46, s47, s48, s49, s50, s51, s52, s53, s54, s55, s56, s57, s58, s59, s60, s61, s62, s63, s64, s65, s66, s67, s68, s69, s70, s71, s72, s73, s74, s75, s76, s77, s78, s79, s80, s81, s82, s83, s84, s85, s86, s87, s88, s89, s90, s91, s92, s93, s94, s95, s96, s97, s98, s99, s100, s101, u102, u103, u104, u105, u106, u107, u108, u109, u110, u111, u112, u113, u114, u115, u116, u117, u118, u119, u120, u121, u122, u123, u124, u125, u126, u127, u128, u129, u130, u131, u132, u133, u134, u135, u136, u137, u138, u139, u140, u141, u142, u143, u144, u145, u146, u147, u148, u149, u150, u151, u152, u153, u154, u155, u156, u157, u158, u159, u160, u161, u162, u163, u164, u165, u166, u167, u168, u169, u170, u171, u172, u173, u174, u175, u176, u177, u178, u179, u180, u181, u182, u183, u184, u185, u186, u187, u188, u189, u190, u191, u192, u193, u194, u195, u196, u197, u198, u199, u200, u201, u202, u203, u204, u205, u206, u207, u208, u209, u210, u211, u212, u213, u214], []⟩ w') :
    Code.wp Tryd.prog (headC code10f) (Exit.then K (Exit.then K2 Q)) ⟨#[u0, .int .u8 bz, u2, u3, u4, u5, .pointer (some ⟨DB, 0, none⟩), u7, u8, u9, u10, u11, u12, u13, u14, u15, u16, u17, u18, u19, u20, u21, u22, u23, u24, u25, u26, u27, u28, u29, u30, u31, u32, u33, u34, u35, u36, u37, u38, u39, u40, u41, u42, u43, u44, u45, u46, u47, u48, u49, u50, u51, u52, u53, u54, u55, u56, u57, u58, u59, u60, u61, u62, u63, u64, u65, u66, u67, u68, u69, u70, u71, u72, u73, u74, u75, u76, u77, u78, u79, u80, u81, u82, u83, u84, u85, u86, u87, u88, u89, u90, u91, u92, u93, u94, u95, u96, u97, u98, u99, u100, u101, u102, u103, u104, u105, u106, u107, u108, u109, u110, u111, u112, u113, u114, u115, u116, u117, u118, u119, u120, u121, u122, u123, u124, u125, u126, u127, u128, u129, u130, u131, u132, u133, u134, u135, u136, u137, u138, u139, u140, u141, u142, u143, u144, u145, u146, u147, u148, u149, u150, u151, u152, u153, u154, u155, u156, u157, u158, u159, u160, u161, u162, u163, u164, u165, u166, u167, u168, u169, u170, u171, u172, u173, u174, u175, u176, u177, u178, u179, u180, u181, u182, u183, u184, u185, u186, u187, u188, u189, u190, u191, u192, u193, u194, u195, u196, u197, u198, u199, u200, u201, u202, u203, u204, u205, u206, u207, u208, u209, u210, u211, u212, u213, u214], []⟩ wr := by
  have Hc := hide hc
  have HL := hide hL
  clear hc hL
  have HK := hide hK
  have HK2 := hide hK2
  have Hm := hide hm
  clear hm hK2
  conv => arg 2; whnf
  conv at hK => enter [a, w', 1, 2]; whnf
  clear HK
  go_wp2_with fail

  go_loopg [7, 8, 9] n1 (fun g' s7 s8 s9 wx => ∃ (i : Nat) (L' : List LF), i + g' = n1 ∧ s7 = .int .i64 (i : Int) ∧ ML w4 wx S2 DB AB (.slice (some ⟨gI, 0, none⟩) n1 cI) cc D L' ∧ coreI (plainL L') = coreI I ∧ L'.length = n1)
  case atStart => exact ⟨0, L, by omega, rfl, Hm.out, Hc.out, HL.out⟩
  case round =>
    clear Hm Hc HL
    obtain ⟨i, L', hj, rfl, hm, hc, hL'⟩ := hrel
    have b7 : wr.cell? ⟨DB, 7, none⟩ = some (.slice (some ⟨gI, 0, none⟩) n1 cI) := cell_heap hm.mid.box (o := 7) rfl
    have lD := heap_lt hm.mid.box
    have hoI := hm.mid.lis.own
    rw [hL'] at hoI
    obtain ⟨_, cz, hvz, hz1, hz2⟩ := hoI.isSlice
    unfold maxLen at hz2
    clear hoI hvz
    have Hm := hide hm
    have Hc := hide hc
    have HL' := hide hL'
    have Hj := hide hj
    clear hm hc hL' hj
    by_cases hlt : i < n1
    case neg =>
      have hge : ¬ (i : Int) < (n1 : Int) := by omega
      go_wp2_with fail
      exact HK2.out _ _ _ _ _ _ _ _ _ _ _ _ _ _ _ _ _ _ _ _ _ _ _ _ _ _ _ _ _ _ _ _ _ _ _ _ _ _ _ _ _ _ _ _ _ _ _ _ _ _ _ _ _ _ _ _ _ _ _ _ _ ⟨Hm.out, Hc.out, HL'.out⟩
    case pos =>
    have hin : (i : Int) < (n1 : Int) := by omega
    have hwi : IntKind.i64.wrap ((i : Int) + 1) = ((i + 1 : Nat) : Int) := by rw [IntKind.wrap_i64]; omega
    go_upto_region 13 with fail
    refine mess_in Hm.out Hc.out HL'.out hlt hb _ _ ?_ ?_
    · assumption
    clear Hm Hc HL' b7 lD
    intro s8 s9 s53 s54 s55 s56 s57 s58 s59 s60 s61 s62 s63 s64 s65 s66 s67 s68 s69 s70 s71 s72 s73 s74 s75 s76 s77 s78 s79 s80 s81 s82 s83 s84 s85 s86 s87 s88 s89 s90 s91 s92 s93 s94 s95 s96 s97 s98 s99 s100 s101 L2 w2 hh
    obtain ⟨hm2, hc2, hL2⟩ := hh
    have Hm2 := hide hm2
    have Hc2 := hide hc2
    have HL2 := hide hL2
    clear hm2 hc2 hL2
    go_wp2_with fail
    go_roundg (gk - 1)
    case measure => have := Hj.out; omega
    case rel => exact ⟨i + 1, L2, by have := Hj.out; omega, by first | rfl | go_num, Hm2.out, Hc2.out, HL2.out⟩
end Go.Proofs.YtjgncofhobhjdaaDoor
/- The law Fill: its second loops, which alter what was filled. Printed by gen_wb.py. -/
namespace Go.Proofs.YtjgncofhobhjdaaDoor
open Go.RowKit
attribute [local go_sem ↓] Go.wp_at_zero Go.wp_at_succ

/-- no row lies at F0 or behind -/
def Bnd (F0 : Nat) (L : List LF) : Prop := ∀ y ∈ L, (∀ g, y.v.ownBlock = some g → g < F0) ∧ ∀ p ∈ y.alts, (∀ g, p.X.ownBlock = some g → g < F0) ∧ ∀ g, p.E.ownBlock = some g → g < F0
theorem Bnd.set {F0 i j : Nat} {L : List LF} {y : LF} {p p' : LA} (h : Bnd F0 L) (hy : L[i]? = some y) (hp : y.alts[j]? = some p) (hX : p'.X = p.X) (hE : p'.E = p.E) : Bnd F0 (L.set i ⟨y.alts.set j p', y.v⟩) := by
  intro z hz
  rcases List.mem_or_eq_of_mem_set hz with hz | rfl
  · exact h z hz
  · have hb := h y (List.mem_of_getElem? hy)
    refine ⟨hb.1, fun q hq => ?_⟩
    rcases List.mem_or_eq_of_mem_set hq with hq | rfl
    · exact hb.2 q hq
    · rw [hX, hE]
      exact hb.2 p (List.mem_of_getElem? hp)
theorem Bnd.of {base : Nat} {w : World} {v : Value} {L : List LF} (h : LIs base w v L) : Bnd w.heap.size L := fun y hy => ⟨fun g hg => ((h.rows y hy).1.lt hg).2, fun p hp => ⟨fun g hg => (((h.rows y hy).2 p hp).1.lt hg).2, fun g hg => (((h.rows y hy).2 p hp).2.lt hg).2⟩⟩
/-- the law's memory behind Fill: what was filled lies behind -/
structure MF (w4 XF X : World) (S2 DB AB F0 : Nat) (V : Value) (cc : Array Value) (D : CfgD) (L : List LF) : Prop where
  ml : ML w4 X S2 DB AB V cc D L
  fr : From F0 XF X
  bd : Bnd F0 L
section
variable {w4 XF X : World} {S2 DB AB F0 i j k g o : Nat} {V u : Value} {cc : Array Value} {D : CfgD} {L : List LF} {y : LF} {p : LA}
theorem MF.field (h : MF w4 XF X S2 DB AB F0 V cc D L) (hy : L[i]? = some y) (hp : y.alts[j]? = some p) (hg : y.v.ownBlock = some g) {d' : IfD} (ho : o < 7) (hd : d'.cells = p.a.d.cells.set o u) (hok : d'.ok) :
    MF w4 XF (X.setCell ⟨g, j * 9 + o, none⟩ u) S2 DB AB F0 V cc D (L.set i ⟨y.alts.set j ⟨{ p.a with d := d' }, p.X, p.E⟩, y.v⟩) :=
  ⟨h.ml.field hy hp hg ho hd hok, h.fr.trans (From.set _ ((h.bd y (List.mem_of_getElem? hy)).1 g hg)), h.bd.set hy hp rfl rfl⟩
theorem MF.byte (h : MF w4 XF X S2 DB AB F0 V cc D L) (hy : L[i]? = some y) (hp : y.alts[j]? = some p) {z z' : Int} (hg : p.X.ownBlock = some g) (hz : p.a.extra[k]? = some z) (hz' : u8k z') :
    MF w4 XF (X.setCell ⟨g, k, none⟩ (.int .u8 z')) S2 DB AB F0 V cc D (L.set i ⟨y.alts.set j ⟨{ p.a with extra := p.a.extra.set k z' }, p.X, p.E⟩, y.v⟩) := by
  have hr := (h.ml.mid.lis.rows y (List.mem_of_getElem? hy)).2 p (List.mem_of_getElem? hp)
  have hb := ((h.bd y (List.mem_of_getElem? hy)).2 p (List.mem_of_getElem? hp)).1 g hg
  have hlt := hr.1.lt hg
  exact ⟨⟨⟨h.ml.mid.kept.setCell (Nat.le_trans h.ml.mid.low.1 hlt.1) _, h.ml.mid.low, heap_other h.ml.mid.box (fun e => own_ne hr.1 h.ml.mid.box (by decide) (e ▸ hg)), h.ml.mid.lis.byte hy hp hg hz hz'⟩, heap_other h.ml.ab (fun e => own_ne hr.1 h.ml.ab (by decide) (e ▸ hg))⟩, h.fr.trans (From.set _ hb), h.bd.set hy hp rfl rfl⟩
theorem MF.epField (h : MF w4 XF X S2 DB AB F0 V cc D L) (hy : L[i]? = some y) (hp : y.alts[j]? = some p) {z z' : EpD} (hg : p.E.ownBlock = some g) (hz : p.a.eps[k]? = some z) (ho : o < 5) (hc : z'.cells = z.cells.set o u) (hz' : z'.ok) :
    MF w4 XF (X.setCell ⟨g, k * 5 + o, none⟩ u) S2 DB AB F0 V cc D (L.set i ⟨y.alts.set j ⟨{ p.a with eps := p.a.eps.set k z' }, p.X, p.E⟩, y.v⟩) := by
  have hr := (h.ml.mid.lis.rows y (List.mem_of_getElem? hy)).2 p (List.mem_of_getElem? hp)
  have hb := ((h.bd y (List.mem_of_getElem? hy)).2 p (List.mem_of_getElem? hp)).2 g hg
  have hlt := hr.2.lt hg
  exact ⟨⟨⟨h.ml.mid.kept.setCell (Nat.le_trans h.ml.mid.low.1 hlt.1) _, h.ml.mid.low, heap_other h.ml.mid.box (fun e => own_ne hr.2 h.ml.mid.box (by decide) (e ▸ hg)), h.ml.mid.lis.epField hy hp hg hz ho hc hz'⟩, heap_other h.ml.ab (fun e => own_ne hr.2 h.ml.ab (by decide) (e ▸ hg))⟩, h.fr.trans (From.set _ hb), h.bd.set hy hp rfl rfl⟩
end
/-- where the law stands: a setting, by its place -/
structure AtP (L : List LF) (i j g m cA n1 : Nat) (yy : LF) (pp : LA) : Prop where
  y : L[i]? = some yy
  p : yy.alts[j]? = some pp
  v : yy.v = .slice (some ⟨g, 0, none⟩) m cA
  len : yy.alts.length = m
  many : L.length = n1
theorem AtP.set {L : List LF} {i j g m cA n1 : Nat} {y : LF} {p p' : LA} (h : AtP L i j g m cA n1 y p) : AtP (L.set i ⟨y.alts.set j p', y.v⟩) i j g m cA n1 ⟨y.alts.set j p', y.v⟩ p' :=
  ⟨set_y h.y, set_p h.p, h.v, by rw [List.length_set]; exact h.len, by rw [List.length_set]; exact h.many⟩
noncomputable def code31f : Code := (Tryd.f7.body.bind (findR 31)).getD .skip
set_option maxRecDepth 1000000 in
set_option maxHeartbeats 16000000 in
theorem byte_loop {u0 u1 u2 u3 u4 u5 u6 u7 u8 u9 u10 u11 u12 u14 u15 u16 u17 u18 u19 u20 u21 u22 u23 u24 u25 u26 u27 u28 u29 u30 u31 u32 u33 u34 u35 u36 u37 u38 u39 u40 u41 u42 u43 u44 u45 u46 u47 u48 u49 u50 u51 u52 u53 u54 u55 u56 u57 u58 u59 u60 u61 u62 u63 u64 u65 u66 u67 u68 u69 u70 u71 u72 u73 u74 u75 u76 u77 u78 u79 u80 u81 u82 u83 u84 u85 u86 u87 u88 u89 u90 u91 u92 u93 u94 u95 u96 u97 u98 u99 u100 u101 u102 u103 u104 u105 u106 u107 u108 u109 u110 u111 u112 u113 u114 u115 u116 u117 u118 u119 u120 u121 u122 u123 u124 u125 u126 u127 u128 u129 u130 u131 u132 u133 u134 u135 u136 u137 u138 u139 u140 u141 u142 u143 u144 u145 u146 u147 u148 u149 u150 u151 u152 u153 u154 u155 u156 u157 u158 u159 u160 u161 u162 u163 u164 u165 u166 u167 u168 u169 u170 u171 u172 u173 u174 u175 u176 u177 u178 u179 u180 u181 u182 u183 u184 u185 u186 u187 u188 u189 u190 u191 u192 u193 u194 u195 u196 u197 u198 u199 u200 u201 u202 u203 u204 u205 u206 u207 u208 u209 u210 u211 u212 u213 u214 : Value} {w4 XF wr : World} {S2 DB AB F0 gI n1 cI g m cA i j : Nat} {cc : Array Value} {D : CfgD} {L : List LF} {y : LF} {p : LA} (hm : MF w4 XF wr S2 DB AB F0 (.slice (some ⟨gI, 0, none⟩) n1 cI) cc D L) (ha : AtP L i j g m cA n1 y p)
    (Q : Exit → Act → World → Prop) (K K2 : Act → World → Prop) (hK : ∀ a w', Code.wp Tryd.prog (restC code31f) (Exit.then K2 Q) a w' → K a w')
    (hK2 : ∀ (s14 s169 s170 s171 s172 s173 s174 s175 s176 s177 s178 s179 s180 s181 s182 s183 s184 s185 s186 : Value) (L' : List LF) (y' : LF) (p' : LA) (w' : World), (MF w4 XF w' S2 DB AB F0 (.slice (some ⟨gI, 0, none⟩) n1 cI) cc D L' ∧ AtP L' i j g m cA n1 y' p') → K2 ⟨#[u0, u1, u2, u3, u4, u5, u6, u7, u8, u9, u10, u11, u12, .pointer (some ⟨g, j * 9, none⟩), s14, u15, u16, u17, u18, u19, u20, u21, u22, u23, u24, u25, u26, u27, u28, u29, u30, u31, u32, u33, u34, u35, u36, u37, u38, u39, u40, u41, u42, u43, u44, u45, u46, u47, u48, u49, u50, u51, u52, u53, u54, u55, u56, u57, u58, u59, u60, u61, u62, u63, u64, u65, u66, u67, u68, u69, u70, u71, u72, u73, u74, u75, u76, u77, u78, u79, u80, u81, u82, u83, u84, u85, u86, u87, u88, u89, u90, u91, u92, u93, u94, u95, u96, u97, u98, u99, u100, u101, u102, u103, u104, u105, u106, u107, u108, u109, u110, u111, u112, u113, u114, u115, u116, u117, u118, u119, u120, u121, u122, u123, u124, u125, u126, u127, u128, u129, u130, u131, u132, u133, u134, u135, u136, u137, u138, u139, u140, u141, u142, u143, u144, u145, u146, u147, u148, u149, u150, u151, u152, u153, u154, u155, u156, u157, u158, u159, u160, u161, u162, u163, u164, u165, u166, u167, u168, s169, s170, s171, s172, s173, s174, s175, s176, s177, s178, s179, s180, s181, s182, s183, s184, s185, s186, u187, u188, u189, u190, u191, u192, u193, u194, u195, u196, u197, u198, u199, u200, u201, u202, u203, u204, u205, u206, u207, u208, u209, u210, u211, u212, u213, u214], []⟩ w') :
    Code.wp Tryd.prog (headC code31f) (Exit.then K (Exit.then K2 Q)) ⟨#[u0, u1, u2, u3, u4, u5, u6, u7, u8, u9, u10, u11, u12, .pointer (some ⟨g, j * 9, none⟩), u14, u15, u16, u17, u18, u19, u20, u21, u22, u23, u24, u25, u26, u27, u28, u29, u30, u31, u32, u33, u34, u35, u36, u37, u38, u39, u40, u41, u42, u43, u44, u45, u46, u47, u48, u49, u50, u51, u52, u53, u54, u55, u56, u57, u58, u59, u60, u61, u62, u63, u64, u65, u66, u67, u68, u69, u70, u71, u72, u73, u74, u75, u76, u77, u78, u79, u80, u81, u82, u83, u84, u85, u86, u87, u88, u89, u90, u91, u92, u93, u94, u95, u96, u97, u98, u99, u100, u101, u102, u103, u104, u105, u106, u107, u108, u109, u110, u111, u112, u113, u114, u115, u116, u117, u118, u119, u120, u121, u122, u123, u124, u125, u126, u127, u128, u129, u130, u131, u132, u133, u134, u135, u136, u137, u138, u139, u140, u141, u142, u143, u144, u145, u146, u147, u148, u149, u150, u151, u152, u153, u154, u155, u156, u157, u158, u159, u160, u161, u162, u163, u164, u165, u166, u167, u168, u169, u170, u171, u172, u173, u174, u175, u176, u177, u178, u179, u180, u181, u182, u183, u184, u185, u186, u187, u188, u189, u190, u191, u192, u193, u194, u195, u196, u197, u198, u199, u200, u201, u202, u203, u204, u205, u206, u207, u208, u209, u210, u211, u212, u213, u214], []⟩ wr := by
  have Ha := hide ha
  clear ha
  have HK := hide hK
  have HK2 := hide hK2
  have Hm := hide hm
  clear hm hK2
  conv => arg 2; whnf
  conv at hK => enter [a, w', 1, 2]; whnf
  clear HK
  go_wp2_with fail

  obtain ⟨nX, hnX⟩ : ∃ nX, p.a.extra.length = nX := ⟨_, rfl⟩
  have HnX := hide hnX
  clear hnX
  go_loopg [14] nX (fun g' s wx => ∃ (k : Nat) (L' : List LF) (y' : LF) (p' : LA), k + g' = nX ∧ s = .int .i64 (k : Int) ∧ MF w4 XF wx S2 DB AB F0 (.slice (some ⟨gI, 0, none⟩) n1 cI) cc D L' ∧ AtP L' i j g m cA n1 y' p' ∧ p'.a.extra.length = nX)
  case atStart => exact ⟨0, L, y, p, by omega, rfl, Hm.out, Ha.out, HnX.out⟩
  case round =>
    clear Hm Ha HnX
    obtain ⟨k, L', y', p', hk, rfl, hm, ha, hl⟩ := hrel
    have hcs := hm.ml.mid.cells ha.y ha.p ha.v ha.len
    have hro := (hm.ml.mid.lis.rows y' (List.mem_of_getElem? ha.y)).1
    have hrp := ((hm.ml.mid.lis.rows y' (List.mem_of_getElem? ha.y)).2 p' (List.mem_of_getElem? ha.p)).1
    rw [hl] at hrp
    obtain ⟨_, curA, _, hhA⟩ := ownBlock_heap hro (by rw [ha.v]; rfl)
    have lg := heap_lt hhA
    obtain ⟨AX, cX, hX, hx1, hx2⟩ := hrp.isSlice
    unfold maxLen at hx2
    have c7 : wr.cell? ⟨g, j * 9 + 7, none⟩ = some p'.X := hcs 7 _ rfl
    rw [hX] at c7
    have Hm := hide hm
    have Ha := hide ha
    have Hl := hide hl
    have Hk := hide hk
    have Hrp := hide hrp
    have HX := hide hX
    clear hm ha hl hk hrp hX hcs hro hhA
    by_cases hlt : k < nX
    case neg =>
      have hge : ¬ (k : Int) < (nX : Int) := by omega
      go_wp2_with fail
      exact HK2.out _ _ _ _ _ _ _ _ _ _ _ _ _ _ _ _ _ _ _ _ _ _ _ ⟨Hm.out, Ha.out⟩
    case pos =>
    have hki : (k : Int) < (nX : Int) := by omega
    have hk0 : (0 : Int) ≤ (k : Int) := by omega
    have hwk : IntKind.i64.wrap ((k : Int) + 1) = ((k + 1 : Nat) : Int) := by rw [IntKind.wrap_i64]; omega
    have hrp := Hrp.out
    obtain ⟨gX, cX2, curX, hvX, hgX, hhX, _, _, _⟩ := own_block hrp (by omega)
    rw [HX.out] at hvX
    injection hvX with hvX1 _ hvX3
    subst hvX1 hvX3
    rw [HX.out] at hrp
    obtain ⟨z, hz⟩ : ∃ z, p'.a.extra[k]? = some z := ⟨_, List.getElem?_eq_getElem (by rw [Hl.out]; exact hlt)⟩
    have hck : wr.cell? ⟨gX, k, none⟩ = some (.int .u8 z) := by
      have h5 := own_cells (j := k) (cs := [.int .u8 z]) hrp hz (fun F c hr => hr.1) 0 _ rfl
      simpa [u8T, Ty.flat] using h5
    have f5 := frozen_heap hhX (o := k)
    have l5 := heap_lt hhX
    obtain ⟨z2, hz2⟩ : ∃ z2, IntKind.u8.wrap (z + 1) = z2 := ⟨_, rfl⟩
    have Hm1 := hide (Hm.out.byte Ha.out.y Ha.out.p hgX hz (show u8k z2 by rw [← hz2]; exact wrap_is8 _))
    clear hrp hhX hgX hz
    go_wp2_with fail
    go_roundg (gk - 1)
    case measure => have := Hk.out; omega
    case rel => exact ⟨k + 1, _, _, _, by have := Hk.out; omega, by first | rfl | go_num, Hm1.out, Ha.out.set, by show (List.set _ _ _).length = _; rw [List.length_set]; exact Hl.out⟩
noncomputable def code35f : Code := (Tryd.f7.body.bind (findR 35)).getD .skip
set_option maxRecDepth 1000000 in
set_option maxHeartbeats 16000000 in
theorem max_loop {u0 u1 u2 u3 u4 u5 u6 u7 u8 u9 u10 u11 u12 u14 u15 u16 u17 u18 u19 u20 u21 u22 u23 u24 u25 u26 u27 u28 u29 u30 u31 u32 u33 u34 u35 u36 u37 u38 u39 u40 u41 u42 u43 u44 u45 u46 u47 u48 u49 u50 u51 u52 u53 u54 u55 u56 u57 u58 u59 u60 u61 u62 u63 u64 u65 u66 u67 u68 u69 u70 u71 u72 u73 u74 u75 u76 u77 u78 u79 u80 u81 u82 u83 u84 u85 u86 u87 u88 u89 u90 u91 u92 u93 u94 u95 u96 u97 u98 u99 u100 u101 u102 u103 u104 u105 u106 u107 u108 u109 u110 u111 u112 u113 u114 u115 u116 u117 u118 u119 u120 u121 u122 u123 u124 u125 u126 u127 u128 u129 u130 u131 u132 u133 u134 u135 u136 u137 u138 u139 u140 u141 u142 u143 u144 u145 u146 u147 u148 u149 u150 u151 u152 u153 u154 u155 u156 u157 u158 u159 u160 u161 u162 u163 u164 u165 u166 u167 u168 u169 u170 u171 u172 u173 u174 u175 u176 u177 u178 u179 u180 u181 u182 u183 u184 u185 u186 u187 u188 u189 u190 u191 u192 u193 u194 u195 u196 u197 u198 u199 u200 u201 u202 u203 u204 u205 u206 u207 u208 u209 u210 u211 u212 u213 u214 : Value} {w4 XF wr : World} {S2 DB AB F0 gI n1 cI g m cA i j : Nat} {cc : Array Value} {D : CfgD} {L : List LF} {y : LF} {p : LA} (hm : MF w4 XF wr S2 DB AB F0 (.slice (some ⟨gI, 0, none⟩) n1 cI) cc D L) (ha : AtP L i j g m cA n1 y p)
    (Q : Exit → Act → World → Prop) (K : Act → World → Prop) (hK : ∀ a w', Code.wp Tryd.prog (restC code35f) Q a w' → K a w')
    (hK2 : ∀ (s15 s187 s188 s189 s190 s191 s192 s193 s194 s195 s196 s197 s198 s199 s200 s201 s202 s203 s204 s205 s206 : Value) (L' : List LF) (y' : LF) (p' : LA) (w' : World), (MF w4 XF w' S2 DB AB F0 (.slice (some ⟨gI, 0, none⟩) n1 cI) cc D L' ∧ AtP L' i j g m cA n1 y' p') → Q .normal ⟨#[u0, u1, u2, u3, u4, u5, u6, u7, u8, u9, u10, u11, u12, .pointer (some ⟨g, j * 9, none⟩), u14, s15, u16, u17, u18, u19, u20, u21, u22, u23, u24, u25, u26, u27, u28, u29, u30, u31, u32, u33, u34, u35, u36, u37, u38, u39, u40, u41, u42, u43, u44, u45, u46, u47, u48, u49, u50, u51, u52, u53, u54, u55, u56, u57, u58, u59, u60, u61, u62, u63, u64, u65, u66, u67, u68, u69, u70, u71, u72, u73, u74, u75, u76, u77, u78, u79, u80, u81, u82, u83, u84, u85, u86, u87, u88, u89, u90, u91, u92, u93, u94, u95, u96, u97, u98, u99, u100, u101, u102, u103, u104, u105, u106, u107, u108, u109, u110, u111, u112, u113, u114, u115, u116, u117, u118, u119, u120, u121, u122, u123, u124, u125, u126, u127, u128, u129, u130, u131, u132, u133, u134, u135, u136, u137, u138, u139, u140, u141, u142, u143, u144, u145, u146, u147, u148, u149, u150, u151, u152, u153, u154, u155, u156, u157, u158, u159, u160, u161, u162, u163, u164, u165, u166, u167, u168, u169, u170, u171, u172, u173, u174, u175, u176, u177, u178, u179, u180, u181, u182, u183, u184, u185, u186, s187, s188, s189, s190, s191, s192, s193, s194, s195, s196, s197, s198, s199, s200, s201, s202, s203, s204, s205, s206, u207, u208, u209, u210, u211, u212, u213, u214], []⟩ w') :
    Code.wp Tryd.prog (headC code35f) (Exit.then K Q) ⟨#[u0, u1, u2, u3, u4, u5, u6, u7, u8, u9, u10, u11, u12, .pointer (some ⟨g, j * 9, none⟩), u14, u15, u16, u17, u18, u19, u20, u21, u22, u23, u24, u25, u26, u27, u28, u29, u30, u31, u32, u33, u34, u35, u36, u37, u38, u39, u40, u41, u42, u43, u44, u45, u46, u47, u48, u49, u50, u51, u52, u53, u54, u55, u56, u57, u58, u59, u60, u61, u62, u63, u64, u65, u66, u67, u68, u69, u70, u71, u72, u73, u74, u75, u76, u77, u78, u79, u80, u81, u82, u83, u84, u85, u86, u87, u88, u89, u90, u91, u92, u93, u94, u95, u96, u97, u98, u99, u100, u101, u102, u103, u104, u105, u106, u107, u108, u109, u110, u111, u112, u113, u114, u115, u116, u117, u118, u119, u120, u121, u122, u123, u124, u125, u126, u127, u128, u129, u130, u131, u132, u133, u134, u135, u136, u137, u138, u139, u140, u141, u142, u143, u144, u145, u146, u147, u148, u149, u150, u151, u152, u153, u154, u155, u156, u157, u158, u159, u160, u161, u162, u163, u164, u165, u166, u167, u168, u169, u170, u171, u172, u173, u174, u175, u176, u177, u178, u179, u180, u181, u182, u183, u184, u185, u186, u187, u188, u189, u190, u191, u192, u193, u194, u195, u196, u197, u198, u199, u200, u201, u202, u203, u204, u205, u206, u207, u208, u209, u210, u211, u212, u213, u214], []⟩ wr := by
  have Ha := hide ha
  clear ha
  have HK := hide hK
  have HK2 := hide hK2
  have Hm := hide hm
  clear hm hK2
  conv => arg 2; whnf
  conv at hK => enter [a, w', 1, 2]; whnf
  clear HK
  go_wp2_with fail

  obtain ⟨nX, hnX⟩ : ∃ nX, p.a.eps.length = nX := ⟨_, rfl⟩
  have HnX := hide hnX
  clear hnX
  go_loopg [15] nX (fun g' s wx => ∃ (k : Nat) (L' : List LF) (y' : LF) (p' : LA), k + g' = nX ∧ s = .int .i64 (k : Int) ∧ MF w4 XF wx S2 DB AB F0 (.slice (some ⟨gI, 0, none⟩) n1 cI) cc D L' ∧ AtP L' i j g m cA n1 y' p' ∧ p'.a.eps.length = nX)
  case atStart => exact ⟨0, L, y, p, by omega, rfl, Hm.out, Ha.out, HnX.out⟩
  case round =>
    clear Hm Ha HnX
    obtain ⟨k, L', y', p', hk, rfl, hm, ha, hl⟩ := hrel
    have hcs := hm.ml.mid.cells ha.y ha.p ha.v ha.len
    have hro := (hm.ml.mid.lis.rows y' (List.mem_of_getElem? ha.y)).1
    have hrp := ((hm.ml.mid.lis.rows y' (List.mem_of_getElem? ha.y)).2 p' (List.mem_of_getElem? ha.p)).2
    rw [hl] at hrp
    obtain ⟨_, curA, _, hhA⟩ := ownBlock_heap hro (by rw [ha.v]; rfl)
    have lg := heap_lt hhA
    obtain ⟨AX, cX, hX, hx1, hx2⟩ := hrp.isSlice
    unfold maxLen at hx2
    have c8 : wr.cell? ⟨g, j * 9 + 8, none⟩ = some p'.E := hcs 8 _ rfl
    rw [hX] at c8
    have Hm := hide hm
    have Ha := hide ha
    have Hl := hide hl
    have Hk := hide hk
    have Hrp := hide hrp
    have HX := hide hX
    clear hm ha hl hk hrp hX hcs hro hhA
    by_cases hlt : k < nX
    case neg =>
      have hge : ¬ (k : Int) < (nX : Int) := by omega
      go_wp2_with fail
      exact HK2.out _ _ _ _ _ _ _ _ _ _ _ _ _ _ _ _ _ _ _ _ _ _ _ _ _ ⟨Hm.out, Ha.out⟩
    case pos =>
    have hki : (k : Int) < (nX : Int) := by omega
    have hk0 : (0 : Int) ≤ (k : Int) := by omega
    have hwk : IntKind.i64.wrap ((k : Int) + 1) = ((k + 1 : Nat) : Int) := by rw [IntKind.wrap_i64]; omega
    have hrp := Hrp.out
    obtain ⟨gX, cX2, curX, hvX, hgX, hhX, _, _, _⟩ := own_block hrp (by omega)
    rw [HX.out] at hvX
    injection hvX with hvX1 _ hvX3
    subst hvX1 hvX3
    rw [HX.out] at hrp
    obtain ⟨z, hz⟩ : ∃ z, p'.a.eps[k]? = some z := ⟨_, List.getElem?_eq_getElem (by rw [Hl.out]; exact hlt)⟩
    have hcs := own_cells (j := k) (cs := z.cells) hrp hz (fun F c hr => hr.1)
    have hck : wr.cell? ⟨gX, k * 5 + 3, none⟩ = some (.int .u16 z.max) := hcs 3 _ rfl
    have hzok : z.ok := by
      obtain ⟨_, cells, _, h3⟩ := hrp
      exact (h3 k z hz).2
    have f5 := frozen_heap hhX (o := k * 5 + 3)
    have l5 := heap_lt hhX
    obtain ⟨z2, hz2⟩ : ∃ z2, IntKind.u16.wrap (z.max + 1) = z2 := ⟨_, rfl⟩
    have Hm1 := hide (Hm.out.epField (o := 3) (u := .int .u16 z2) (z' := { z with max := z2 }) Ha.out.y Ha.out.p hgX hz (by decide) rfl ⟨hzok.1, hzok.2.1, by
      rw [← hz2]
      have : IntKind.u16.wrap (z.max + 1) = (z.max + 1) % 65536 := by simp [IntKind.wrap, IntKind.signed, IntKind.bits]
      unfold u16k
      simp only
      omega, hzok.2.2.2⟩)
    clear hrp hhX hgX hz hcs hzok
    go_wp2_with fail
    go_roundg (gk - 1)
    case measure => have := Hk.out; omega
    case rel => exact ⟨k + 1, _, _, _, by have := Hk.out; omega, by first | rfl | go_num, Hm1.out, Ha.out.set, by show (List.set _ _ _).length = _; rw [List.length_set]; exact Hl.out⟩
end Go.Proofs.YtjgncofhobhjdaaDoor
/- The law Fill: its second loops, over settings and interfaces. Printed by gen_wb.py. -/
namespace Go.Proofs.YtjgncofhobhjdaaDoor
open Go.RowKit
attribute [local go_sem ↓] Go.wp_at_zero Go.wp_at_succ

noncomputable def code26f : Code := (Tryd.f7.body.bind (findR 26)).getD .skip
set_option maxRecDepth 1000000 in
set_option maxHeartbeats 16000000 in
theorem alter_in {u0 u1 u2 u3 u4 u5 u7 u8 u9 u10 u12 u13 u14 u15 u16 u17 u18 u19 u20 u21 u22 u23 u24 u25 u26 u27 u28 u29 u30 u31 u32 u33 u34 u35 u36 u37 u38 u39 u40 u41 u42 u43 u44 u45 u46 u47 u48 u49 u50 u51 u52 u53 u54 u55 u56 u57 u58 u59 u60 u61 u62 u63 u64 u65 u66 u67 u68 u69 u70 u71 u72 u73 u74 u75 u76 u77 u78 u79 u80 u81 u82 u83 u84 u85 u86 u87 u88 u89 u90 u91 u92 u93 u94 u95 u96 u97 u98 u99 u100 u101 u102 u103 u104 u105 u106 u107 u108 u109 u110 u111 u112 u113 u114 u115 u116 u117 u118 u119 u120 u121 u122 u123 u124 u125 u126 u127 u128 u129 u130 u131 u132 u133 u134 u135 u136 u137 u138 u139 u140 u141 u142 u143 u144 u145 u146 u147 u148 u149 u150 u151 u152 u153 u154 u155 u156 u157 u158 u159 u160 u161 u162 u163 u164 u165 u166 u167 u168 u169 u170 u171 u172 u173 u174 u175 u176 u177 u178 u179 u180 u181 u182 u183 u184 u185 u186 u187 u188 u189 u190 u191 u192 u193 u194 u195 u196 u197 u198 u199 u200 u201 u202 u203 u204 u205 u206 u207 u208 u209 u210 u211 u212 u213 u214 : Value} {w4 XF wr : World} {S2 DB AB F0 gI n1 cI i : Nat} {cc : Array Value} {D : CfgD} {L : List LF} (hm : MF w4 XF wr S2 DB AB F0 (.slice (some ⟨gI, 0, none⟩) n1 cI) cc D L) (hL : L.length = n1) (hi : i < n1)
    (Q : Exit → Act → World → Prop) (K : Act → World → Prop) (hK : ∀ a w', Code.wp Tryd.prog (restC code26f) Q a w' → K a w')
    (hK2 : ∀ (s12 s13 s14 s15 s141 s142 s143 s144 s145 s146 s147 s148 s149 s150 s151 s152 s153 s154 s155 s156 s157 s158 s159 s160 s161 s162 s163 s164 s165 s166 s167 s168 s169 s170 s171 s172 s173 s174 s175 s176 s177 s178 s179 s180 s181 s182 s183 s184 s185 s186 s187 s188 s189 s190 s191 s192 s193 s194 s195 s196 s197 s198 s199 s200 s201 s202 s203 s204 s205 s206 : Value) (L' : List LF) (w' : World), (MF w4 XF w' S2 DB AB F0 (.slice (some ⟨gI, 0, none⟩) n1 cI) cc D L' ∧ L'.length = n1) → Q .normal ⟨#[u0, u1, u2, u3, u4, u5, .pointer (some ⟨DB, 0, none⟩), u7, u8, u9, u10, .int .i64 (i : Int), s12, s13, s14, s15, u16, u17, u18, u19, u20, u21, u22, u23, u24, u25, u26, u27, u28, u29, u30, u31, u32, u33, u34, u35, u36, u37, u38, u39, u40, u41, u42, u43, u44, u45, u46, u47, u48, u49, u50, u51, u52, u53, u54, u55, u56, u57, u58, u59, u60, u61, u62, u63, u64, u65, u66, u67, u68, u69, u70, u71, u72, u73, u74, u75, u76, u77, u78, u79, u80, u81, u82, u83, u84, u85, u86, u87, u88, u89, u90, u91, u92, u93, u94, u95, u96, u97, u98, u99, u100, u101, u102, u103, u104, u105, u106, u107, u108, u109, u110, u111, u112, u113, u114, u115, u116, u117, u118, u119, u120, u121, u122, u123, u124, u125, u126, u127, u128, u129, u130, u131, u132, u133, u134, u135, u136, u137, u138, u139, u140, s141, s142, s143, s144, s145, s146, s147, s148, s149, s150, s151, s152, s153, s154, s155, s156, s157, s158, s159, s160, s161, s162, s163, s164, s165, s166, s167, s168, s169, s170, s171, s172, s173, s174, s175, s176, s177, s178, s179, s180, s181, s182, s183, s184, s185, s186, s187, s188, s189, s190, s191, s192, s193, s194, s195, s196, s197, s198, s199, s200, s201, s202, s203, s204, s205, s206, u207, u208, u209, u210, u211, u212, u213, u214], []⟩ w') :
    Code.wp Tryd.prog (headC code26f) (Exit.then K Q) ⟨#[u0, u1, u2, u3, u4, u5, .pointer (some ⟨DB, 0, none⟩), u7, u8, u9, u10, .int .i64 (i : Int), u12, u13, u14, u15, u16, u17, u18, u19, u20, u21, u22, u23, u24, u25, u26, u27, u28, u29, u30, u31, u32, u33, u34, u35, u36, u37, u38, u39, u40, u41, u42, u43, u44, u45, u46, u47, u48, u49, u50, u51, u52, u53, u54, u55, u56, u57, u58, u59, u60, u61, u62, u63, u64, u65, u66, u67, u68, u69, u70, u71, u72, u73, u74, u75, u76, u77, u78, u79, u80, u81, u82, u83, u84, u85, u86, u87, u88, u89, u90, u91, u92, u93, u94, u95, u96, u97, u98, u99, u100, u101, u102, u103, u104, u105, u106, u107, u108, u109, u110, u111, u112, u113, u114, u115, u116, u117, u118, u119, u120, u121, u122, u123, u124, u125, u126, u127, u128, u129, u130, u131, u132, u133, u134, u135, u136, u137, u138, u139, u140, u141, u142, u143, u144, u145, u146, u147, u148, u149, u150, u151, u152, u153, u154, u155, u156, u157, u158, u159, u160, u161, u162, u163, u164, u165, u166, u167, u168, u169, u170, u171, u172, u173, u174, u175, u176, u177, u178, u179, u180, u181, u182, u183, u184, u185, u186, u187, u188, u189, u190, u191, u192, u193, u194, u195, u196, u197, u198, u199, u200, u201, u202, u203, u204, u205, u206, u207, u208, u209, u210, u211, u212, u213, u214], []⟩ wr := by
  have HL := hide hL
  clear hL
  have HK := hide hK
  have HK2 := hide hK2
  have Hm := hide hm
  clear hm hK2
  conv => arg 2; whnf
  conv at hK => enter [a, w', 1, 2]; whnf
  clear HK
  go_wp2_with fail

  obtain ⟨y0, hy0⟩ : ∃ y0, L[i]? = some y0 := ⟨_, List.getElem?_eq_getElem (by rw [HL.out]; exact hi)⟩
  obtain ⟨m, hm0⟩ : ∃ m, y0.alts.length = m := ⟨_, rfl⟩
  have Hy0 := hide hy0
  have Hm0 := hide hm0
  clear hy0 hm0
  go_loopg [12, 13, 14, 15] m (fun g' s12 s13 s14 s15 wx => ∃ (j : Nat) (L' : List LF) (y : LF), j + g' = m ∧ s12 = .int .i64 (j : Int) ∧ MF w4 XF wx S2 DB AB F0 (.slice (some ⟨gI, 0, none⟩) n1 cI) cc D L' ∧ L'[i]? = some y ∧ y.alts.length = m ∧ L'.length = n1)
  case atStart => exact ⟨0, L, y0, by omega, rfl, Hm.out, Hy0.out, Hm0.out, HL.out⟩
  case round =>
    clear Hm Hy0 Hm0 HL
    obtain ⟨j, L', y, hj, rfl, hm, hy, hym, hL'⟩ := hrel
    have hoI := hm.ml.mid.lis.own
    rw [hL'] at hoI
    have hoy := (hm.ml.mid.lis.rows y (List.mem_of_getElem? hy)).1
    have hcI := own_cells (j := i) (cs := [y.v]) hoI hy (fun F c hr => hr.1) 0 _ rfl
    have hcI' : wr.cell? ⟨gI, i, none⟩ = some y.v := by simpa [lfT, Ty.flat] using hcI
    have b7 : wr.cell? ⟨DB, 7, none⟩ = some (.slice (some ⟨gI, 0, none⟩) n1 cI) := cell_heap hm.ml.mid.box (o := 7) rfl
    have lD := heap_lt hm.ml.mid.box
    obtain ⟨_, curI, _, hhI⟩ := ownBlock_heap hoI rfl
    have lI := heap_lt hhI
    rw [hym] at hoy
    obtain ⟨Ay, cy, hvy, hy1, hy2⟩ := hoy.isSlice
    rw [hvy] at hcI'
    unfold maxLen at hy2
    have hi0 : (0 : Int) ≤ (i : Int) := by omega
    have hin : (i : Int) < (n1 : Int) := by omega
    have Hm := hide hm
    have HL' := hide hL'
    have Hy := hide hy
    have Hj := hide hj
    have Hvy := hide hvy
    have Hym := hide hym
    have Hoy := hide hoy
    clear hm hL' hy hj hoI hcI hhI hvy hym hoy
    by_cases hlt : j < m
    case neg =>
      have hge : ¬ (j : Int) < (m : Int) := by omega
      go_wp2_with fail
      exact HK2.out _ _ _ _ _ _ _ _ _ _ _ _ _ _ _ _ _ _ _ _ _ _ _ _ _ _ _ _ _ _ _ _ _ _ _ _ _ _ _ _ _ _ _ _ _ _ _ _ _ _ _ _ _ _ _ _ _ _ _ _ _ _ _ _ _ _ _ _ _ _ _ _ ⟨Hm.out, HL'.out⟩
    case pos =>
    have hjm : (j : Int) < (m : Int) := by omega
    have hj0 : (0 : Int) ≤ (j : Int) := by omega
    have hwj : IntKind.i64.wrap ((j : Int) + 1) = ((j + 1 : Nat) : Int) := by rw [IntKind.wrap_i64]; omega
    have hoy := Hoy.out
    obtain ⟨g, cA, curA, hvA, hgA, hhA, hcA1, hcA2, hbA⟩ := own_block hoy (by omega)
    rw [Hvy.out] at hvA
    injection hvA with hvA1 _ hvA3
    subst hvA1 hvA3
    obtain ⟨p, hp⟩ : ∃ p, y.alts[j]? = some p := ⟨_, List.getElem?_eq_getElem (by rw [Hym.out]; exact hlt)⟩
    have hcs := Hm.out.ml.mid.cells Hy.out hp Hvy.out Hym.out
    have lg := heap_lt hhA
    have c3 : wr.cell? ⟨g, j * 9 + 3, none⟩ = some (.int .u8 p.a.d.cls) := hcs 3 _ rfl
    have f3 := frozen_heap hhA (o := j * 9 + 3)
    have hpok : p.a.d.ok := by
      rw [Hvy.out] at hoy
      obtain ⟨_, cells, _, h3⟩ := hoy
      exact (h3 j p hp).2
    obtain ⟨z0, hz0⟩ : ∃ z, IntKind.u8.wrap (p.a.d.cls + 1) = z := ⟨_, rfl⟩
    have hz08 : u8k z0 := by rw [← hz0]; exact wrap_is8 _
    have Hm1 := hide (Hm.out.field (o := 3) (u := .int .u8 z0) (d' := { p.a.d with cls := z0 }) Hy.out hp hgA (by decide) rfl ⟨hpok.1, hpok.2.1, hpok.2.2.1, hz08, hpok.2.2.2.2⟩)
    have ha : AtP L' i j g m _ n1 y p := ⟨Hy.out, hp, Hvy.out, Hym.out, HL'.out⟩
    have Ha1 := hide (AtP.set (p' := ⟨{ p.a with d := { p.a.d with cls := z0 } }, p.X, p.E⟩) ha)
    clear hcs hoy hgA hhA hp hpok hz08 hbA ha Hm Hy Hvy Hym Hoy HL'
    go_upto_region 31 with fail
    refine byte_loop Hm1.out Ha1.out _ _ _ ?_ ?_
    · assumption
    intro s14 s169 s170 s171 s172 s173 s174 s175 s176 s177 s178 s179 s180 s181 s182 s183 s184 s185 s186 L2 y2 p2 w2 hh
    have Hh := hide hh
    clear hh Hm1 Ha1 c3 f3 lg b7 lD lI hcI'
    refine (show ∀ (a : Act) (w : World), Code.wp Tryd.prog _ _ a w → _ from by assumption) _ _ ?_
    go_upto_region 35 with fail
    refine max_loop Hh.out.1 Hh.out.2 _ _ ?_ ?_
    · assumption
    intro s15 s187 s188 s189 s190 s191 s192 s193 s194 s195 s196 s197 s198 s199 s200 s201 s202 s203 s204 s205 s206 L3 y3 p3 w3 hh
    have Hh3 := hide hh
    clear hh Hh
    go_wp2_with fail
    go_roundg (gk - 1)
    case measure => have := Hj.out; omega
    case rel => exact ⟨j + 1, L3, y3, by have := Hj.out; omega, by first | rfl | go_num, Hh3.out.1, Hh3.out.2.y, Hh3.out.2.len, Hh3.out.2.many⟩
noncomputable def code23f : Code := (Tryd.f7.body.bind (findR 23)).getD .skip
set_option maxRecDepth 1000000 in
set_option maxHeartbeats 16000000 in
theorem alter_loop {u0 u1 u2 u3 u4 u5 u7 u8 u9 u10 u11 u12 u13 u14 u15 u16 u17 u18 u19 u20 u21 u22 u23 u24 u25 u26 u27 u28 u29 u30 u31 u32 u33 u34 u35 u36 u37 u38 u39 u40 u41 u42 u43 u44 u45 u46 u47 u48 u49 u50 u51 u52 u53 u54 u55 u56 u57 u58 u59 u60 u61 u62 u63 u64 u65 u66 u67 u68 u69 u70 u71 u72 u73 u74 u75 u76 u77 u78 u79 u80 u81 u82 u83 u84 u85 u86 u87 u88 u89 u90 u91 u92 u93 u94 u95 u96 u97 u98 u99 u100 u101 u102 u103 u104 u105 u106 u107 u108 u109 u110 u111 u112 u113 u114 u115 u116 u117 u118 u119 u120 u121 u122 u123 u124 u125 u126 u127 u128 u129 u130 u131 u132 u133 u134 u135 u136 u137 u138 u139 u140 u141 u142 u143 u144 u145 u146 u147 u148 u149 u150 u151 u152 u153 u154 u155 u156 u157 u158 u159 u160 u161 u162 u163 u164 u165 u166 u167 u168 u169 u170 u171 u172 u173 u174 u175 u176 u177 u178 u179 u180 u181 u182 u183 u184 u185 u186 u187 u188 u189 u190 u191 u192 u193 u194 u195 u196 u197 u198 u199 u200 u201 u202 u203 u204 u205 u206 u207 u208 u209 u210 u211 u212 u213 u214 : Value} {w4 XF wr : World} {S2 DB AB F0 gI n1 cI : Nat} {cc : Array Value} {D : CfgD} {L : List LF} (hm : MF w4 XF wr S2 DB AB F0 (.slice (some ⟨gI, 0, none⟩) n1 cI) cc D L) (hL : L.length = n1)
    (Q : Exit → Act → World → Prop) (K K2 : Act → World → Prop) (hK : ∀ a w', Code.wp Tryd.prog (restC code23f) (Exit.then K2 Q) a w' → K a w')
    (hK2 : ∀ (s11 s12 s13 s14 s15 s134 s135 s136 s137 s138 s139 s140 s141 s142 s143 s144 s145 s146 s147 s148 s149 s150 s151 s152 s153 s154 s155 s156 s157 s158 s159 s160 s161 s162 s163 s164 s165 s166 s167 s168 s169 s170 s171 s172 s173 s174 s175 s176 s177 s178 s179 s180 s181 s182 s183 s184 s185 s186 s187 s188 s189 s190 s191 s192 s193 s194 s195 s196 s197 s198 s199 s200 s201 s202 s203 s204 s205 s206 : Value) (L' : List LF) (w' : World), (MF w4 XF w' S2 DB AB F0 (.slice (some ⟨gI, 0, none⟩) n1 cI) cc D L' ∧ L'.length = n1) → K2 ⟨#[u0, u1, u2, u3, u4, u5, .pointer (some ⟨DB, 0, none⟩), u7, u8, u9, u10, s11, s12, s13, s14, s15, u16, u17, u18, u19, u20, u21, u22, u23, u24, u25, u26, u27, u28, u29, u30, u31, u32, u33, u34, u35, u36, u37, u38, u39, u40, u41, u42, u43, u44, u45, u46, u47, u48, u49, u50, u51, u52, u53, u54, u55, u56, u57, u58, u59, u60, u61, u62, u63, u64, u65, u66, u67, u68, u69, u70, u71, u72, u73, u74, u75, u76, u77, u78, u79, u80, u81, u82, u83, u84, u85, u86, u87, u88, u89, u90, u91, u92, u93, u94, u95, u96, u97, u98, u99, u100, u101, u102, u103, u104, u105, u106, u107, u108, u109, u110, u111, u112, u113, u114, u115, u116, u117, u118, u119, u120, u121, u122, u123, u124, u125, u126, u127, u128, u129, u130, u131, u132, u133, s134, s135, s136, s137, s138, s139, s140, s141, s142, s143, s144, s145, s146, s147, s148, s149, s150, s151, s152, s153, s154, s155, s156, s157, s158, s159, s160, s161, s162, s163, s164, s165, s166, s167, s168, s169, s170, s171, s172, s173, s174, s175, s176, s177, s178, s179, s180, s181, s182, s183, s184, s185, s186, s187, s188, s189, s190, s191, s192, s193, s194, s195, s196, s197, s198, s199, s200, s201, s202, s203, s204, s205, s206, u207, u208, u209, u210, u211, u212, u213, u214], []⟩ w') :
    Code.wp Tryd.prog (headC code23f) (Exit.then K (Exit.then K2 Q)) ⟨#[u0, u1, u2, u3, u4, u5, .pointer (some ⟨DB, 0, none⟩), u7, u8, u9, u10, u11, u12, u13, u14, u15, u16, u17, u18, u19, u20, u21, u22, u23, u24, u25, u26, u27, u28, u29, u30, u31, u32, u33, u34, u35, u36, u37, u38, u39, u40, u41, u42, u43, u44, u45, u46, u47, u48, u49, u50, u51, u52, u53, u54, u55, u56, u57, u58, u59, u60, u61, u62, u63, u64, u65, u66, u67, u68, u69, u70, u71, u72, u73, u74, u75, u76, u77, u78, u79, u80, u81, u82, u83, u84, u85, u86, u87, u88, u89, u90, u91, u92, u93, u94, u95, u96, u97, u98, u99, u100, u101, u102, u103, u104, u105, u106, u107, u108, u109, u110, u111, u112, u113, u114, u115, u116, u117, u118, u119, u120, u121, u122, u123, u124, u125, u126, u127, u128, u129, u130, u131, u132, u133, u134, u135, u136, u137, u138, u139, u140, u141, u142, u143, u144, u145, u146, u147, u148, u149, u150, u151, u152, u153, u154, u155, u156, u157, u158, u159, u160, u161, u162, u163, u164, u165, u166, u167, u168, u169, u170, u171, u172, u173, u174, u175, u176, u177, u178, u179, u180, u181, u182, u183, u184, u185, u186, u187, u188, u189, u190, u191, u192, u193, u194, u195, u196, u197, u198, u199, u200, u201, u202, u203, u204, u205, u206, u207, u208, u209, u210, u211, u212, u213, u214], []⟩ wr := by
  have HL := hide hL
  clear hL
  have HK := hide hK
  have HK2 := hide hK2
  have Hm := hide hm
  clear hm hK2
  conv => arg 2; whnf
  conv at hK => enter [a, w', 1, 2]; whnf
  clear HK
  go_wp2_with fail

  go_loopg [11, 12, 13, 14, 15] n1 (fun g' s11 s12 s13 s14 s15 wx => ∃ (i : Nat) (L' : List LF), i + g' = n1 ∧ s11 = .int .i64 (i : Int) ∧ MF w4 XF wx S2 DB AB F0 (.slice (some ⟨gI, 0, none⟩) n1 cI) cc D L' ∧ L'.length = n1)
  case atStart => exact ⟨0, L, by omega, rfl, Hm.out, HL.out⟩
  case round =>
    clear Hm HL
    obtain ⟨i, L', hj, rfl, hm, hL'⟩ := hrel
    have b7 : wr.cell? ⟨DB, 7, none⟩ = some (.slice (some ⟨gI, 0, none⟩) n1 cI) := cell_heap hm.ml.mid.box (o := 7) rfl
    have lD := heap_lt hm.ml.mid.box
    have hoI := hm.ml.mid.lis.own
    rw [hL'] at hoI
    obtain ⟨_, cz, hvz, hz1, hz2⟩ := hoI.isSlice
    unfold maxLen at hz2
    clear hoI hvz
    have Hm := hide hm
    have HL' := hide hL'
    have Hj := hide hj
    clear hm hL' hj
    by_cases hlt : i < n1
    case neg =>
      have hge : ¬ (i : Int) < (n1 : Int) := by omega
      go_wp2_with fail
      exact HK2.out _ _ _ _ _ _ _ _ _ _ _ _ _ _ _ _ _ _ _ _ _ _ _ _ _ _ _ _ _ _ _ _ _ _ _ _ _ _ _ _ _ _ _ _ _ _ _ _ _ _ _ _ _ _ _ _ _ _ _ _ _ _ _ _ _ _ _ _ _ _ _ _ _ _ _ _ _ _ _ _ ⟨Hm.out, HL'.out⟩
    case pos =>
    have hin : (i : Int) < (n1 : Int) := by omega
    have hwi : IntKind.i64.wrap ((i : Int) + 1) = ((i + 1 : Nat) : Int) := by rw [IntKind.wrap_i64]; omega
    go_upto_region 26 with fail
    refine alter_in Hm.out HL'.out hlt _ _ ?_ ?_
    · assumption
    clear Hm HL' b7 lD
    intro s12 s13 s14 s15 s141 s142 s143 s144 s145 s146 s147 s148 s149 s150 s151 s152 s153 s154 s155 s156 s157 s158 s159 s160 s161 s162 s163 s164 s165 s166 s167 s168 s169 s170 s171 s172 s173 s174 s175 s176 s177 s178 s179 s180 s181 s182 s183 s184 s185 s186 s187 s188 s189 s190 s191 s192 s193 s194 s195 s196 s197 s198 s199 s200 s201 s202 s203 s204 s205 s206 L2 w2 hh
    have Hh := hide hh
    clear hh
    go_wp2_with fail
    go_roundg (gk - 1)
    case measure => have := Hj.out; omega
    case rel => exact ⟨i + 1, L2, by have := Hj.out; omega, by first | rfl | go_num, Hh.out.1, Hh.out.2⟩
end Go.Proofs.YtjgncofhobhjdaaDoor
