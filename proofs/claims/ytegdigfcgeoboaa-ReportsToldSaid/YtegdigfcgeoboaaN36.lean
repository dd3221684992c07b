/- The map of plain data: its beginning. -/
import Derived.Test.YtegdigfcgeoboaaChecked
import Derived.Deep.RegionHeld3
import Derived.Deep.DrawnRows
import Derived.Deep.DeepCutAuto
import Derived.Deep.LoopGhost
import Derived.Outline
import Derived.Handy
import Derived.OwnWalk
import Derived.BigQuiet
import Derived.Deep.DeepMust
import Derived.Test.YtegdigfcgeoboaaXdK
set_option linter.unusedVariables false
set_option linter.unusedSimpArgs false
set_option linter.unusedSectionVars false
/- The law's map of plain data: the parent of the field. Printed by gen_xm.py. -/
namespace Go.Proofs.Ytegdigfcgeoboaa
open Go.RowKit Go.Maps
attribute [local go_sem ↓] Go.wp_at_zero Go.wp_at_succ

noncomputable def code10d : Code := (Try.f19.body.bind (findQ 10)).getD .skip
set_option maxRecDepth 1000000 in
set_option maxHeartbeats 16000000 in
theorem q10 {u0 u7 u8 u9 u10 u11 u12 u13 u14 u15 u16 u17 u18 u19 u20 u21 u22 u23 u24 u25 u26 u27 u28 u29 u30 u31 u32 u33 u34 u35 u36 u37 u38 u39 u40 u41 u42 u43 u44 u45 u46 u47 u48 u49 u50 u51 u52 u53 u54 u55 u56 u57 u58 u59 u60 u61 u62 u63 u64 u65 u66 u67 u68 u69 u70 u71 u72 u73 u74 u75 u76 u77 u78 u79 u80 u81 u82 u83 u84 u85 u86 u87 u88 u89 u90 u91 u92 u93 u94 u95 u96 u97 u98 u99 u100 u101 u102 u103 u104 u105 u106 u107 u108 u109 u110 u111 u112 u113 u114 u115 u116 u117 u118 u119 u120 u121 u122 u123 u124 u125 u126 u127 u128 u129 u130 u131 u132 u133 u134 u135 u136 u137 u138 u139 u140 u141 u142 : Value} {w W : World} {DB RB MB FB ba oa n cap i : Nat} {nb nm : Bool} {vo vf vc : Value} {ol olf : List Int} {fl flf : List Fd} {cl clf : List Co} {f : PF} {dd c : Nat} {p : Int} {U : Option Addr} {g : Fd} (hM : MD w W DB RB MB FB nb nm (some ⟨ba, oa, none⟩) n cap vo vf vc ol fl clf) (hF : FX w W FB U c g) (h7 : w.cell? ⟨ba, oa + i * 8 + 7, none⟩ = some (.int .u8 f.flags)) (hba : ba < w.heap.size) (hin : (i : Int) < (n : Int)) (hfl : u8k f.flags) (hdd : ol.length = dd) (hd5 : dd ≤ 6) (hd1 : 1 ≤ dd) (hp : ol[dd - 1]? = some p) (hfl20 : fl.length ≤ 20) (he : (if endsB f dd then ol.take (dd - 1) else ol) = olf) (hsm : ∀ f ∈ fl, 0 ≤ f.size * f.count ∧ f.size * f.count ≤ 108) (hg0 : g.pos = 0) (hef : fl ++ [{ g with parent := p, pos := bitsS fl g.kind g.report }] = flf)
    (Q : Exit → Act → World → Prop) (K : Act → World → Prop) (hK : ∀ a w', Code.wp Try.prog (restC code10d) Q a w' → K a w') (hQ : ∀ (s7 s26 s27 s28 s29 s30 s31 s32 s33 s34 s35 s36 s37 s38 s39 s40 s41 s42 s43 s44 s45 s46 s47 s48 s49 s50 s51 s52 s53 s54 s55 s56 s57 s58 s59 s60 s61 s62 s63 s64 s65 s66 s67 s68 s69 s70 s71 s72 s73 s74 s75 s76 s77 s78 s79 s80 s81 s82 s83 s84 s85 s86 s87 s88 s89 s90 s91 s92 s93 s94 s95 s96 s97 s98 s99 s100 s101 s102 s103 s104 s105 s106 s107 s108 s109 s110 s111 s112 s113 s114 s115 s116 s117 s118 s119 s120 s121 s122 s123 s124 s125 s126 s127 s128 s129 s130 s131 s132 s133 s134 s135 s136 s137 s138 s139 s140 s141 : Value) (v' vf' vc' : Value) (w' : World), MD w w' DB RB MB FB nb nb (some ⟨ba, oa, none⟩) n cap v' vf' vc' olf flf clf → Q .normal ⟨#[u0, .pointer (some ⟨DB, 0, none⟩), .pointer (some ⟨RB, 0, none⟩), .pointer (some ⟨MB, 0, none⟩), v', .int .i64 (i : Int), .pointer (some ⟨FB, 0, none⟩), s7, u8, u9, u10, u11, u12, u13, u14, u15, u16, u17, u18, u19, u20, u21, u22, u23, u24, u25, s26, s27, s28, s29, s30, s31, s32, s33, s34, s35, s36, s37, s38, s39, s40, s41, s42, s43, s44, s45, s46, s47, s48, s49, s50, s51, s52, s53, s54, s55, s56, s57, s58, s59, s60, s61, s62, s63, s64, s65, s66, s67, s68, s69, s70, s71, s72, s73, s74, s75, s76, s77, s78, s79, s80, s81, s82, s83, s84, s85, s86, s87, s88, s89, s90, s91, s92, s93, s94, s95, s96, s97, s98, s99, s100, s101, s102, s103, s104, s105, s106, s107, s108, s109, s110, s111, s112, s113, s114, s115, s116, s117, s118, s119, s120, s121, s122, s123, s124, s125, s126, s127, s128, s129, s130, s131, s132, s133, s134, s135, s136, s137, s138, s139, s140, s141, u142], []⟩ w') :
    Code.wp Try.prog (headC code10d) (Exit.then K Q) ⟨#[u0, .pointer (some ⟨DB, 0, none⟩), .pointer (some ⟨RB, 0, none⟩), .pointer (some ⟨MB, 0, none⟩), vo, .int .i64 (i : Int), .pointer (some ⟨FB, 0, none⟩), u7, u8, u9, u10, u11, u12, u13, u14, u15, u16, u17, u18, u19, u20, u21, u22, u23, u24, u25, u26, u27, u28, u29, u30, u31, u32, u33, u34, u35, u36, u37, u38, u39, u40, u41, u42, u43, u44, u45, u46, u47, u48, u49, u50, u51, u52, u53, u54, u55, u56, u57, u58, u59, u60, u61, u62, u63, u64, u65, u66, u67, u68, u69, u70, u71, u72, u73, u74, u75, u76, u77, u78, u79, u80, u81, u82, u83, u84, u85, u86, u87, u88, u89, u90, u91, u92, u93, u94, u95, u96, u97, u98, u99, u100, u101, u102, u103, u104, u105, u106, u107, u108, u109, u110, u111, u112, u113, u114, u115, u116, u117, u118, u119, u120, u121, u122, u123, u124, u125, u126, u127, u128, u129, u130, u131, u132, u133, u134, u135, u136, u137, u138, u139, u140, u141, u142], []⟩ W := by
  obtain ⟨k, rfl⟩ : ∃ k, dd = k + 1 := ⟨dd - 1, by omega⟩
  have hop := hM.op
  rw [hdd] at hop
  obtain ⟨gg, co, ccur, rfl, hgh, hc1, hc2⟩ := own_block34 hop (by omega)
  have e := own_cells34 (j := k) (cs := [.int .i64 p]) hop (by simpa using hp) (fun F c hr => hr.1) 0 _ rfl
  have e' : W.cell? ⟨gg, k, none⟩ = some (.int .i64 p) := by simpa [i64D, Ty.flat] using e
  have lg := heap_lt hgh
  have y2 : W.cell? ⟨FB, 2, none⟩ = some (.int .i64 g.parent) := cell_heap hF.box (o := 2) rfl
  have fy2 := frozen_heap hF.box (o := 2)
  have lF := heap_lt hF.box
  have hw1 : IntKind.i64.wrap (((k + 1 : Nat) : Int) - 1) = (k : Int) := by rw [IntKind.wrap_i64]; omega
  have hw2 : IntKind.i64.wrap ((k : Int) + 1 - 1) = (k : Int) := by rw [IntKind.wrap_i64]; omega
  have hw0 : IntKind.i64.wrap (k : Int) = (k : Int) := by rw [IntKind.wrap_i64]; omega
  have hk0 : (0 : Int) ≤ (k : Int) := by omega
  have hk1 : (k : Int) < ((k + 1 : Nat) : Int) := by omega
  have hk2 : (k : Int) < (k : Int) + 1 := by omega
  have hk3 : k < k + 1 := by omega
  have HM := hide (hM.box hF 2 (.int .i64 p))
  have HF := hide (hF.set 2 (.int .i64 p) (g' := { g with parent := p }) rfl rfl)
  have HQ := hide hQ
  have He := hide he
  have Hef := hide hef
  have Hdd := hide hdd
  have Hsm := hide hsm
  clear hM hF hQ he hef hdd hsm hop e hgh hp
  conv => arg 2; whnf
  conv at hK => enter [a, w', 1, 2]; whnf
  go_upto_region 11 with fail
  refine q11 (cl := clf) HM.out HF.out h7 hba hin hfl Hdd.out hd5 hfl20 He.out Hsm.out hg0 Hef.out _ _ _ ?_ ?_ HQ.out <;> assumption
end Go.Proofs.Ytegdigfcgeoboaa
/- The law's map of plain data: the beginning of a collection. Printed by gen_xm.py. -/
namespace Go.Proofs.Ytegdigfcgeoboaa
open Go.RowKit Go.Maps
attribute [local go_sem ↓] Go.wp_at_zero Go.wp_at_succ

noncomputable def ops8d : Array Oper := opsOf (headC ((Try.f19.body.bind (findQ 8)).getD .skip))
theorem info3 : (Try.prog.info? 3).map (fun i => (i.zero, i.size, i.bytes)) = some (some (.int .i64 0), 1, 8) := by kernel_rfl
noncomputable def code7d : Code := (Try.f19.body.bind (findQ 7)).getD .skip
noncomputable def after7d : Code := (Try.f19.body.bind (afterQ 7)).getD .skip
set_option maxRecDepth 1000000 in
set_option maxHeartbeats 16000000 in
theorem q7 {u0 u7 u8 u9 u10 u11 u12 u13 u14 u15 u16 u17 u18 u19 u20 u21 u22 u23 u24 u25 u26 u27 u28 u29 u30 u31 u32 u33 u34 u35 u36 u37 u38 u39 u40 u41 u42 u43 u44 u45 u46 u47 u48 u49 u50 u51 u52 u53 u54 u55 u56 u57 u58 u59 u60 u61 u62 u63 u64 u65 u66 u67 u68 u69 u70 u71 u72 u73 u74 u75 u76 u77 u78 u79 u80 u81 u82 u83 u84 u85 u86 u87 u88 u89 u90 u91 u92 u93 u94 u95 u96 u97 u98 u99 u100 u101 u102 u103 u104 u105 u106 u107 u108 u109 u110 u111 u112 u113 u114 u115 u116 u117 u118 u119 u120 u121 u122 u123 u124 u125 u126 u127 u128 u129 u130 u131 u132 u133 u134 u135 u136 u137 u138 u139 u140 u141 u142 : Value} {w W : World} {DB RB MB FB ba oa n cap i : Nat} {nb nm : Bool} {vo vf vc : Value} {ol olf : List Int} {fl flf : List Fd} {cl clf : List Co} {f : PF} {dd c cn : Nat} {p : Int} {U : Option Addr} {g : Fd} (hM : MD w W DB RB MB FB nb nm (some ⟨ba, oa, none⟩) n cap vo vf vc ol fl cl) (hF : FX w W FB U c g) (h7 : w.cell? ⟨ba, oa + i * 8 + 7, none⟩ = some (.int .u8 f.flags)) (hba : ba < w.heap.size) (hin : (i : Int) < (n : Int)) (hfl : u8k f.flags) (hi20 : i < 20) (hdd : ol.length = dd) (hd5 : dd ≤ 5) (hd1 : 1 ≤ dd) (hp : ol[dd - 1]? = some p) (hfl20 : fl.length ≤ 20) (hcn : cl.length = cn) (hcl20 : cn ≤ 21) (he : (if endsB f (d1 f dd) then (if beginsB f dd then ol ++ [(cn : Int)] else ol).take (d1 f dd - 1) else (if beginsB f dd then ol ++ [(cn : Int)] else ol)) = olf) (hec : (if beginsB f dd then cl ++ [⟨((i % 4 : Nat) : Int), 458752 + (i : Int), p⟩] else cl) = clf) (hsm : ∀ f ∈ fl, 0 ≤ f.size * f.count ∧ f.size * f.count ≤ 108) (hg0 : g.pos = 0) (hef : fl ++ [{ g with parent := if beginsB f dd then (cn : Int) else p, pos := bitsS fl g.kind g.report }] = flf)
    (Q : Exit → Act → World → Prop) (K K2 : Act → World → Prop) (hK : ∀ a w', Code.wp Try.prog (restC code7d) (Exit.then K2 Q) a w' → K a w') (hK2 : ∀ a w', Code.wp Try.prog after7d Q a w' → K2 a w') (hQ : ∀ (s7 s26 s27 s28 s29 s30 s31 s32 s33 s34 s35 s36 s37 s38 s39 s40 s41 s42 s43 s44 s45 s46 s47 s48 s49 s50 s51 s52 s53 s54 s55 s56 s57 s58 s59 s60 s61 s62 s63 s64 s65 s66 s67 s68 s69 s70 s71 s72 s73 s74 s75 s76 s77 s78 s79 s80 s81 s82 s83 s84 s85 s86 s87 s88 s89 s90 s91 s92 s93 s94 s95 s96 s97 s98 s99 s100 s101 s102 s103 s104 s105 s106 s107 s108 s109 s110 s111 s112 s113 s114 s115 s116 s117 s118 s119 s120 s121 s122 s123 s124 s125 s126 s127 s128 s129 s130 s131 s132 s133 s134 s135 s136 s137 s138 s139 s140 s141 : Value) (v' vf' vc' : Value) (w' : World), MD w w' DB RB MB FB nb nb (some ⟨ba, oa, none⟩) n cap v' vf' vc' olf flf clf → Q .normal ⟨#[u0, .pointer (some ⟨DB, 0, none⟩), .pointer (some ⟨RB, 0, none⟩), .pointer (some ⟨MB, 0, none⟩), v', .int .i64 (i : Int), .pointer (some ⟨FB, 0, none⟩), s7, u8, u9, u10, u11, u12, u13, u14, u15, u16, u17, u18, u19, u20, u21, u22, u23, u24, u25, s26, s27, s28, s29, s30, s31, s32, s33, s34, s35, s36, s37, s38, s39, s40, s41, s42, s43, s44, s45, s46, s47, s48, s49, s50, s51, s52, s53, s54, s55, s56, s57, s58, s59, s60, s61, s62, s63, s64, s65, s66, s67, s68, s69, s70, s71, s72, s73, s74, s75, s76, s77, s78, s79, s80, s81, s82, s83, s84, s85, s86, s87, s88, s89, s90, s91, s92, s93, s94, s95, s96, s97, s98, s99, s100, s101, s102, s103, s104, s105, s106, s107, s108, s109, s110, s111, s112, s113, s114, s115, s116, s117, s118, s119, s120, s121, s122, s123, s124, s125, s126, s127, s128, s129, s130, s131, s132, s133, s134, s135, s136, s137, s138, s139, s140, s141, u142], []⟩ w') :
    Code.wp Try.prog (headC code7d) (Exit.then K (Exit.then K2 Q)) ⟨#[u0, .pointer (some ⟨DB, 0, none⟩), .pointer (some ⟨RB, 0, none⟩), .pointer (some ⟨MB, 0, none⟩), vo, .int .i64 (i : Int), .pointer (some ⟨FB, 0, none⟩), u7, u8, u9, u10, u11, u12, u13, u14, u15, u16, u17, u18, u19, u20, u21, u22, u23, u24, u25, u26, u27, u28, u29, u30, u31, u32, u33, u34, u35, u36, u37, u38, u39, u40, u41, u42, u43, u44, u45, u46, u47, u48, u49, u50, u51, u52, u53, u54, u55, u56, u57, u58, u59, u60, u61, u62, u63, u64, u65, u66, u67, u68, u69, u70, u71, u72, u73, u74, u75, u76, u77, u78, u79, u80, u81, u82, u83, u84, u85, u86, u87, u88, u89, u90, u91, u92, u93, u94, u95, u96, u97, u98, u99, u100, u101, u102, u103, u104, u105, u106, u107, u108, u109, u110, u111, u112, u113, u114, u115, u116, u117, u118, u119, u120, u121, u122, u123, u124, u125, u126, u127, u128, u129, u130, u131, u132, u133, u134, u135, u136, u137, u138, u139, u140, u141, u142], []⟩ W := by
  obtain ⟨k, rfl⟩ : ∃ k, dd = k + 1 := ⟨dd - 1, by omega⟩
  have hop := hM.op
  rw [hdd] at hop
  obtain ⟨gg, co, ccur, rfl, hgh, hc1, hc2⟩ := own_block34 hop (by omega)
  have e := own_cells34 (j := k) (cs := [.int .i64 p]) hop (by simpa using hp) (fun F c hr => hr.1) 0 _ rfl
  have e' : W.cell? ⟨gg, k, none⟩ = some (.int .i64 p) := by simpa [i64D, Ty.flat] using e
  have lg := heap_lt hgh
  have d1' : W.cell? ⟨DB, 1, none⟩ = some (.slice (some ⟨ba, oa, none⟩) n cap) := cell_heap hM.bd (o := 1) rfl
  have lD := heap_lt hM.bd
  have h7W := (hM.kept.cell (p := ⟨ba, oa + i * 8 + 7, none⟩) hba).trans h7
  have hbaW := Nat.lt_of_lt_of_le hba hM.kept.size
  have hi0 : (0 : Int) ≤ (i : Int) := by omega
  have m1 : W.cell? ⟨MB, 1, none⟩ = some vc := cell_heap hM.bm (o := 1) rfl
  have lM := heap_lt hM.bm
  have hw1 : IntKind.i64.wrap (((k + 1 : Nat) : Int) - 1) = (k : Int) := by rw [IntKind.wrap_i64]; omega
  have hw2 : IntKind.i64.wrap ((k : Int) + 1 - 1) = (k : Int) := by rw [IntKind.wrap_i64]; omega
  have hw0 : IntKind.i64.wrap (k : Int) = (k : Int) := by rw [IntKind.wrap_i64]; omega
  have hk0 : (0 : Int) ≤ (k : Int) := by omega
  have hk1 : (k : Int) < ((k + 1 : Nat) : Int) := by omega
  have hk2 : (k : Int) < (k : Int) + 1 := by omega
  have hk3 : k < k + 1 := by omega
  obtain ⟨i4, hi4⟩ : ∃ z : Nat, i % 4 = z := ⟨_, rfl⟩
  have hmi : (i : Int).tmod 4 = (i4 : Int) := by rw [Int.tmod_eq_emod_of_nonneg (by omega)]; omega
  have hw4 : IntKind.u8.wrap (i4 : Int) = (i4 : Int) := wrap8 (by omega) (by omega)
  have hwi : IntKind.u32.wrap (i : Int) = (i : Int) := by rw [IntKind.wrap_u32]; omega
  have hor : bits .or .u32 458752 (i : Int) = 458752 + (i : Int) := bitsor ⟨by omega, by omega⟩
  have hwc : IntKind.i64.wrap (((cn + 1 : Nat) : Int) - 1) = (cn : Int) := by rw [IntKind.wrap_i64]; omega
  have hwc2 : IntKind.i64.wrap ((cn : Int) + 1 - 1) = (cn : Int) := by rw [IntKind.wrap_i64]; omega
  obtain ⟨c1, hc1'⟩ : ∃ c, (f.flags / 8 % 2 == 1) = c := ⟨_, rfl⟩
  obtain ⟨c2, hc2'⟩ : ∃ c, decide (k + 1 < 5) = c := ⟨_, rfl⟩
  have n1 : (bits .and .u8 f.flags 8 != 0) = c1 := by rw [bits8 hfl, ← hc1']; rcases (show f.flags / 8 % 2 = 0 ∨ f.flags / 8 % 2 = 1 by omega) with e | e <;> rw [e] <;> rfl
  have n1' : (bits .and .u8 f.flags 8 == 0) = !c1 := by rw [← n1]; simp [bne]
  have n2 : decide (((k + 1 : Nat) : Int) < 5) = c2 := by rw [← hc2']; congr 1; exact propext (by omega)
  have n2' : decide ((k : Int) + 1 < 5) = c2 := by rw [← hc2']; congr 1; exact propext (by omega)
  have hbb : beginsB f (k + 1) = (c1 && c2) := by unfold beginsB; rw [hc1', hc2']
  have HM := hide hM
  have HF := hide hF
  have HQ := hide hQ
  have He := hide he
  have Hec := hide hec
  have Hef := hide hef
  have Hdd := hide hdd
  have Hcn := hide hcn
  have Hsm := hide hsm
  have Hi4 := hide hi4
  have Hgh := hide hgh
  have Hp := hide hp
  clear hM hF hQ he hec hef hdd hcn hsm hop e hgh hp hi4 hc1' hc2'
  conv => arg 2; whnf
  conv at hK => enter [a, w', 1, 2]; whnf
  conv at hK2 => enter [a, w', 1, 2]; whnf
  by_cases hb : beginsB f (k + 1) = true
  case neg =>
    rw [Bool.not_eq_true] at hb
    have hd9 : d1 f (k + 1) = k + 1 := by unfold d1; rw [hb]; rfl
    have he2 := He.out
    have hec2 := Hec.out
    have hef2 := Hef.out
    simp only [hd9, hb, Bool.false_eq_true, if_false] at he2 hec2 hef2
    have He2 := hide he2
    have Hec2 := hide hec2
    have Hef2 := hide hef2
    rw [hb] at hbb
    clear he2 hec2 hef2 He Hec Hef hd9 hb m1 lM
    cases c1 with
    | false =>
      clear hbb
      go_upto_region 10 with fail
      have hMc := HM.out
      rw [Hec2.out] at hMc
      refine q10 (cl := clf) hMc HF.out h7 hba hin hfl Hdd.out (by omega) (by omega) Hp.out hfl20 He2.out Hsm.out hg0 Hef2.out _ _ ?_ HQ.out <;> assumption
    | true =>
      have hc0 : c2 = false := hbb.symm
      subst hc0
      clear hbb
      have n3 : ¬ ((k + 1 : Nat) : Int) < 5 := of_decide_eq_false n2
      have n3' : ¬ (k : Int) + 1 < 5 := of_decide_eq_false n2'
      go_upto_region 10 with fail
      have hMc := HM.out
      rw [Hec2.out] at hMc
      refine q10 (cl := clf) hMc HF.out h7 hba hin hfl Hdd.out (by omega) (by omega) Hp.out hfl20 He2.out Hsm.out hg0 Hef2.out _ _ ?_ HQ.out <;> assumption
  case pos =>
    rw [hb] at hbb
    obtain ⟨rfl, rfl⟩ : c1 = true ∧ c2 = true := by simpa using hbb.symm
    have n3 : ((k + 1 : Nat) : Int) < 5 := of_decide_eq_true n2
    have n3' : (k : Int) + 1 < 5 := of_decide_eq_true n2'
    clear hbb
    go_upto_region 8 with fail
    refine wp_region_noPanic ?_
    refine wp_region_held_named (ops' := ops8d) (n := 19) (S := fun w' => (∀ o, w'.cell? ⟨gg, o, none⟩ = W.cell? ⟨gg, o, none⟩) ∧ True) (by kernel_rfl) (by kernel_rfl) (by kernel_rfl) ⟨fun _ => rfl, trivial⟩ (fun hS => ?_)
    have ho : ops8d[0]? = some (opAt ops8d 0) := by kernel_rfl
    conv at ho => rhs; arg 1; whnf
    refine wpAnyH_take (i := 0) (v := ?_) ho (by kernel_rfl) (by kernel_rfl) (by kernel_rfl) (fun _ _ _ h => h) (Or.inl ⟨by kernel_rfl, ?_⟩) hS ?_
    clear ho
    rotate_left
    · intro w' hS'
      have hq := hS'.1
      have hq2 := hS'.2
      clear hS'
      first | (go_simp; done) | (go_simp; with_reducible rfl)
    try clear ho
    try simp only [Act.put, List.getElem_toArray, List.getElem_cons_zero, List.getElem_cons_succ, List.setIfInBounds_toArray, List.set_cons_zero, List.set_cons_succ]
    have ho : ops8d[2]? = some (opAt ops8d 2) := by kernel_rfl
    conv at ho => rhs; arg 1; whnf
    refine wpAnyH_take (i := 2) (v := ?_) ho (by kernel_rfl) (by kernel_rfl) (by kernel_rfl) (fun _ _ _ h => h) (Or.inl ⟨by kernel_rfl, ?_⟩) hS ?_
    clear ho
    rotate_left
    · intro w' hS'
      have hq := hS'.1
      have hq2 := hS'.2
      clear hS'
      first | (go_simp; done) | (go_simp; with_reducible rfl)
    try clear ho
    try simp only [Act.put, List.getElem_toArray, List.getElem_cons_zero, List.getElem_cons_succ, List.setIfInBounds_toArray, List.set_cons_zero, List.set_cons_succ]
    have ho : ops8d[3]? = some (opAt ops8d 3) := by kernel_rfl
    conv at ho => rhs; arg 1; whnf
    refine wpAnyH_take (i := 3) (v := ?_) ho (by kernel_rfl) (by kernel_rfl) (by kernel_rfl) (fun _ _ _ h => h) (Or.inl ⟨by kernel_rfl, ?_⟩) hS ?_
    clear ho
    rotate_left
    · intro w' hS'
      have hq := hS'.1
      have hq2 := hS'.2
      clear hS'
      first | (go_simp; done) | (go_simp; with_reducible rfl)
    try clear ho
    try simp only [Act.put, List.getElem_toArray, List.getElem_cons_zero, List.getElem_cons_succ, List.setIfInBounds_toArray, List.set_cons_zero, List.set_cons_succ]
    have ho : ops8d[4]? = some (opAt ops8d 4) := by kernel_rfl
    conv at ho => rhs; arg 1; whnf
    refine wpAnyH_take (i := 4) (v := ?_) ho (by kernel_rfl) (by kernel_rfl) (by kernel_rfl) (fun _ _ _ h => h) (Or.inl ⟨by kernel_rfl, ?_⟩) hS ?_
    clear ho
    rotate_left
    · intro w' hS'
      have hq := hS'.1
      have hq2 := hS'.2
      clear hS'
      first | (go_simp; done) | (go_simp; with_reducible rfl)
    try clear ho
    try simp only [Act.put, List.getElem_toArray, List.getElem_cons_zero, List.getElem_cons_succ, List.setIfInBounds_toArray, List.set_cons_zero, List.set_cons_succ]
    have ho : ops8d[5]? = some (opAt ops8d 5) := by kernel_rfl
    conv at ho => rhs; arg 1; whnf
    refine wpAnyH_take (i := 5) (v := ?_) ho (by kernel_rfl) (by kernel_rfl) (by kernel_rfl) (fun _ _ _ h => h) (Or.inl ⟨by kernel_rfl, ?_⟩) hS ?_
    clear ho
    rotate_left
    · intro w' hS'
      have hq := hS'.1
      have hq2 := hS'.2
      clear hS'
      first | (go_simp; done) | (go_simp; with_reducible rfl)
    try clear ho
    try simp only [Act.put, List.getElem_toArray, List.getElem_cons_zero, List.getElem_cons_succ, List.setIfInBounds_toArray, List.set_cons_zero, List.set_cons_succ]
    have ho : ops8d[6]? = some (opAt ops8d 6) := by kernel_rfl
    conv at ho => rhs; arg 1; whnf
    refine wpAnyH_take (i := 6) (v := ?_) ho (by kernel_rfl) (by kernel_rfl) (by kernel_rfl) (fun _ _ _ h => h) (Or.inl ⟨by kernel_rfl, ?_⟩) hS ?_
    clear ho
    rotate_left
    · intro w' hS'
      have hq := hS'.1
      have hq2 := hS'.2
      clear hS'
      first | (go_simp; done) | (go_simp; with_reducible rfl)
    try clear ho
    try simp only [Act.put, List.getElem_toArray, List.getElem_cons_zero, List.getElem_cons_succ, List.setIfInBounds_toArray, List.set_cons_zero, List.set_cons_succ]
    have ho : ops8d[7]? = some (opAt ops8d 7) := by kernel_rfl
    conv at ho => rhs; arg 1; whnf
    refine wpAnyH_take (i := 7) (v := ?_) ho (by kernel_rfl) (by kernel_rfl) (by kernel_rfl) (fun _ _ _ h => h) (Or.inl ⟨by kernel_rfl, ?_⟩) hS ?_
    clear ho
    rotate_left
    · intro w' hS'
      have hq := hS'.1
      have hq2 := hS'.2
      clear hS'
      first | (go_simp; done) | (go_simp; with_reducible rfl)
    try clear ho
    try simp only [Act.put, List.getElem_toArray, List.getElem_cons_zero, List.getElem_cons_succ, List.setIfInBounds_toArray, List.set_cons_zero, List.set_cons_succ]
    have ho : ops8d[8]? = some (opAt ops8d 8) := by kernel_rfl
    conv at ho => rhs; arg 1; whnf
    refine wpAnyH_take (i := 8) (v := ?_) ho (by kernel_rfl) (by kernel_rfl) (by kernel_rfl) (fun _ _ _ h => h) (Or.inl ⟨by kernel_rfl, ?_⟩) hS ?_
    clear ho
    rotate_left
    · intro w' hS'
      have hq := hS'.1
      have hq2 := hS'.2
      clear hS'
      first | (go_simp; done) | (go_simp; with_reducible rfl)
    try clear ho
    try simp only [Act.put, List.getElem_toArray, List.getElem_cons_zero, List.getElem_cons_succ, List.setIfInBounds_toArray, List.set_cons_zero, List.set_cons_succ]
    have ho : ops8d[9]? = some (opAt ops8d 9) := by kernel_rfl
    conv at ho => rhs; arg 1; whnf
    refine wpAnyH_take (i := 9) (v := ?_) ho (by kernel_rfl) (by kernel_rfl) (by kernel_rfl) (fun _ _ _ h => h) (Or.inl ⟨by kernel_rfl, ?_⟩) hS ?_
    clear ho
    rotate_left
    · intro w' hS'
      have hq := hS'.1
      have hq2 := hS'.2
      clear hS'
      first | (go_simp; done) | (go_simp; with_reducible rfl)
    try clear ho
    try simp only [Act.put, List.getElem_toArray, List.getElem_cons_zero, List.getElem_cons_succ, List.setIfInBounds_toArray, List.set_cons_zero, List.set_cons_succ]
    have ho : ops8d[10]? = some (opAt ops8d 10) := by kernel_rfl
    conv at ho => rhs; arg 1; whnf
    refine wpAnyH_take (i := 10) (v := ?_) ho (by kernel_rfl) (by kernel_rfl) (by kernel_rfl) (fun _ _ _ h => h) (Or.inl ⟨by kernel_rfl, ?_⟩) hS ?_
    clear ho
    rotate_left
    · intro w' hS'
      have hq := hS'.1
      have hq2 := hS'.2
      clear hS'
      first | (go_simp; done) | (go_simp; with_reducible rfl)
    try clear ho
    try simp only [Act.put, List.getElem_toArray, List.getElem_cons_zero, List.getElem_cons_succ, List.setIfInBounds_toArray, List.set_cons_zero, List.set_cons_succ]
    have ho : ops8d[11]? = some (opAt ops8d 11) := by kernel_rfl
    conv at ho => rhs; arg 1; whnf
    refine wpAnyH_take (i := 11) (v := ?_) ho (by kernel_rfl) (by kernel_rfl) (by kernel_rfl) (fun _ _ _ h => h) (Or.inl ⟨by kernel_rfl, ?_⟩) hS ?_
    clear ho
    rotate_left
    · intro w' hS'
      have hq := hS'.1
      have hq2 := hS'.2
      clear hS'
      first | (go_simp; done) | (go_simp; with_reducible rfl)
    try clear ho
    try simp only [Act.put, List.getElem_toArray, List.getElem_cons_zero, List.getElem_cons_succ, List.setIfInBounds_toArray, List.set_cons_zero, List.set_cons_succ]
    have ho : ops8d[12]? = some (opAt ops8d 12) := by kernel_rfl
    conv at ho => rhs; arg 1; whnf
    refine wpAnyH_take (i := 12) (v := ?_) ho (by kernel_rfl) (by kernel_rfl) (by kernel_rfl) (fun _ _ _ h => h) (Or.inl ⟨by kernel_rfl, ?_⟩) hS ?_
    clear ho
    rotate_left
    · intro w' hS'
      have hq := hS'.1
      have hq2 := hS'.2
      clear hS'
      first | (go_simp; done) | (go_simp; with_reducible rfl)
    try clear ho
    try simp only [Act.put, List.getElem_toArray, List.getElem_cons_zero, List.getElem_cons_succ, List.setIfInBounds_toArray, List.set_cons_zero, List.set_cons_succ]
    have ho : ops8d[13]? = some (opAt ops8d 13) := by kernel_rfl
    conv at ho => rhs; arg 1; whnf
    refine wpAnyH_take (i := 13) (v := ?_) ho (by kernel_rfl) (by kernel_rfl) (by kernel_rfl) (fun _ _ _ h => h) (Or.inl ⟨by kernel_rfl, ?_⟩) hS ?_
    clear ho
    rotate_left
    · intro w' hS'
      have hq := hS'.1
      have hq2 := hS'.2
      clear hS'
      first | (go_simp; done) | (go_simp; with_reducible rfl)
    try clear ho
    try simp only [Act.put, List.getElem_toArray, List.getElem_cons_zero, List.getElem_cons_succ, List.setIfInBounds_toArray, List.set_cons_zero, List.set_cons_succ]
    have ho : ops8d[14]? = some (opAt ops8d 14) := by kernel_rfl
    conv at ho => rhs; arg 1; whnf
    refine wpAnyH_take (i := 14) (v := ?_) ho (by kernel_rfl) (by kernel_rfl) (by kernel_rfl) (fun _ _ _ h => h) (Or.inl ⟨by kernel_rfl, ?_⟩) hS ?_
    clear ho
    rotate_left
    · intro w' hS'
      have hq := hS'.1
      have hq2 := hS'.2
      clear hS'
      first | (go_simp; done) | (go_simp; with_reducible rfl)
    try clear ho
    try simp only [Act.put, List.getElem_toArray, List.getElem_cons_zero, List.getElem_cons_succ, List.setIfInBounds_toArray, List.set_cons_zero, List.set_cons_succ]
    have ho1 : ops8d[1]? = some (opAt ops8d 1) := by kernel_rfl
    conv at ho1 => rhs; arg 1; whnf
    have ho15 : ops8d[15]? = some (opAt ops8d 15) := by kernel_rfl
    conv at ho15 => rhs; arg 1; whnf
    refine wpAnyH_ready (rs := [1, 15]) (by kernel_rfl) (by simp) ?_
    refine (AllReadyH.cons ho1 (fun K hK => ?_) (AllReadyH.cons ho15 (fun K hK => ?_) AllReadyH.nil))
    all_goals clear ho1 ho15
    · go_simp
      try dsimp only
      refine hK.out _ _ ?_ (fun hS => ?_)
      · exact hS
      clear hK K
      try simp only [Act.put, List.getElem_toArray, List.getElem_cons_zero, List.getElem_cons_succ, List.setIfInBounds_toArray, List.set_cons_zero, List.set_cons_succ]
      have ho15 : ops8d[15]? = some (opAt ops8d 15) := by kernel_rfl
      conv at ho15 => rhs; arg 1; whnf
      refine wpAnyH_ready (rs := [15]) (by kernel_rfl) (by simp) ?_
      refine (AllReadyH.cons ho15 (fun K hK => ?_) AllReadyH.nil)
      all_goals clear ho15
      go_simp
      try dsimp only
      refine hK.out _ _ ?_ (fun hS => ?_)
      · exact ⟨fun o => World.cell?_alloc_lt _ _ _ lg, trivial⟩
      clear hK K
      try simp only [Act.put, List.getElem_toArray, List.getElem_cons_zero, List.getElem_cons_succ, List.setIfInBounds_toArray, List.set_cons_zero, List.set_cons_succ]
      have ho16 : ops8d[16]? = some (opAt ops8d 16) := by kernel_rfl
      conv at ho16 => rhs; arg 1; whnf
      refine wpAnyH_ready (rs := [16]) (by kernel_rfl) (by simp) ?_
      refine (AllReadyH.cons ho16 (fun K hK => ?_) AllReadyH.nil)
      all_goals clear ho16
      have hk4 : Kept W ((W.drew).alloc (.cells #[.int .u8 (i4 : Int), .int .u32 (458752 + (i : Int)), .int .i64 p] 68)) := ((Below.refl _ _).drew).alloc (Nat.le_refl _) _
      have h4 := HM.out.keep hk4
      have hF4 := HF.out.keep hk4
      obtain ⟨i1, hi1, hz0, hz1, hz2⟩ := info_parts info68
      have hocs : Own coT 68 w.heap.size ((W.drew).alloc (.cells #[.int .u8 (i4 : Int), .int .u32 (458752 + (i : Int)), .int .i64 p] 68)) vc cn cl := by have h9 := h4.cs; rw [Hcn.out] at h9; exact h9
      refine step_append_el (T := coT) rfl (.tmp 40) (.tmp 54) 38 rfl w.heap.size 68 i1 _ 16 Try.underlying38 hi1 hz0 hz1 hz2 rfl (show 0 < 3 by decide) vc cn cl (by rfl) hocs W.heap.size #[.int .u8 (i4 : Int), .int .u32 (458752 + (i : Int)), .int .i64 p] 68 ⟨(i4 : Int), 458752 + (i : Int), p⟩ (by rfl) (heap_at _ rfl) ⟨rfl, trivial⟩ (by simp [Value.oneCell']) (by unfold maxLen; omega) (by omega) h4.kept.size ?_
      intro g5 cap5 w5 hown5 hg5 hb5 hat5 hlt5
      have bm5 : w5.heap[MB]? = some (.cells #[vf, vc, .bool nm] 40 (0, 0)) := heap_grown hg5 h4.bm (fun e => own_type_ne h4.cs h4.bm (by decide) e.symm)
      have fm5 := frozen_heap bm5 (o := 1)
      have lm5 := heap_lt bm5
      have cm5 : w5.cell? ⟨MB, 1, none⟩ = some vc := cell_heap bm5 (o := 1) rfl
      have hgh5 := heap_grown hg5 (heap_kept hk4 Hgh.out) (fun e => own_type_ne h4.cs (heap_kept hk4 Hgh.out) (by decide) e.symm)
      have hS5 : ∀ o, w5.cell? ⟨gg, o, none⟩ = W.cell? ⟨gg, o, none⟩ := fun o => World.cell?_of_block (a := ⟨gg, o, none⟩) (hgh5.trans Hgh.out.symm)
      have hMg : ¬ MB = gg := fun e => by have h1 := HM.out.bm; rw [e, Hgh.out] at h1; injection h1 with h1; injection h1 with _ h2 _; exact absurd h2 (by decide)
      refine hK.out _ _ ?_ (fun hS => ?_)
      · exact ⟨hS5, trivial⟩
      clear hK K
      try simp only [Act.put, List.getElem_toArray, List.getElem_cons_zero, List.getElem_cons_succ, List.setIfInBounds_toArray, List.set_cons_zero, List.set_cons_succ]
      have ho : ops8d[17]? = some (opAt ops8d 17) := by kernel_rfl
      conv at ho => rhs; arg 1; whnf
      refine wpAnyH_take (i := 17) (v := ?_) ho (by kernel_rfl) (by kernel_rfl) (by kernel_rfl) (fun _ _ _ h => h) (Or.inl ⟨by kernel_rfl, ?_⟩) hS ?_
      clear ho
      rotate_left
      · intro w' hS'
        have hq := hS'.1
        have hq2 := hS'.2
        clear hS'
        first | (go_simp; done) | (go_simp; with_reducible rfl)
      try clear ho
      try simp only [Act.put, List.getElem_toArray, List.getElem_cons_zero, List.getElem_cons_succ, List.setIfInBounds_toArray, List.set_cons_zero, List.set_cons_succ]
      have ho18 : ops8d[18]? = some (opAt ops8d 18) := by kernel_rfl
      conv at ho18 => rhs; arg 1; whnf
      refine wpAnyH_ready (rs := [18]) (by kernel_rfl) (by simp) ?_
      refine (AllReadyH.cons ho18 (fun K hK => ?_) AllReadyH.nil)
      all_goals clear ho18
      go_simp
      try dsimp only
      refine hK.out _ _ ?_ (fun hS => ?_)
      · exact ⟨fun o => (World.cell?_setCell_other _ _ _ _ (fun e => hMg (by have := congrArg Addr.block e; exact this))).trans (hS5 o), trivial⟩
      clear hK K
      try simp only [Act.put, List.getElem_toArray, List.getElem_cons_zero, List.getElem_cons_succ, List.setIfInBounds_toArray, List.set_cons_zero, List.set_cons_succ]
      refine wpAnyH_done (by kernel_rfl) ?_ _
      have h9 := h4.csTo (v' := .slice (some ⟨g5, 0, none⟩) (cn + 1) cap5) hg5 hb5 (l := cl ++ [⟨(i4 : Int), 458752 + (i : Int), p⟩]) (by rw [List.length_append, Hcn.out]; exact hown5) (hat5.elim (fun e => .inr (.inl e.symm)) (fun e => .inr (.inr (by rw [e]; rfl))))
      have hF9 := (hF4.grown h4.cs (by decide) (by decide) hg5).other bm5 (by decide) (by decide) 1 (.slice (some ⟨g5, 0, none⟩) (cn + 1) cap5)
      have H9 := hide h9
      have HF9 := hide hF9
      clear hS cm5 fm5 lm5 bm5 hgh5 hS5 hg5 hb5 hat5 hown5 h4 hF4 h9 hF9 hocs
      refine NoPanic.normal ?_
      refine (show ∀ (a : Act) (w : World), Code.wp Try.prog _ _ a w → _ from by assumption) _ _ ?_
      refine wp_at (fun V => MD w V DB RB MB FB nb nm (some ⟨ba, oa, none⟩) n cap (.slice (some ⟨gg, 0, none⟩) (k + 1) co) vf (.slice (some ⟨g5, 0, none⟩) (cn + 1) cap5) ol fl (cl ++ [⟨(i4 : Int), 458752 + (i : Int), p⟩]) ∧ FX w V FB U c g) ⟨H9.out, HF9.out⟩ (fun V hV => ?_)
      clear H9 HF9
      obtain ⟨hVM, hVF⟩ := hV
      have m1 : V.cell? ⟨MB, 1, none⟩ = some (.slice (some ⟨g5, 0, none⟩) (cn + 1) cap5) := cell_heap hVM.bm (o := 1) rfl
      have lm := heap_lt hVM.bm
      have HVM := hide hVM
      have HVF := hide hVF
      have hkV : Kept V (V.alloc (.cells #[.int .i64 (cn : Int)] 3)) := (Below.refl _ _).alloc (Nat.le_refl _) _
      have hV4 := hVM.keep hkV
      have hVF4 := hVF.keep hkV
      have hoop : Own i64D 3 w.heap.size (V.alloc (.cells #[.int .i64 (cn : Int)] 3)) (.slice (some ⟨gg, 0, none⟩) (k + 1) co) (k + 1) ol := by have h9 := hV4.op; rw [Hdd.out] at h9; exact h9
      obtain ⟨i2, hi2, hy0, hy1, hy2⟩ := info_parts info3
      have hszV := hV4.kept.size
      have HV4 := hide hV4
      have HVF4 := hide hVF4
      clear hVM hVF hV4 hVF4 hkV
      go_upto_region 10 with (first
        | (at_builtin; refine wpList_append_el (T := i64D) rfl (.tmp 57) (.tmp 62) 96 rfl w.heap.size 3 i2 _ 8 Try.underlying96 hi2 hy0 hy1 hy2 rfl (show 0 < 1 by decide) _ (k + 1) ol (by rfl) hoop V.heap.size _ _ (cn : Int) (by rfl) (heap_at _ rfl) ⟨rfl, trivial⟩ (by simp [Value.oneCell']) (by unfold maxLen; omega) (by omega) hszV ?_; intro g6 cap6 w6 hown6 hg6 hb6 hat6 hlt6))
      have h6 := HV4.out.opTo (v' := .slice (some ⟨g6, 0, none⟩) (k + 1 + 1) cap6) hg6 hb6 (l := ol ++ [(cn : Int)]) (by rw [List.length_append, Hdd.out]; exact hown6) (hat6.elim (fun e => .inr (.inl e.symm)) (fun e => .inr (.inr (by rw [e]; rfl))))
      have hF6 := HVF4.out.grown HV4.out.op (by decide) (by decide) hg6
      have Hb := hide hb
      have hcl : cl ++ [⟨(i4 : Int), 458752 + (i : Int), p⟩] = clf := by rw [← Hec.out, if_pos Hb.out, Hi4.out]
      rw [hcl] at h6
      refine q10 (cl := clf) (dd := k + 1 + 1) (p := (cn : Int)) h6 hF6 h7 hba hin hfl (by rw [List.length_append, Hdd.out]; rfl) (by omega) (by omega) (by rw [show k + 1 + 1 - 1 = ol.length by rw [Hdd.out]; omega]; simp) hfl20 (by rw [← He.out]; unfold d1; simp only [Hb.out, if_true]) Hsm.out hg0 (by rw [← Hef.out, if_pos Hb.out]) _ _ ?_ HQ.out <;> assumption
    · go_simp
      try dsimp only
      refine hK.out _ _ ?_ (fun hS => ?_)
      · exact ⟨fun o => World.cell?_alloc_lt _ _ _ lg, trivial⟩
      clear hK K
      try simp only [Act.put, List.getElem_toArray, List.getElem_cons_zero, List.getElem_cons_succ, List.setIfInBounds_toArray, List.set_cons_zero, List.set_cons_succ]
      have ho1 : ops8d[1]? = some (opAt ops8d 1) := by kernel_rfl
      conv at ho1 => rhs; arg 1; whnf
      refine wpAnyH_ready (rs := [1]) (by kernel_rfl) (by simp) ?_
      refine (AllReadyH.cons ho1 (fun K hK => ?_) AllReadyH.nil)
      all_goals clear ho1
      go_simp
      try dsimp only
      refine hK.out _ _ ?_ (fun hS => ?_)
      · exact hS
      clear hK K
      try simp only [Act.put, List.getElem_toArray, List.getElem_cons_zero, List.getElem_cons_succ, List.setIfInBounds_toArray, List.set_cons_zero, List.set_cons_succ]
      have ho16 : ops8d[16]? = some (opAt ops8d 16) := by kernel_rfl
      conv at ho16 => rhs; arg 1; whnf
      refine wpAnyH_ready (rs := [16]) (by kernel_rfl) (by simp) ?_
      refine (AllReadyH.cons ho16 (fun K hK => ?_) AllReadyH.nil)
      all_goals clear ho16
      have hk4 : Kept W ((W.drew).alloc (.cells #[.int .u8 (i4 : Int), .int .u32 (458752 + (i : Int)), .int .i64 p] 68)) := ((Below.refl _ _).drew).alloc (Nat.le_refl _) _
      have h4 := HM.out.keep hk4
      have hF4 := HF.out.keep hk4
      obtain ⟨i1, hi1, hz0, hz1, hz2⟩ := info_parts info68
      have hocs : Own coT 68 w.heap.size ((W.drew).alloc (.cells #[.int .u8 (i4 : Int), .int .u32 (458752 + (i : Int)), .int .i64 p] 68)) vc cn cl := by have h9 := h4.cs; rw [Hcn.out] at h9; exact h9
      refine step_append_el (T := coT) rfl (.tmp 40) (.tmp 54) 38 rfl w.heap.size 68 i1 _ 16 Try.underlying38 hi1 hz0 hz1 hz2 rfl (show 0 < 3 by decide) vc cn cl (by rfl) hocs W.heap.size #[.int .u8 (i4 : Int), .int .u32 (458752 + (i : Int)), .int .i64 p] 68 ⟨(i4 : Int), 458752 + (i : Int), p⟩ (by rfl) (heap_at _ rfl) ⟨rfl, trivial⟩ (by simp [Value.oneCell']) (by unfold maxLen; omega) (by omega) h4.kept.size ?_
      intro g5 cap5 w5 hown5 hg5 hb5 hat5 hlt5
      have bm5 : w5.heap[MB]? = some (.cells #[vf, vc, .bool nm] 40 (0, 0)) := heap_grown hg5 h4.bm (fun e => own_type_ne h4.cs h4.bm (by decide) e.symm)
      have fm5 := frozen_heap bm5 (o := 1)
      have lm5 := heap_lt bm5
      have cm5 : w5.cell? ⟨MB, 1, none⟩ = some vc := cell_heap bm5 (o := 1) rfl
      have hgh5 := heap_grown hg5 (heap_kept hk4 Hgh.out) (fun e => own_type_ne h4.cs (heap_kept hk4 Hgh.out) (by decide) e.symm)
      have hS5 : ∀ o, w5.cell? ⟨gg, o, none⟩ = W.cell? ⟨gg, o, none⟩ := fun o => World.cell?_of_block (a := ⟨gg, o, none⟩) (hgh5.trans Hgh.out.symm)
      have hMg : ¬ MB = gg := fun e => by have h1 := HM.out.bm; rw [e, Hgh.out] at h1; injection h1 with h1; injection h1 with _ h2 _; exact absurd h2 (by decide)
      refine hK.out _ _ ?_ (fun hS => ?_)
      · exact ⟨hS5, trivial⟩
      clear hK K
      try simp only [Act.put, List.getElem_toArray, List.getElem_cons_zero, List.getElem_cons_succ, List.setIfInBounds_toArray, List.set_cons_zero, List.set_cons_succ]
      have ho : ops8d[17]? = some (opAt ops8d 17) := by kernel_rfl
      conv at ho => rhs; arg 1; whnf
      refine wpAnyH_take (i := 17) (v := ?_) ho (by kernel_rfl) (by kernel_rfl) (by kernel_rfl) (fun _ _ _ h => h) (Or.inl ⟨by kernel_rfl, ?_⟩) hS ?_
      clear ho
      rotate_left
      · intro w' hS'
        have hq := hS'.1
        have hq2 := hS'.2
        clear hS'
        first | (go_simp; done) | (go_simp; with_reducible rfl)
      try clear ho
      try simp only [Act.put, List.getElem_toArray, List.getElem_cons_zero, List.getElem_cons_succ, List.setIfInBounds_toArray, List.set_cons_zero, List.set_cons_succ]
      have ho18 : ops8d[18]? = some (opAt ops8d 18) := by kernel_rfl
      conv at ho18 => rhs; arg 1; whnf
      refine wpAnyH_ready (rs := [18]) (by kernel_rfl) (by simp) ?_
      refine (AllReadyH.cons ho18 (fun K hK => ?_) AllReadyH.nil)
      all_goals clear ho18
      go_simp
      try dsimp only
      refine hK.out _ _ ?_ (fun hS => ?_)
      · exact ⟨fun o => (World.cell?_setCell_other _ _ _ _ (fun e => hMg (by have := congrArg Addr.block e; exact this))).trans (hS5 o), trivial⟩
      clear hK K
      try simp only [Act.put, List.getElem_toArray, List.getElem_cons_zero, List.getElem_cons_succ, List.setIfInBounds_toArray, List.set_cons_zero, List.set_cons_succ]
      refine wpAnyH_done (by kernel_rfl) ?_ _
      have h9 := h4.csTo (v' := .slice (some ⟨g5, 0, none⟩) (cn + 1) cap5) hg5 hb5 (l := cl ++ [⟨(i4 : Int), 458752 + (i : Int), p⟩]) (by rw [List.length_append, Hcn.out]; exact hown5) (hat5.elim (fun e => .inr (.inl e.symm)) (fun e => .inr (.inr (by rw [e]; rfl))))
      have hF9 := (hF4.grown h4.cs (by decide) (by decide) hg5).other bm5 (by decide) (by decide) 1 (.slice (some ⟨g5, 0, none⟩) (cn + 1) cap5)
      have H9 := hide h9
      have HF9 := hide hF9
      clear hS cm5 fm5 lm5 bm5 hgh5 hS5 hg5 hb5 hat5 hown5 h4 hF4 h9 hF9 hocs
      refine NoPanic.normal ?_
      refine (show ∀ (a : Act) (w : World), Code.wp Try.prog _ _ a w → _ from by assumption) _ _ ?_
      refine wp_at (fun V => MD w V DB RB MB FB nb nm (some ⟨ba, oa, none⟩) n cap (.slice (some ⟨gg, 0, none⟩) (k + 1) co) vf (.slice (some ⟨g5, 0, none⟩) (cn + 1) cap5) ol fl (cl ++ [⟨(i4 : Int), 458752 + (i : Int), p⟩]) ∧ FX w V FB U c g) ⟨H9.out, HF9.out⟩ (fun V hV => ?_)
      clear H9 HF9
      obtain ⟨hVM, hVF⟩ := hV
      have m1 : V.cell? ⟨MB, 1, none⟩ = some (.slice (some ⟨g5, 0, none⟩) (cn + 1) cap5) := cell_heap hVM.bm (o := 1) rfl
      have lm := heap_lt hVM.bm
      have HVM := hide hVM
      have HVF := hide hVF
      have hkV : Kept V (V.alloc (.cells #[.int .i64 (cn : Int)] 3)) := (Below.refl _ _).alloc (Nat.le_refl _) _
      have hV4 := hVM.keep hkV
      have hVF4 := hVF.keep hkV
      have hoop : Own i64D 3 w.heap.size (V.alloc (.cells #[.int .i64 (cn : Int)] 3)) (.slice (some ⟨gg, 0, none⟩) (k + 1) co) (k + 1) ol := by have h9 := hV4.op; rw [Hdd.out] at h9; exact h9
      obtain ⟨i2, hi2, hy0, hy1, hy2⟩ := info_parts info3
      have hszV := hV4.kept.size
      have HV4 := hide hV4
      have HVF4 := hide hVF4
      clear hVM hVF hV4 hVF4 hkV
      go_upto_region 10 with (first
        | (at_builtin; refine wpList_append_el (T := i64D) rfl (.tmp 57) (.tmp 62) 96 rfl w.heap.size 3 i2 _ 8 Try.underlying96 hi2 hy0 hy1 hy2 rfl (show 0 < 1 by decide) _ (k + 1) ol (by rfl) hoop V.heap.size _ _ (cn : Int) (by rfl) (heap_at _ rfl) ⟨rfl, trivial⟩ (by simp [Value.oneCell']) (by unfold maxLen; omega) (by omega) hszV ?_; intro g6 cap6 w6 hown6 hg6 hb6 hat6 hlt6))
      have h6 := HV4.out.opTo (v' := .slice (some ⟨g6, 0, none⟩) (k + 1 + 1) cap6) hg6 hb6 (l := ol ++ [(cn : Int)]) (by rw [List.length_append, Hdd.out]; exact hown6) (hat6.elim (fun e => .inr (.inl e.symm)) (fun e => .inr (.inr (by rw [e]; rfl))))
      have hF6 := HVF4.out.grown HV4.out.op (by decide) (by decide) hg6
      have Hb := hide hb
      have hcl : cl ++ [⟨(i4 : Int), 458752 + (i : Int), p⟩] = clf := by rw [← Hec.out, if_pos Hb.out, Hi4.out]
      rw [hcl] at h6
      refine q10 (cl := clf) (dd := k + 1 + 1) (p := (cn : Int)) h6 hF6 h7 hba hin hfl (by rw [List.length_append, Hdd.out]; rfl) (by omega) (by omega) (by rw [show k + 1 + 1 - 1 = ol.length by rw [Hdd.out]; omega]; simp) hfl20 (by rw [← He.out]; unfold d1; simp only [Hb.out, if_true]) Hsm.out hg0 (by rw [← Hef.out, if_pos Hb.out]) _ _ ?_ HQ.out <;> assumption
end Go.Proofs.Ytegdigfcgeoboaa
