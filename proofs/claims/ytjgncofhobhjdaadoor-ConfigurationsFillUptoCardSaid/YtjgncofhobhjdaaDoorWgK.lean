/- ConfigurationsFill, walked. Printed by gen_wf.py. -/
import Derived.Test.YtjgncofhobhjdaaDoorChecked
import Derived.Deep.RegionHeld3
import Derived.Deep.DrawnRows
import Derived.Deep.DeepCutAuto
import Derived.Deep.LoopGhost
import Derived.Outline
import Derived.Handy
import Derived.OwnWalk
import Derived.BigQuiet
import Derived.Test.YtjgncofhobhjdaaDoorN31
import Derived.Test.YtjgncofhobhjdaaDoorWfK
import Derived.Test.YtjgncofhobhjdaaDoorYoK
import Derived.Test.YtjgncofhobhjdaaDoorN15
set_option linter.unusedVariables false
set_option linter.unusedSimpArgs false
set_option linter.unusedSectionVars false
namespace Go.Proofs.YtjgncofhobhjdaaDoor
open Go.RowKit
attribute [local go_sem ↓] Go.wp_at_zero Go.wp_at_succ

theorem cfgS_of {base : Nat} {w : World} {A : Option Addr} {n c : Nat} {L : List LF} {D : CfgD} {I : List (List Alt)} (h : LIs base w (.slice A n c) L) (hp : plainL L = I) (hn : I.length = n) (hd : D.ok) (hc : n ≤ c) (hm : c ≤ maxLen) : CfgIs w (low w.heap.size) ⟨D, I⟩ A c := by
  have hl : L.length = n := by rw [← hn, ← hp]; unfold plainL; rw [List.length_map]
  have hs := h.sl hl
  rw [hp] at hs
  subst hn
  have hcf : CfgIs w (fun b => base ≤ b ∧ b < w.heap.size) ⟨D, I⟩ A c := ⟨hd, hc, hm, hs⟩
  exact hcf.keep (fun b hb => hb.2) (fun _ _ _ => rfl)
noncomputable def code20f : Code := (Tryd.f7.body.bind (fromR 20)).getD .skip
set_option maxRecDepth 1000000 in
set_option maxHeartbeats 16000000 in
/-- from the loops on -/
theorem fill_rest {u0 u2 u3 u4 u7 u8 u9 u10 u11 u12 u13 u14 u15 u16 u17 u18 u19 u20 u21 u22 u23 u24 u25 u26 u27 u28 u29 u30 u31 u32 u33 u34 u35 u36 u37 u38 u39 u40 u41 u42 u43 u44 u45 u46 u47 u48 u49 u50 u51 u52 u53 u54 u55 u56 u57 u58 u59 u60 u61 u62 u63 u64 u65 u66 u67 u68 u69 u70 u71 u72 u73 u74 u75 u76 u77 u78 u79 u80 u81 u82 u83 u84 u85 u86 u87 u88 u89 u90 u91 u92 u93 u94 u95 u96 u97 u98 u99 u100 u101 u102 u103 u104 u105 u106 u107 u108 u109 u110 u111 u112 u113 u114 u115 u116 u117 u118 u119 u120 u121 u122 u123 u124 u125 u126 u127 u128 u129 u130 u131 u132 u133 u134 u135 u136 u137 u138 u139 u140 u141 u142 u143 u144 u145 u146 u147 u148 u149 u150 u151 u152 u153 u154 u155 u156 u157 u158 u159 u160 u161 u162 u163 u164 u165 u166 u167 u168 u169 u170 u171 u172 u173 u174 u175 u176 u177 u178 u179 u180 u181 u182 u183 u184 u185 u186 u187 u188 u189 u190 u191 u192 u193 u194 u195 u196 u197 u198 u199 u200 u201 u202 u203 u204 u205 u206 u207 u208 u209 u210 u211 u212 u213 u214 : Value} {w w4 X : World} {AB DB S2 gI n1 c1 c2 : Nat} {A1 : Option Addr} {D1 D2 : CfgD} {I1 : List (List Alt)} {L2 : List LF} {bz : Int} (hk4 : Kept w w4) (hm : MidC w4 X S2 DB (.slice (some ⟨gI, 0, none⟩) n1 c2) D2 L2) (hab : X.heap[AB]? = some (.cells #[.int .u16 D1.total, .int .u8 D1.ifs, .int .u8 D1.number, .int .u8 D1.text, .bool D1.self, .bool D1.wake, .int .u8 D1.power, .slice A1 n1 c1] 32 (0, 0)))
    (hpl : plainL L2 = I1) (hc1 : CfgIs w4 (low w4.heap.size) ⟨D1, I1⟩ A1 c1) (hchk : CheckC ⟨D1, I1⟩) (hsz : sizeS ⟨D1, I1⟩ ≤ 3129) (hn : I1.length = n1) (hn6 : n1 ≤ 6) (hb : u8k bz) (hcap : n1 ≤ c2 ∧ c2 ≤ maxLen) (hT : Tabs w)
    (hd2 : D2.ok) (hf : ∀ J, coreI J = coreI I1 → fillS ⟨D2, J⟩ = ⟨D1, I1⟩) (htot : IntKind.u16.wrap (D1.total + bz) = D2.total)
    (K K2 : Act → World → Prop) (hK : ∀ a w', Code.wp Tryd.prog (restC code10f) (Exit.then K2 (bodyPost Tryd.prog Tryd.f7 fun e w' => e = .returned (.bool true) ∧ Kept w w')) a w' → K a w') (hK2 : ∀ a w', Code.wp Tryd.prog code20f (bodyPost Tryd.prog Tryd.f7 fun e w' => e = .returned (.bool true) ∧ Kept w w') a w' → K2 a w') :
    Code.wp Tryd.prog (headC code10f) (Exit.then K (Exit.then K2 (bodyPost Tryd.prog Tryd.f7 fun e w' => e = .returned (.bool true) ∧ Kept w w'))) ⟨#[u0, .int .u8 bz, u2, u3, u4, .pointer (some ⟨AB, 0, none⟩), .pointer (some ⟨DB, 0, none⟩), u7, u8, u9, u10, u11, u12, u13, u14, u15, u16, u17, u18, u19, u20, u21, u22, u23, u24, u25, u26, u27, u28, u29, u30, u31, u32, u33, u34, u35, u36, u37, u38, u39, u40, u41, u42, u43, u44, u45, u46, u47, u48, u49, u50, u51, u52, u53, u54, u55, u56, u57, u58, u59, u60, u61, u62, u63, u64, u65, u66, u67, u68, u69, u70, u71, u72, u73, u74, u75, u76, u77, u78, u79, u80, u81, u82, u83, u84, u85, u86, u87, u88, u89, u90, u91, u92, u93, u94, u95, u96, u97, u98, u99, u100, u101, u102, u103, u104, u105, u106, u107, u108, u109, u110, u111, u112, u113, u114, u115, u116, u117, u118, u119, u120, u121, u122, u123, u124, u125, u126, u127, u128, u129, u130, u131, u132, u133, u134, u135, u136, u137, u138, u139, u140, u141, u142, u143, u144, u145, u146, u147, u148, u149, u150, u151, u152, u153, u154, u155, u156, u157, u158, u159, u160, u161, u162, u163, u164, u165, u166, u167, u168, u169, u170, u171, u172, u173, u174, u175, u176, u177, u178, u179, u180, u181, u182, u183, u184, u185, u186, u187, u188, u189, u190, u191, u192, u193, u194, u195, u196, u197, u198, u199, u200, u201, u202, u203, u204, u205, u206, u207, u208, u209, u210, u211, u212, u213, u214], []⟩ X := by
  have hL : L2.length = n1 := by rw [← hn, ← hpl]; unfold plainL; rw [List.length_map]
  conv at hK2 => enter [a, w', 1, 2]; whnf
  refine mess_loop (I := I1) ⟨hm, hab⟩ (by rw [hpl]) hL hb _ _ _ hK ?_
  intro s7 s8 s9 s46 s47 s48 s49 s50 s51 s52 s53 s54 s55 s56 s57 s58 s59 s60 s61 s62 s63 s64 s65 s66 s67 s68 s69 s70 s71 s72 s73 s74 s75 s76 s77 s78 s79 s80 s81 s82 s83 s84 s85 s86 s87 s88 s89 s90 s91 s92 s93 s94 s95 s96 s97 s98 s99 s100 s101 L3 X3 hh
  obtain ⟨hml, hc3, hL3⟩ := hh
  have hsz3 : sizeS ⟨D2, plainL L3⟩ = sizeS ⟨D1, I1⟩ := by
    rw [sizeS_eq, sizeS_eq]
    show 9 + sumC (plainL L3) = 9 + sumC I1
    rw [sumC_core hc3]
  have hn3 : (plainL L3).length = n1 := by unfold plainL; rw [List.length_map]; exact hL3
  have hcf3 := cfgS_of hml.mid.lis rfl hn3 hd2 hcap.1 hcap.2
  have hfl : Calls Tryd.prog 22 #[.agg #[.int .u16 D2.total, .int .u8 D2.ifs, .int .u8 D2.number, .int .u8 D2.text, .bool D2.self, .bool D2.wake, .int .u8 D2.power, .slice (some ⟨gI, 0, none⟩) n1 c2]] X3 (fun e w2 => (∃ A', e = .returned (.agg #[.int .u16 D1.total, .int .u8 D1.ifs, .int .u8 D1.number, .int .u8 D1.text, .bool D1.self, .bool D1.wake, .int .u8 D1.power, .slice A' n1 n1]) ∧ CfgIs w2 (fun b => X3.heap.size ≤ b ∧ b < w2.heap.size) ⟨D1, I1⟩ A' n1) ∧ Kept X3 w2) := by
    have h := fill_any ⟨D2, plainL L3⟩ (some ⟨gI, 0, none⟩) c2 X3 hcf3 (by rw [hsz3]; omega) (by rw [hn3]; omega)
    rw [hf _ hc3] at h
    unfold Cfg.cells CfgD.cells at h
    simp only [hn3, hn, List.cons_append, List.nil_append] at h
    exact h
  have hBx : X3.heap[DB]? = some (.cells #[.int .u16 D2.total, .int .u8 D2.ifs, .int .u8 D2.number, .int .u8 D2.text, .bool D2.self, .bool D2.wake, .int .u8 D2.power, .slice (some ⟨gI, 0, none⟩) n1 c2] 32 (0, 0)) := hml.mid.box
  have b0 := cell_heap hBx (o := 0) rfl; have b1 := cell_heap hBx (o := 1) rfl; have b2 := cell_heap hBx (o := 2) rfl; have b3 := cell_heap hBx (o := 3) rfl; have b4 := cell_heap hBx (o := 4) rfl; have b5 := cell_heap hBx (o := 5) rfl; have b6 := cell_heap hBx (o := 6) rfl; have b7 := cell_heap hBx (o := 7) rfl
  have lD := heap_lt hBx
  have Hml := hide hml
  have HBx := hide hBx
  have HL3 := hide hL3
  have Hk4 := hide hk4
  have Hc1 := hide hc1
  have Hn := hide hn
  have Hchk := hide hchk
  have HT := hide hT
  have Hsz := hide hsz
  clear hml hBx hL3 hk4 hc1 hn hchk hT hsz hcf3 hn3 hsz3 hc3 hm hab hpl hL hf hd2 hK
  refine hK2 _ _ ?_
  clear hK2
  go_upto_region 21 with (go_at_call 22; refine hfl.mono ?_; rintro e w6 ⟨⟨A3, rfl, hf3⟩, hk6⟩)
  refine wp_at (fun V6 => ∃ FB, V6.heap[FB]? = some (.cells #[.int .u16 D1.total, .int .u8 D1.ifs, .int .u8 D1.number, .int .u8 D1.text, .bool D1.self, .bool D1.wake, .int .u8 D1.power, .slice A3 n1 n1] 32 (0, 0)) ∧ FB = w6.heap.size ∧ Kept w6 V6) ⟨_, heap_at _ rfl, rfl, by go_grown⟩ (fun V6 hV6 => ?_)
  obtain ⟨FB, hFB, hFBd, hkV⟩ := hV6
  rw [← hFBd]
  have hk36 := hk6.trans' hkV
  have hA6 := heap_kept hk36 Hml.out.ab
  have hc6 := Hc1.out.kept (Hml.out.mid.kept.trans' hk36)
  have hf6 : CfgIs V6 (fun b => X3.heap.size ≤ b) ⟨D1, I1⟩ A3 n1 := hf3.keep (fun b hb => hb.1) (fun b o hb => hkV.cell (p := ⟨b, o, none⟩) hb.2)
  have hf6l : CfgIs V6 (low V6.heap.size) ⟨D1, I1⟩ A3 n1 := (hf3.keep (fun b hb => hb.2) (fun _ _ _ => rfl)).kept hkV
  have hD6 := heap_kept hk36 HBx.out
  have d0 : V6.cell? ⟨DB, 0, none⟩ = some (.int .u16 D2.total) := cell_heap hD6 (o := 0) rfl
  have hwb : IntKind.u16.wrap bz = bz := wrap16 hb.1 (by have := hb.2; omega)
  have hF0 : X3.heap.size ≤ FB := by rw [hFBd]; exact hk6.size
  have hbnd : CfgIs V6 (fun b => X3.heap.size ≤ b ∧ b < V6.heap.size) ⟨D1, I1⟩ A3 n1 := hf3.keep (fun b hb => ⟨hb.1, Nat.lt_of_lt_of_le hb.2 hkV.size⟩) (fun b o hb => hkV.cell (p := ⟨b, o, none⟩) hb.2)
  have Hbnd := hide hbnd
  have HFB := hide hFB
  have Hk36 := hide hk36
  clear hk6 hkV hf3 hf6 hFBd hfl b0 b1 b2 b3 b4 b5 b6 b7 lD hbnd hk36
  refine fill_cmp hA6 hFB hc6 hf6l Hn.out (by have := Hsz.out; omega) (small_chk (checkC_iff Hchk.out)) (fill_same Hchk.out) hn6 d0 (heap_lt hD6) hwb htot _ ?_
  intro s104 s105 s106 s107 s108 s109 s110 s111 s112 s113 s114 s115 s116 s117 s118 s119 s120 s121 s122 s123 s124 s125 s126 s127 s128 s129 s130 s131 s132 w7 hk7
  have Hk7 := hide hk7
  have hF7 := heap_kept hk7 HFB.out
  clear hA6 hFB hc6 hf6l hD6 d0 hwb htot hk7
  go_upto_region 23 with fail
  refine alter_loop (XF := w7) (F0 := X3.heap.size) ⟨⟨Hml.out.mid.keep (Hk36.out.trans' Hk7.out), heap_kept (Hk36.out.trans' Hk7.out) Hml.out.ab⟩, From.refl, Bnd.of Hml.out.mid.lis⟩ HL3.out _ _ _ ?_ ?_
  · assumption
  intro s11 s12 s13 s14 s15 s134 s135 s136 s137 s138 s139 s140 s141 s142 s143 s144 s145 s146 s147 s148 s149 s150 s151 s152 s153 s154 s155 s156 s157 s158 s159 s160 s161 s162 s163 s164 s165 s166 s167 s168 s169 s170 s171 s172 s173 s174 s175 s176 s177 s178 s179 s180 s181 s182 s183 s184 s185 s186 s187 s188 s189 s190 s191 s192 s193 s194 s195 s196 s197 s198 s199 s200 s201 s202 s203 s204 s205 s206 L8 w8 hh
  have Hh := hide hh
  have HF7 := hide hF7
  clear hh hF7
  refine (show ∀ (a : Act) (w : World), Code.wp Tryd.prog _ _ a w → _ from by assumption) _ _ ?_
  go_upto_region 39 with fail
  refine fill_last (td := 0) (bz := 0) (DB := 0) Hh.out.1.ml.ab (Hh.out.1.fr.heap hF0 HF7.out) (Hc1.out.kept Hh.out.1.ml.mid.kept) ((((Hbnd.out.keep (fun b hb => ⟨hb.1, Nat.lt_of_lt_of_le hb.2 Hk7.out.size⟩) (fun b o hb => Hk7.out.cell (p := ⟨b, o, none⟩) hb.2)) : CfgIs w7 (fun b => X3.heap.size ≤ b ∧ b < w7.heap.size) ⟨D1, I1⟩ A3 n1)).keep (fun b hb => Nat.lt_of_lt_of_le hb.2 Hh.out.1.fr.size) (fun b o hb => Hh.out.1.fr.cell hb.1 hb.2)) Hn.out (by have := Hsz.out; omega) (small_chk (checkC_iff Hchk.out)) (HT.out.kept (Hk4.out.trans' Hh.out.1.ml.mid.kept)) _ ?_
  intro s207 s208 s209 s210 s211 s212 s213 w9 hk9
  go_wp2_with fail
  try go_ret
  exact ⟨rfl, (Hk4.out.trans' Hh.out.1.ml.mid.kept).trans' hk9⟩
set_option maxRecDepth 1000000 in
set_option maxHeartbeats 16000000 in
theorem fill_law (x : PC) (A : Option Addr) (cap : Nat) (bz : Int) (w : World) (hC : PcIs w x A cap) (hx : x.ok) (hb : u8k bz) (hz : countP x.ifs ≤ 2000000) (hT : Tabs w) :
    Calls Tryd.prog 7 #[.agg (x.cells A cap).toArray, .int .u8 bz] w fun e w' => e = .returned (.bool true) ∧ Kept w w' := by
  have HTw := hide hT
  have hlv := fun w' (hk : Kept w w') => lives_any w' (hT.kept hk)
  have hb1 := fun w' (hk : Kept w w') => big_any x A cap w' (hC.kept hk) hz
  have hoa := fun w' (hk : Kept w w') hb => of_any x A cap w' (hC.kept hk) hb hx
  have hs1 := fun hb => of_size (x := x) hb hx
  have hc1 := fun hb => of_check (x := x) hb hx
  have hk1 := fun hb => of_ok (x := x) hb hx
  have hy1 := fun hb => of_many (x := x) hb
  obtain ⟨bg1, hbg1⟩ : ∃ bg, bigS x = bg := ⟨_, rfl⟩
  obtain ⟨E1, hE1⟩ : ∃ C, ofS x = C := ⟨_, rfl⟩
  simp only [hbg1, hE1] at hb1 hoa hs1 hc1 hk1 hy1
  obtain ⟨nu, te, po, se, wa, L⟩ := x
  obtain ⟨n0, hn0⟩ : ∃ n0, L.length = n0 := ⟨_, rfl⟩
  unfold PC.cells at hb1 hoa ⊢
  simp only [hn0] at hb1 hoa ⊢
  clear hC hx hz hT hn0 hbg1 hE1
  go_enter Tryd.func7, Tryd.ntmps7
  go_upto_region 1 with (fail)
  refine wp_at (fun W => W.heap[w.heap.size]? = some (.cells #[.int .u8 nu, .int .u8 te, .int .u8 po, .bool se, .bool wa, .slice A n0 cap] 24 (0, 0)) ∧ Kept w W) ⟨heap_at _ rfl, by go_grown⟩ (fun W hW => ?_)
  obtain ⟨hI, hkW⟩ := hW
  obtain ⟨I0, hI0⟩ : ∃ I0, w.heap.size = I0 := ⟨_, rfl⟩
  rw [hI0] at hI
  simp only [hI0]
  have i0 := cell_heap hI (o := 0) rfl; have i1 := cell_heap hI (o := 1) rfl; have i2 := cell_heap hI (o := 2) rfl; have i3 := cell_heap hI (o := 3) rfl; have i4 := cell_heap hI (o := 4) rfl; have i5 := cell_heap hI (o := 5) rfl
  have lI := heap_lt hI
  have HI := hide hI
  have HkW := hide hkW
  clear hI hkW hI0
  cases bg1 with
  | true =>
    clear hoa hs1 hc1 hk1 hy1
    go_wp2_with (first
      | (go_at_call 12; refine (hb1 _ HkW.out).mono ?_; rintro e w1 ⟨⟨k, rfl, hk0⟩, hkk⟩; have hkp : 0 < k := by simpa using hk0)
      | (go_at_call 13; refine (hlv _ (HkW.out.trans' hkk)).mono ?_; rintro e w2 ⟨rfl, hk3⟩))
    go_ret
    exact ⟨rfl, (HkW.out.trans' hkk).trans' hk3⟩
  | false =>
  replace hoa := fun w' hk => hoa w' hk rfl
  replace hs1 := hs1 rfl
  replace hc1 := hc1 rfl
  replace hk1 := hk1 rfl
  replace hy1 := hy1 rfl
  obtain ⟨D1, I1⟩ := E1
  obtain ⟨n1, hn1⟩ : ∃ n, I1.length = n := ⟨_, rfl⟩
  unfold Cfg.cells CfgD.cells at hoa
  simp only [hn1, List.cons_append, List.nil_append] at hoa
  have hy2 : n1 ≤ 6 := by rw [← hn1]; exact hy1
  have Hn1 := hide hn1
  have Hs1 := hide hs1
  have Hc1 := hide hc1
  have Hk1 := hide hk1
  clear hs1 hc1 hk1 hn1 hy1
  go_upto_region 3 with (go_at_call 12; refine (hb1 _ HkW.out).mono ?_; rintro e w1 ⟨⟨k, rfl, hk0⟩, hkk⟩; have hkp : k ≤ 0 := (by simpa using hk0))
  have hkA := HkW.out.trans' hkk
  have hI3 := heap_kept hkk HI.out
  clear i0 i1 i2 i3 i4 i5 lI HI hk0 hkk HkW hkp
  have i0 := cell_heap hI3 (o := 0) rfl; have i1 := cell_heap hI3 (o := 1) rfl; have i2 := cell_heap hI3 (o := 2) rfl; have i3 := cell_heap hI3 (o := 3) rfl; have i4 := cell_heap hI3 (o := 4) rfl; have i5 := cell_heap hI3 (o := 5) rfl
  have lI := heap_lt hI3
  have HI3 := hide hI3
  clear hI3 hb1
  go_upto_region 4 with (go_at_call 14; refine (hoa _ hkA).mono ?_; rintro e w4 ⟨⟨A1, c1, L1, rfl, hpl, hl1, hm1, hli⟩, hk4⟩)
  have hl1n : n1 ≤ c1 := by rw [← Hn1.out, ← hpl]; unfold plainL; rw [List.length_map]; exact hl1
  have hcf4 : CfgIs w4 (low w4.heap.size) ⟨D1, I1⟩ A1 c1 := cfgS_of hli hpl Hn1.out Hk1.out.1 hl1n hm1
  refine wp_at (fun V => ∃ AB, V.heap[AB]? = some (.cells #[.int .u16 D1.total, .int .u8 D1.ifs, .int .u8 D1.number, .int .u8 D1.text, .bool D1.self, .bool D1.wake, .int .u8 D1.power, .slice A1 n1 c1] 32 (0, 0)) ∧ AB = w4.heap.size ∧ Kept w4 V) ⟨_, heap_at _ rfl, rfl, by go_grown⟩ (fun V hV => ?_)
  obtain ⟨AB, hAB, hABd, hkV⟩ := hV
  rw [← hABd]
  have hkB := (hkA.trans' hk4).trans' hkV
  have hIV := heap_kept (hk4.trans' hkV) HI3.out
  have Hkw4 := hide (hkA.trans' hk4)
  have HkV := hide hkV
  have Hcf4 := hide hcf4
  have HAB := hide hAB
  have hABV := heap_lt hAB
  have HABd := hide hABd
  clear hABd i0 i1 i2 i3 i4 i5 lI hAB hkV hk4 hcf4 HI3 hli hpl hl1 hl1n hm1 hkA
  have i0 := cell_heap hIV (o := 0) rfl; have i1 := cell_heap hIV (o := 1) rfl; have i2 := cell_heap hIV (o := 2) rfl; have i3 := cell_heap hIV (o := 3) rfl; have i4 := cell_heap hIV (o := 4) rfl; have i5 := cell_heap hIV (o := 5) rfl
  have lI := heap_lt hIV
  clear hIV
  go_upto_region 5 with (go_at_call 14; refine (hoa _ hkB).mono ?_; rintro e w5 ⟨⟨A2, c2, L2, rfl, hpl, hl2, hm2, hli⟩, hk5⟩)
  refine wp_at (fun X => ∃ DB, X.heap[DB]? = some (.cells #[.int .u16 D1.total, .int .u8 D1.ifs, .int .u8 D1.number, .int .u8 D1.text, .bool D1.self, .bool D1.wake, .int .u8 D1.power, .slice A2 n1 c2] 32 (0, 0)) ∧ DB = w5.heap.size ∧ Kept w5 X) ⟨_, heap_at _ rfl, rfl, by go_grown⟩ (fun X hX => ?_)
  obtain ⟨DB, hDB, hDBd, hkX⟩ := hX
  rw [← hDBd]
  have hcap2 : n1 ≤ c2 := by rw [← Hn1.out, ← hpl]; unfold plainL; rw [List.length_map]; exact hl2
  have hmid : MidC w4 X V.heap.size DB (.slice A2 n1 c2) D1 L2 := ⟨HkV.out.trans' (hk5.trans' hkX), ⟨HkV.out.size, by rw [hDBd]; exact hk5.size⟩, hDB, hli.kept hkX⟩
  have hAX := heap_kept (hk5.trans' hkX) HAB.out
  have hABDB : ¬ AB = DB := by have := hk5.size; omega
  have hw4AB : w4.heap.size ≤ AB := by have := HABd.out; omega
  have hABw5 : AB < X.heap.size := heap_lt hAX
  have Hmid := hide hmid
  have HAX := hide hAX
  have Hpl := hide hpl
  have hDB0 : X.heap[DB]? = some (.cells #[.int .u16 D1.total, .int .u8 D1.ifs, .int .u8 D1.number, .int .u8 D1.text, .bool D1.self, .bool D1.wake, .int .u8 D1.power, .slice A2 n1 c2] 32 (0, 0)) := hDB
  have hcc := check_of Hc1.out
  have hn1p : 0 < n1 := by
    have h1 := hcc.ifs
    have h2 := hcc.valid.d
    unfold okCfg at h2
    simp only [Bool.and_eq_true, decide_eq_true_eq] at h2
    have h4 : (1 : Int) ≤ (I1.length : Int) := by rw [← h1]; exact h2.1.1.1.2
    rw [Hn1.out] at h4
    omega
  have hL2n : L2.length = n1 := by rw [← Hn1.out, ← hpl]; unfold plainL; rw [List.length_map]
  have hown := Hmid.out.lis.own
  rw [hL2n] at hown
  obtain ⟨gI, cI, curI, hvI, hgI, hhI, hcI1, hcI2, hbI⟩ := own_block hown hn1p
  injection hvI with hvI1 _ hvI3
  subst hvI1 hvI3
  have Hcc := hide hcc
  clear i0 i1 i2 i3 i4 i5 lI hDBd hkX hk5 hli hAX hmid hDB hpl hl2 hL2n hown hgI hhI hcI1 hcI2 hbI HAB HkV hcc hoa hkB hlv
  obtain ⟨td, htd⟩ : ∃ td, IntKind.u16.wrap (D1.total + bz) = td := ⟨_, rfl⟩
  obtain ⟨ti, hti⟩ : ∃ ti, IntKind.u8.wrap (D1.ifs + bz) = ti := ⟨_, rfl⟩
  have htd8 : u16k td := by
    rw [← htd]
    have : IntKind.u16.wrap (D1.total + bz) = (D1.total + bz) % 65536 := by simp [IntKind.wrap, IntKind.signed, IntKind.bits]
    unfold u16k
    omega
  have hti8 : u8k ti := by rw [← hti]; exact wrap_is8 _
  have hwb : IntKind.u16.wrap bz = bz := wrap16 hb.1 (by have := hb.2; omega)
  have b0 : X.cell? ⟨DB, 0, none⟩ = some (.int .u16 D1.total) := cell_heap hDB0 (o := 0) rfl
  have b1 : X.cell? ⟨DB, 1, none⟩ = some (.int .u8 D1.ifs) := cell_heap hDB0 (o := 1) rfl
  have f0 := frozen_heap hDB0 (o := 0)
  have f1 := frozen_heap hDB0 (o := 1)
  have lD := heap_lt hDB0
  have Htd8 := hide htd8
  have Hti8 := hide hti8
  have Htd := hide htd
  clear hDB0 htd8 hti8
  go_upto_region 7 with fail
  refine wp_at (fun Z => MidC w4 Z V.heap.size DB (.slice (some ⟨gI, 0, none⟩) n1 c2) { D1 with total := td, ifs := ti } L2 ∧ Z.heap[AB]? = some (.cells #[.int .u16 D1.total, .int .u8 D1.ifs, .int .u8 D1.number, .int .u8 D1.text, .bool D1.self, .bool D1.wake, .int .u8 D1.power, .slice A1 n1 c1] 32 (0, 0))) ⟨(Hmid.out.setBox (D' := { D1 with total := td }) (o := 0) (u := .int .u16 td) (by decide) rfl).setBox (o := 1) (u := .int .u8 ti) (by decide) rfl, heap_other (heap_other HAX.out hABDB) hABDB⟩ (fun Z hZ => ?_)
  obtain ⟨hmZ, hAZ⟩ := hZ
  have a2 : Z.cell? ⟨AB, 2, none⟩ = some (.int .u8 D1.number) := cell_heap hAZ (o := 2) rfl
  have fa2 := frozen_heap hAZ (o := 2)
  have lA := heap_lt hAZ
  have d2 : Z.cell? ⟨DB, 2, none⟩ = some (.int .u8 D1.number) := cell_heap hmZ.box (o := 2) rfl
  have fd2 := frozen_heap hmZ.box (o := 2)
  have lDZ := heap_lt hmZ.box
  have HmZ := hide hmZ
  have HAZ := hide hAZ
  have hDBA : ¬ DB = AB := fun e => hABDB e.symm
  have hchkv := Hcc.out.valid.d
  have hnum1 : 1 ≤ D1.number := by
    unfold okCfg at hchkv
    simp only [Bool.and_eq_true, decide_eq_true_eq] at hchkv
    exact hchkv.1.2
  clear hmZ hAZ b0 b1 f0 f1 lD htd hti hABV hABw5 hchkv Hmid HAX
  obtain ⟨r, hr⟩ : ∃ r, bz % 2 = r := ⟨_, rfl⟩
  have hmr : bz.tmod 2 = r := by rw [Int.tmod_eq_emod_of_nonneg hb.1]; exact hr
  have hr2 : r = 0 ∨ r = 1 := by omega
  clear hr
  have hok := Hk1.out.1
  rcases hr2 with rfl | rfl
  · go_upto_region 10 with fail
    refine fill_rest (D1 := D1) (D2 := { D1 with total := td, ifs := ti }) Hkw4.out HmZ.out HAZ.out Hpl.out Hcf4.out Hcc.out Hs1.out Hn1.out hy2 hb ⟨hcap2, hm2⟩ HTw.out ⟨Htd8.out, Hti8.out, hok.2.2.1, hok.2.2.2.1, hok.2.2.2.2⟩ (fun J hJ => fill_core Hcc.out hJ (by rw [if_neg (by omega)])) Htd.out _ _ ?_ ?_ <;> assumption
  · go_upto_region 10 with fail
    refine fill_rest (D1 := { D1 with number := 1 }) (D2 := { D1 with total := td, ifs := ti, number := 0 }) Hkw4.out (X := (Z.setCell ⟨AB, 2, none⟩ (.int .u8 1)).setCell ⟨DB, 2, none⟩ (.int .u8 0)) (MidC.setBox (D := { D1 with total := td, ifs := ti }) ⟨HmZ.out.kept.setCell hw4AB _, HmZ.out.low, heap_other HmZ.out.box hDBA, HmZ.out.lis.off HAZ.out (fun k hk => heap_setCell_other _ _ _ _ hk)⟩ (o := 2) (u := .int .u8 0) (by decide) rfl) (heap_other (heap_store HAZ.out _) hABDB) Hpl.out ⟨⟨hok.1, hok.2.1, by unfold u8k; simp, hok.2.2.2.1, hok.2.2.2.2⟩, Hcf4.out.len, Hcf4.out.cap, Hcf4.out.ifs⟩ (check_number Hcc.out (by omega)) (by have := Hs1.out; exact this) Hn1.out hy2 hb ⟨hcap2, hm2⟩ HTw.out ⟨Htd8.out, Hti8.out, by unfold u8k; simp, hok.2.2.2.1, hok.2.2.2.2⟩ (fun J hJ => fill_core (D := { D1 with number := 1 }) (check_number Hcc.out (by omega)) hJ rfl) Htd.out _ _ ?_ ?_ <;> assumption
end Go.Proofs.YtjgncofhobhjdaaDoor
