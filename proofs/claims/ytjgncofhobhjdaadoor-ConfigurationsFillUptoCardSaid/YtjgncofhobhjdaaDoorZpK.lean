/- Text: the loops of the walk. The library's table of powers is as the program lays it. Printed by gen_zp.py. -/
import Derived.Test.YtjgncofhobhjdaaDoorChecked
import Derived.Deep.RegionHeld3
import Derived.Deep.DrawnRows
import Derived.Deep.DeepCutAuto
import Derived.Deep.LoopGhost
import Derived.Outline
import Derived.Handy
import Derived.OwnWalk
import Derived.BigQuiet
import Derived.Test.YtjgncofhobhjdaaDoorN10
import Derived.Test.YtjgncofhobhjdaaDoorN1
import Derived.Laws.EntriesVeiled
set_option linter.unusedVariables false
set_option linter.unusedSimpArgs false
set_option linter.unusedSectionVars false
namespace Go.Proofs.YtjgncofhobhjdaaDoor
open Go.RowKit Go.Shelf Go.Lib
attribute [local go_sem ↓] Go.wp_at_zero Go.wp_at_succ

theorem itoaD_any (n : Int) (w : World) (h0 : 0 ≤ n) (h1 : n < 256) (hT : Tabs w) :
    Calls Tryd.prog 55 #[.int .i64 (IntKind.i64.wrap (2 * IntKind.i64.wrap n))] w fun e w' => e = .returned (.string (B8 (Lib.itoa (2 * n)))) ∧ Kept w w' := by
  have hw : IntKind.i64.wrap (2 * IntKind.i64.wrap n) = 2 * n := by rw [IntKind.wrap_i64, IntKind.wrap_i64]; omega
  rw [hw]
  exact itoa_any (2 * n) w (by omega) (by omega) hT
theorem wordK_any (is : Bool) (s : List UInt8) (w : World) : Calls Tryd.prog 56 #[.bool is, .string (B8 s)] w fun e w' => e = .returned (.string (B8 (wordW is s))) ∧ Kept w w' :=
  (word_any is s w).mono fun e w' ⟨h1, h2⟩ => ⟨h1, by rw [h2]; exact Below.refl _ _⟩
theorem itoa_le {n : Int} (h : n < 256) : n ≤ 1000000 := by omega
/-- the code from a loop with its beginning on -/
def fromG (k : Nat) : Code → Option Code
  | .seq (.seq (.region i o b) x) c => if i = k then some (.seq (.seq (.region i o b) x) c) else fromG k c
  | .seq _ c => fromG k c
  | _ => none
noncomputable def codeT : Code := (Tryd.f21.body.bind (fromG 9)).getD .skip
set_option maxRecDepth 1000000 in
set_option maxHeartbeats 16000000 in
theorem textB {u0 u2 u8 u9 u10 u11 u12 u13 u14 u15 u16 u17 u18 u19 u20 u21 u22 u23 u24 u25 u26 u27 u28 u29 u30 u31 u32 u33 u34 u35 u36 u37 u38 u39 u40 u41 u42 u43 u44 u45 u46 u47 u48 u49 u50 u51 u52 u53 u54 u55 u56 u57 u58 u59 u60 u61 u62 u63 u64 u65 u66 u67 u68 u69 u70 u71 u72 u73 u74 u75 u76 u77 u78 u79 u80 u81 u82 u83 u84 u85 u86 u87 u88 u89 u90 u91 u92 u93 u94 u95 u96 u97 u98 u99 u100 u101 u102 u103 u104 u105 u106 u107 u108 u109 u110 u111 u112 u113 u114 u115 u116 u117 u118 u119 u120 u121 u122 u123 u124 u125 u126 u127 u128 u129 u130 u131 u132 u133 u134 u135 u136 u137 u138 u139 u140 u141 u142 u143 u144 u145 u146 u147 u148 u149 u150 u151 u152 u153 u154 u155 u156 u157 u158 u159 u160 u161 u162 u163 u164 u165 u166 u167 u168 u169 u170 u171 u172 u173 u174 u175 u176 u177 u178 u179 u180 u181 u182 u183 u184 u185 u186 : Value} {w W X0 : World} {c0 b q p n cap : Nat} {D : CfgD} {L : List (List Alt)} {A : Option Addr} (hC : CfgIs w (low w.heap.size) ⟨D, L⟩ A cap) (hn : L.length = n) (hsz : 9 + sumC L ≤ 4096) (hcc : CheckC ⟨D, L⟩) (hd : D.ok) (hTW : Tabs W) (hTw : Tabs w) (hkW : Kept w W)
    (h3 : Three b W c0 q p) (hW0 : W.heap[c0]? = some (.cells #[.int .u16 D.total, .int .u8 D.ifs, .int .u8 D.number, .int .u8 D.text, .bool D.self, .bool D.wake, .int .u8 D.power, .slice A n cap] 32 (0, 0))) (hWq : W.heap[q]? = some (.cells #[.func (.func 55) #[] #[]] 63 (0, 0))) (hWp : W.heap[p]? = some (.cells #[.func (.func 56) #[] #[]] 118 (0, 0))) (hC0 : w.heap.size < b) (hbuf : bufOf b W = none)
    (hB0 : IsB b (lineW (cfgW D)) X0) (ha0 : Adv W.heap.size b W X0) (hcl : (lineW (cfgW D)).length ≤ 400) (hts : textS ⟨D, L⟩ = textL ⟨D, L⟩)
    :
    Code.wp Tryd.prog codeT (bodyPost Tryd.prog Tryd.f21 fun e w' => e = .returned (.string (B8 (textS ⟨D, L⟩))) ∧ Kept w w') ⟨#[u0, .pointer (some ⟨c0, 0, none⟩), u2, .pointer (some ⟨b, 0, none⟩), .func (.func 50) #[] #[.pointer (some ⟨b, 0, none⟩)], .pointer (some ⟨q, 0, none⟩), .pointer (some ⟨p, 0, none⟩), .func (.func 57) #[] #[.pointer (some ⟨p, 0, none⟩), .pointer (some ⟨q, 0, none⟩)], u8, u9, u10, u11, u12, u13, u14, u15, u16, u17, u18, u19, u20, u21, u22, u23, u24, u25, u26, u27, u28, u29, u30, u31, u32, u33, u34, u35, u36, u37, u38, u39, u40, u41, u42, u43, u44, u45, u46, u47, u48, u49, u50, u51, u52, u53, u54, u55, u56, u57, u58, u59, u60, u61, u62, u63, u64, u65, u66, u67, u68, u69, u70, u71, u72, u73, u74, u75, u76, u77, u78, u79, u80, u81, u82, u83, u84, u85, u86, u87, u88, u89, u90, u91, u92, u93, u94, u95, u96, u97, u98, u99, u100, u101, u102, u103, u104, u105, u106, u107, u108, u109, u110, u111, u112, u113, u114, u115, u116, u117, u118, u119, u120, u121, u122, u123, u124, u125, u126, u127, u128, u129, u130, u131, u132, u133, u134, u135, u136, u137, u138, u139, u140, u141, u142, u143, u144, u145, u146, u147, u148, u149, u150, u151, u152, u153, u154, u155, u156, u157, u158, u159, u160, u161, u162, u163, u164, u165, u166, u167, u168, u169, u170, u171, u172, u173, u174, u175, u176, u177, u178, u179, u180, u181, u182, u183, u184, u185, u186], []⟩ X0 := by
  conv => arg 2; whnf
  have hcm := hC.cap
  have hnc := hC.len
  simp only at hnc
  rw [hn] at hnc
  unfold maxLen at hcm
  have hcq := cell_heap hWq (o := 0) rfl
  have hcp := cell_heap hWp (o := 0) rfl
  have hWX0 : X0.heap[c0]? = some (.cells #[.int .u16 D.total, .int .u8 D.ifs, .int .u8 D.number, .int .u8 D.text, .bool D.self, .bool D.wake, .int .u8 D.power, .slice A n cap] 32 (0, 0)) := (ha0.block c0 h3.ha.1 h3.ha.2.1 h3.ha.2.2).trans hW0
  have e7 := cell_heap hWX0 (o := 7) rfl
  have l0 := heap_lt hWX0
  have HC := hide hC
  have Hn := hide hn
  have Hts := hide hts
  have Hcc := hide hcc
  have HTW := hide hTW
  have HTw := hide hTw
  have HkW := hide hkW
  have H3 := hide h3
  have HB0 := hide hB0
  have Ha0 := hide ha0
  have Hbuf := hide hbuf
  have Hval := hide hcc.valid.alts
  have hbW : ∀ X, Adv W.heap.size b W X → Kept w X := fun X h => ⟨h.os.trans hkW.os, h.tape.trans hkW.tape, h.output.trans hkW.output, Nat.le_trans hkW.size h.size, fun k hk => (h.block k (Nat.lt_of_lt_of_le hk hkW.size) (by omega) (by rw [hbuf]; simp)).trans (hkW.block k hk)⟩
  have HbW := hide hbW
  have HWq := hide hWq
  have HWp := hide hWp
  clear hC hn hts hcc hTW hTw hkW h3 hW0 hWq hWp hB0 ha0 hWX0 hbuf hbW
  go_wp2_with fail
  go_loopg [70] n (fun g s70 wr => ∃ i : Nat, i + g = n ∧ s70 = .int .i64 i ∧ IsB b (lineW (cfgW D) ++ (L.take i).flatMap ifText) wr ∧ Adv W.heap.size b W wr ∧ (lineW (cfgW D) ++ (L.take i).flatMap ifText).length ≤ 400 + 400 * sumC (L.take i))
  case atStart => exact ⟨0, by omega, rfl, by simpa using HB0.out, Ha0.out, by simp; omega⟩
  case round =>
    obtain ⟨i, hi, rfl, hst, hav, hbl⟩ := hrel
    have Hi := hide hi
    have hkw := HbW.out _ hav
    clear hi
    by_cases hlt : i < n
    case neg =>
      have hge : (n : Int) ≤ (i : Int) := by omega
      have htk : L.take i = L := List.take_of_length_le (by have := Hn.out; omega)
      rw [htk] at hst
      have hfin : textL ⟨D, L⟩ = lineW (cfgW D) ++ L.flatMap ifText := rfl
      rw [← hfin] at hst
      have hstr := Any.Builder_String_any { laysJoin with } laysExtra b b (textL ⟨D, L⟩) wr hst (by have := hst.lt; omega)
      change Calls Tryd.prog 59 _ _ _ at hstr
      have Hav := hide hav
      have Hst := hide hst
      clear htk hfin hst hbl hav
      go_wp2_with (go_at_call 59; refine hstr.mono ?_; rintro e w9 ⟨rfl, hb9⟩)
      go_ret
      exact ⟨by rw [Hts.out]; rfl, hkw.trans (hb9.mono (by omega))⟩
    case pos =>
    obtain ⟨x, b1, off, A', c', hx, rfl, hbl', x0, hxc, hcm', hs⟩ := if_at HC.out hkw (i := i) (by show i < L.length; rw [Hn.out]; exact hlt)
    have hmem := List.mem_of_getElem? hx
    have h2 := sumC_take (l := L) (i := i) hx
    have h3 := sumC_le L (i + 1)
    have hfm := flatMap_takeU ifText (l := L) hx
    have Hva := hide (Hval.out x hmem)
    obtain ⟨m, hm⟩ : ∃ m, x.length = m := ⟨_, rfl⟩
    have h4 := len_le_sumIf x
    rw [hm] at x0 hxc hs h4
    have hi0 : (0 : Int) ≤ (i : Int) := by omega
    have hlt' : (i : Int) < (n : Int) := by omega
    have hwi : IntKind.i64.wrap ((i : Int) + 1) = ((i + 1 : Nat) : Int) := by rw [IntKind.wrap_i64]; omega
    unfold maxLen at hcm'
    obtain ⟨bs, hbs⟩ : ∃ bs, lineW (cfgW D) ++ (L.take i).flatMap ifText = bs := ⟨_, rfl⟩
    rw [hbs] at hst hbl
    obtain ⟨P, hP⟩ : ∃ P, 400 + 400 * sumC (L.take i) = P := ⟨_, rfl⟩
    rw [hP] at hbl
    have hPx : P + 400 * sumIf x ≤ 2000000 := by omega
    have Hbs := hide hbs
    have Hfm := hide hfm
    have Hm := hide hm
    have HP := hide hP
    have H2 := hide h2
    have Hst := hide hst
    have Hav := hide hav
    clear hx hmem h2 h3 hfm hm hbs hst hP hav
    go_wp2_with fail
    obtain ⟨wo, rfl⟩ : ∃ wo, wo = wr := ⟨_, rfl⟩
    obtain ⟨go, rfl⟩ : ∃ go, go = gk := ⟨_, rfl⟩
    refine wp_at (fun Y => IsB b bs Y ∧ Adv W.heap.size b W Y) ⟨Hst.out.kept (by go_grown), Hav.out.trans ((Adv.of (show Kept wo _ from by go_grown) Hst.out.lt).mono Hav.out.size)⟩ (fun Y0 hY0 => ?_)
    obtain ⟨hY0, hV0⟩ := hY0
    go_loopg [77] m (fun g s77 wr => ∃ j : Nat, j + g = m ∧ s77 = .int .i64 j ∧ IsB b (bs ++ (x.take j).flatMap altText) wr ∧ Adv W.heap.size b W wr ∧ (bs ++ (x.take j).flatMap altText).length ≤ P + 400 * sumIf (x.take j))
    case atStart => exact ⟨0, by omega, rfl, by simpa using hY0, hV0, by simp; omega⟩
    case round =>
      obtain ⟨j, hj, rfl, hst, hav, hbj⟩ := hrel
      have Hj := hide hj
      clear hj
      have hkw2 := HbW.out _ hav
      by_cases hlj : j < m
      case neg =>
        have hge : (m : Int) ≤ (j : Int) := by omega
        have htk : x.take j = x := List.take_of_length_le (by have := Hm.out; omega)
        rw [htk] at hst hbj
        have Hst2 := hide hst
        have Hav2 := hide hav
        have Hbj := hide hbj
        clear hst htk hav hbj
        go_wp2_with fail
        go_roundg (go - 1)
        case measure => have := Hi.out; omega
        case rel =>
          refine ⟨i + 1, by have := Hi.out; omega, by first | rfl | go_num, ?_, Hav2.out, ?_⟩
          · have h1 := Hst2.out
            rw [Hfm.out, ← List.append_assoc, Hbs.out]
            exact h1
          · rw [Hfm.out, ← List.append_assoc, Hbs.out]
            have := H2.out
            have := HP.out
            have h5 : (bs ++ ifText x).length ≤ P + 400 * sumIf x := Hbj.out
            omega
      case pos =>
      obtain ⟨a, b2, off2, X, cx, E, ce, ha, rfl, hbl2, hcells, hdo, q1, q2, q3, q4, q5, q6⟩ := alt_at hs hkw2 hlj
      have hamem := List.mem_of_getElem? ha
      obtain ⟨pl, hpl⟩ := alt_good (Hva.out a hamem)
      have hsum := sumIf_take ha
      have hsle := sumIf_le x (j + 1)
      have hfm2 := flatMap_takeU altText ha
      have hasz : altSize a = 9 + a.extra.length + 7 * a.eps.length := rfl
      unfold maxLen at q2 q4
      have y0 := hcells 0 _ rfl
      rw [Nat.add_zero] at y0
      have y1 := hcells 1 _ rfl
      have y2 := hcells 2 _ rfl
      have y3 := hcells 3 _ rfl
      have y4 := hcells 4 _ rfl
      have y5 := hcells 5 _ rfl
      have y6 := hcells 6 _ rfl
      have y7 := hcells 7 _ rfl
      have y8 := hcells 8 _ rfl
      have hj0 : (0 : Int) ≤ (j : Int) := by omega
      have hlj' : (j : Int) < (m : Int) := by omega
      have hwj : IntKind.i64.wrap ((j : Int) + 1) = ((j + 1 : Nat) : Int) := by rw [IntKind.wrap_i64]; omega
      obtain ⟨bs1, hbs1⟩ : ∃ bs1, bs ++ (x.take j).flatMap altText = bs1 := ⟨_, rfl⟩
      rw [hbs1] at hst hbj
      obtain ⟨T, hT⟩ : ∃ T, P + 400 * sumIf (x.take j) = T := ⟨_, rfl⟩
      rw [hT] at hbj
      have hTa : T + 400 * (9 + a.extra.length + 7 * a.eps.length) ≤ 2000000 := by omega
      have Hbs1 := hide hbs1
      have Hfm2 := hide hfm2
      have Hsum := hide hsum
      have Hasz := hide hasz
      have HT := hide hT
      have Hst1 := hide hst
      have Hav1 := hide hav
      have Hpl := hide hpl
      clear hcells hsum hsle hfm2 hasz hbs1 hT hst ha hav hpl hamem
      go_upto_region 15 with (fail)
      refine wp_at (fun Y => Y.heap[wr.heap.size]? = some (.cells #[.int .u8 a.d.num, .int .u8 a.d.alt, .int .u8 a.d.eps, .int .u8 a.d.cls, .int .u8 a.d.sub, .int .u8 a.d.proto, .int .u8 a.d.text, .slice X a.extra.length cx, .slice E a.eps.length ce] 56 (0, 0)) ∧ IsB b bs1 Y ∧ Adv W.heap.size b W Y ∧ Kept wr Y) ⟨heap_at _ rfl, Hst1.out.kept (by go_grown), Hav1.out.trans ((Adv.of (show Kept wr _ from by go_grown) Hst1.out.lt).mono Hav1.out.size), by go_grown⟩ (fun Y1 hY1 => ?_)
      obtain ⟨hA1, hs1, hv1, hkr1⟩ := hY1
      obtain ⟨AB, hABd⟩ : ∃ AB, wr.heap.size = AB := ⟨_, rfl⟩
      rw [hABd] at hA1
      simp only [hABd]
      have hl1 := heap_lt hA1
      have z0 := cell_heap hA1 (o := 0) rfl
      have z1 := cell_heap hA1 (o := 1) rfl
      have z2 := cell_heap hA1 (o := 2) rfl
      have z3 := cell_heap hA1 (o := 3) rfl
      have z4 := cell_heap hA1 (o := 4) rfl
      have z5 := cell_heap hA1 (o := 5) rfl
      have z6 := cell_heap hA1 (o := 6) rfl
      have z7 := cell_heap hA1 (o := 7) rfl
      have z8 := cell_heap hA1 (o := 8) rfl
      have hW0q := (hv1.block q H3.out.hq.1 H3.out.hq.2.1 H3.out.hq.2.2).trans HWq.out
      have hW0p := (hv1.block p H3.out.hp.1 H3.out.hp.2.1 H3.out.hp.2.2).trans HWp.out
      have hcq := cell_heap hW0q (o := 0) rfl
      have hcp := cell_heap hW0p (o := 0) rfl
      have lq := heap_lt hW0q
      have lp := heap_lt hW0p
      have hbAB : b < AB := by rw [← hABd]; exact Hst1.out.lt
      have h3 : Three b Y1 AB q p := ⟨⟨hl1, by omega, hs1.not hA1 (by decide)⟩, ⟨lq, H3.out.hq.2.1, hs1.not hW0q (by decide)⟩, ⟨lp, H3.out.hp.2.1, hs1.not hW0p (by decide)⟩⟩
      have hT2 : ∀ X, Adv W.heap.size b W X → Tabs X := fun X h => HTW.out.of (h.block 1 HTW.out.lt (by have := HTw.out.lt; omega) (by rw [Hbuf.out]; simp))
      have HT2 := hide hT2
      have HTY1 := hide (hT2 _ hv1)
      have Hdo := hide hdo
      obtain ⟨⟨d0, d1⟩, ⟨d2, d3⟩, d45, ⟨d6, d7⟩, ⟨d8, d9⟩, ⟨d10, d11⟩, d12⟩ := hdo
      have hil := ifLine_len Hdo.out
      have hlen1 : bs1.length + (lineW (ifW a.d)).length ≤ 100000000 := by omega
      have Hv1 := hide hv1
      have H3a := hide h3
      have HA1 := hide hA1
      have Hs1 := hide hs1
      clear y0 y1 y2 y3 y4 y5 y6 y7 y8 hT2 hs1 hv1 hA1 hABd d45
      have hAA : Kept Y1 Y1 := Below.refl _ _
      go_region_held3 (fun w' => (∀ k o, (k = AB ∨ k = q ∨ k = p) → w'.cell? ⟨k, o, none⟩ = Y1.cell? ⟨k, o, none⟩) ∧ Y1.heap.size ≤ w'.heap.size) (first | assumption | exact tri_start | exact hS7 | exact tri_keep h3 (by assumption) hk | exact tri_alloc h3 (by assumption)) (first
        | (go_at_call 55; (first | refine (itoaw_any _ _ (by first | omega | exact (addrS_small _).1) (by first | omega | exact itoa_le (addrS_small _).2) (by first | exact HTY1.out.kept hAA | exact (HTY1.out.kept hAA).of rfl)).mono ?_ | refine (itoaD_any _ _ (by assumption) (by assumption) (by first | exact HTY1.out.kept hAA | exact (HTY1.out.kept hAA).of rfl)).mono ?_); rintro e w5 ⟨rfl, hk⟩; have hAA : Kept Y1 w5 := (by first | exact hAA.trans' hk | exact hAA.trans' (kept_undrew hk)))
        | (go_at_call 57; refine (textw_S (W := Y1) (a := AB) (q := q) (p := p) (b := b) (by first | assumption | exact tri_start) h3 hcq hcp (by assumption) (by first | exact HTY1.out.kept hAA | exact (HTY1.out.kept hAA).of rfl)).mono ?_; rintro e w5 ⟨rfl, hk⟩; have hAA : Kept Y1 w5 := (by first | exact hAA.trans' hk | exact hAA.trans' (kept_undrew hk)))
        | (go_at_call 50; refine (line_S 8 (ifW a.d) Hs1.out hAA (by rfl) rfl (by decide) hlen1).mono ?_; rintro e w7 ⟨rfl, hB7, ha7⟩; have hS7 := tri_adv h3 ha7))
      have hvw7 : Adv W.heap.size b W w7 := Hv1.out.trans (ha7.mono Hv1.out.size)
      have hA7 := (ha7.block AB H3a.out.ha.1 H3a.out.ha.2.1 H3a.out.ha.2.2).trans HA1.out
      have hkw7 := HbW.out _ hvw7
      obtain ⟨bs2, hbs2⟩ : ∃ bs2, bs1 ++ lineW (ifW a.d) = bs2 := ⟨_, rfl⟩
      rw [hbs2] at hB7
      have hl2 : bs2.length ≤ T + 400 := by rw [← hbs2, List.length_append]; omega
      have Hbs2 := hide hbs2
      have l7 := heap_lt hA7
      have z0 := cell_heap hA7 (o := 0) rfl
      have z1 := cell_heap hA7 (o := 1) rfl
      have z2 := cell_heap hA7 (o := 2) rfl
      have z3 := cell_heap hA7 (o := 3) rfl
      have z4 := cell_heap hA7 (o := 4) rfl
      have z5 := cell_heap hA7 (o := 5) rfl
      have z6 := cell_heap hA7 (o := 6) rfl
      have z7 := cell_heap hA7 (o := 7) rfl
      have z8 := cell_heap hA7 (o := 8) rfl
      have hcxm : cx ≤ maxLen := by unfold maxLen; omega
      have hdv := divide_some X a.extra.length cx a.extra w7 q1 hcxm (q5.kept hkw7) Hpl.out.div
      obtain ⟨g1, g2, g3⟩ := divide_inv Hpl.out.div
      have g4 := pieces_len pl fun p hp => (g2 p hp).1
      rw [g1] at g4
      have Hg2 := hide g2
      have Hvw7 := hide hvw7
      have HA7 := hide hA7
      have HB7 := hide hB7
      clear hvw7 hA7 hkw7 hbs2 hB7 ha7 hS7 hAA h3 hcq hcp lq lp hl1 hlen1 hil g1 g2 hbl hPx
      go_upto_region 17 with (go_at_call 32; refine hdv.mono ?_; rintro e w8 ⟨⟨A3, k3, rfl, hsl3⟩, hk8⟩)
      have Hkl := hide (show k3 = pl.length from hsl3.1.symm)
      have hk3e : k3 ≤ a.extra.length := by have := Hkl.out; omega
      have hB8 := HB7.out.kept hk8
      have hv8 : Adv W.heap.size b W w8 := Hvw7.out.trans ((Adv.of hk8 HB7.out.lt).mono Hvw7.out.size)
      have hA8 := heap_kept hk8 HA7.out
      have hb8 : b < w7.heap.size := HB7.out.lt
      have hsz8 := hk8.size
      have hbuf8 : ∀ k, bufOf b w8 = some k → k < w7.heap.size := fun k e => by
        rw [bufOf_congr (hk8.block b hb8)] at e
        exact (HB7.out.buf e).2.1
      have hsame : ∀ Y, Adv w8.heap.size b w8 Y → ∀ k o, w7.heap.size ≤ k → k < w8.heap.size → Y.cell? ⟨k, o, none⟩ = w8.cell? ⟨k, o, none⟩ := fun Y h k o h1 h2 => World.cell?_of_block (a := ⟨k, o, none⟩) (h.block k h2 (by omega) (fun e => by have := hbuf8 k e; omega))
      have Hsame := hide hsame
      have Hbuf8 := hide hbuf8
      have Hsl3 := hide hsl3
      have HA8 := hide hA8
      have HB8 := hide hB8
      have Hv8 := hide hv8
      clear hsame hbuf8 hsl3 hA8 hB8 hv8 hdv hk8 z0 z1 z2 z3 z4 z5 z6 z7 z8 l7
      go_wp2_with fail
      obtain ⟨w2o, rfl⟩ : ∃ w2o, w2o = wr := ⟨_, rfl⟩
      obtain ⟨g4, rfl⟩ : ∃ g4, g4 = gk := ⟨_, rfl⟩
      go_loopg [127] k3 (fun g s127 wr => ∃ k : Nat, k + g = k3 ∧ s127 = .int .i64 k ∧ IsB b (bs2 ++ exText (pl.take k)) wr ∧ Adv w8.heap.size b w8 wr ∧ (bs2 ++ exText (pl.take k)).length ≤ T + 400 + 400 * k)
      case atStart => exact ⟨0, by omega, rfl, by simpa [exText] using HB8.out, Adv.refl, by simp [exText]; omega⟩
      case round =>
        obtain ⟨k, hk, rfl, hst, hav, hbk⟩ := hrel
        have Hk := hide hk
        clear hk
        by_cases hlk : k < k3
        case pos =>
          have hslr : Sl u8T.slice wr (fun b => w7.heap.size ≤ b ∧ b < w8.heap.size) A3 k3 pl := Hsl3.out.keep (fun _ h => h) (fun k o h => Hsame.out _ hav k o h.1 h.2)
          obtain ⟨pc, rb, roff, cs, hpc, rfl, hrb, hrel', hce⟩ := hslr.at hlk
          obtain ⟨A5, c5, rfl, hc51, hc52, hs5⟩ := hrel'
          have hpm := List.mem_of_getElem? hpc
          have hp2 := (Hg2.out pc hpm).1
          obtain ⟨b5, off5, rfl, hb5, hcell⟩ := sl_bytes (hs5.keep (fun g hg => Nat.lt_of_lt_of_le hg.2 hav.size) (fun _ _ _ => rfl)) (by omega)
          have hb5F : w7.heap.size ≤ b5 ∧ b5 < w8.heap.size := by
            obtain ⟨_, b3, off3, _, _, e3, h3', _⟩ := hs5.at (k := 0) (by omega)
            injection e3 with e3
            injection e3 with e3 _ _
            subst e3
            exact h3'
          have y0 := hcell 0 (by omega)
          have y1 := hcell 1 (by omega)
          rw [Nat.add_zero] at y0
          have x0' : wr.cell? ⟨rb, roff + k, none⟩ = some (.slice (some ⟨b5, off5, none⟩) pc.length c5) := by
            have h0 := hce 0 _ rfl
            simpa [Ty.slice] using h0
          have k80 := sl_byte8 hs5 0
          have k81 := sl_byte8 hs5 1
          have hfm3 := flatMap_takeU (fun b => lineW (exW b)) hpc
          have hel := exLine_len hs5.all8
          obtain ⟨v0, hv0⟩ : ∃ v0, byteAt pc 0 = v0 := ⟨_, rfl⟩
          obtain ⟨v1, hv1'⟩ : ∃ v1, byteAt pc 1 = v1 := ⟨_, rfl⟩
          have hex : exW pc = [sExtra, Lib.itoa v1, Lib.itoa v0] := by unfold exW; rw [hv0, hv1']
          rw [hv0] at y0 k80
          rw [hv1'] at y1 k81
          rw [hex] at hel
          obtain ⟨k800, k801⟩ := k80
          obtain ⟨k810, k811⟩ := k81
          obtain ⟨bs3, hbs3⟩ : ∃ bs3, bs2 ++ exText (pl.take k) = bs3 := ⟨_, rfl⟩
          rw [hbs3] at hst hbk
          have hk0 : (0 : Int) ≤ (k : Int) := by omega
          have hlk' : (k : Int) < (k3 : Int) := by omega
          obtain ⟨pn, hpn⟩ : ∃ pn, pc.length = pn := ⟨_, rfl⟩
          rw [hpn] at x0' hp2
          have hpl1 : (1 : Int) < (pn : Int) := by omega
          have hpl0 : (0 : Int) < (pn : Int) := by omega
          have hpn0 : 0 < pn := by omega
          have hwk : IntKind.i64.wrap ((k : Int) + 1) = ((k + 1 : Nat) : Int) := by rw [IntKind.wrap_i64]; omega
          have hvr : Adv W.heap.size b W wr := Hv8.out.trans (hav.mono Hv8.out.size)
          have hWrq := (hvr.block q H3.out.hq.1 H3.out.hq.2.1 H3.out.hq.2.2).trans HWq.out
          have hWrp := (hvr.block p H3.out.hp.1 H3.out.hp.2.1 H3.out.hp.2.2).trans HWp.out
          have hcq := cell_heap hWrq (o := 0) rfl
          have hcp := cell_heap hWrp (o := 0) rfl
          have lq := heap_lt hWrq
          have lp := heap_lt hWrp
          have lrb : rb < wr.heap.size := Nat.lt_of_lt_of_le hrb.2 hav.size
          have h3 : Three b wr b5 q p := ⟨⟨hb5, by omega, fun e => (hav.buf b5 e).elim (fun e2 => by have := Hbuf8.out b5 e2; omega) (fun e2 => by omega)⟩, ⟨lq, H3.out.hq.2.1, hst.not hWrq (by decide)⟩, ⟨lp, H3.out.hp.2.1, hst.not hWrp (by decide)⟩⟩
          have HTwr := hide (HT2.out _ hvr)
          have hlen3 : bs3.length + (lineW [sExtra, Lib.itoa v1, Lib.itoa v0]).length ≤ 100000000 := by omega
          have Hst3 := hide hst
          have Hav3 := hide hav
          have Hfm3 := hide hfm3
          have Hex := hide hex
          have Hbs3 := hide hbs3
          clear hpn hc51 hst hav hfm3 hex hbs3 hslr hs5 hce hcell hpm hvr hWrq hWrp hpc hv0 hv1'
          go_upto_region 20 with (fail)
          have hAA : Kept wr wr := Below.refl _ _
          go_region_held3 (fun w' => (∀ k o, (k = b5 ∨ k = q ∨ k = p) → w'.cell? ⟨k, o, none⟩ = wr.cell? ⟨k, o, none⟩) ∧ wr.heap.size ≤ w'.heap.size) (first | assumption | exact tri_start | exact hS7 | exact tri_keep h3 (by assumption) hk | exact tri_alloc h3 (by assumption)) (first
            | (go_at_call 55; (first | refine (itoaw_any _ _ (by first | omega | exact (addrS_small _).1) (by first | omega | exact itoa_le (addrS_small _).2) (by first | exact HTwr.out.kept hAA | exact (HTwr.out.kept hAA).of rfl)).mono ?_ | refine (itoaD_any _ _ (by assumption) (by assumption) (by first | exact HTwr.out.kept hAA | exact (HTwr.out.kept hAA).of rfl)).mono ?_); rintro e w5 ⟨rfl, hk⟩; have hAA : Kept wr w5 := (by first | exact hAA.trans' hk | exact hAA.trans' (kept_undrew hk)))
            | (go_at_call 50; refine (line_S 3 [sExtra, Lib.itoa v1, Lib.itoa v0] Hst3.out hAA (by rfl) rfl (by decide) hlen3).mono ?_; rintro e w7 ⟨rfl, hB9, ha9⟩; have hS7 := tri_adv h3 ha9))
          have hav9 := Hav3.out.trans (ha9.mono Hav3.out.size)
          clear hS7 hAA
          go_wp2_with fail
          go_roundg (gk - 1)
          case measure => have := Hk.out; omega
          case rel =>
            refine ⟨k + 1, by have := Hk.out; omega, by first | rfl | go_num, ?_, hav9, ?_⟩
            · unfold exText
              rw [Hfm3.out, ← List.append_assoc, Hex.out]
              have h9 := hB9
              rw [← Hbs3.out] at h9
              exact h9
            · unfold exText
              rw [Hfm3.out, ← List.append_assoc, Hex.out]
              have h9 := Hbs3.out
              unfold exText at h9
              rw [h9, List.length_append]
              omega
        case neg =>
          have htk : pl.take k = pl := List.take_of_length_le (by have := Hkl.out; omega)
          have hke : k = k3 := by have := Hk.out; omega
          have hge : (k3 : Int) ≤ (k : Int) := by omega
          rw [htk] at hst hbk
          rw [hke] at hbk
          obtain ⟨bs4, hbs4⟩ : ∃ bs4, bs2 ++ exText pl = bs4 := ⟨_, rfl⟩
          rw [hbs4] at hst hbk
          have hvr : Adv W.heap.size b W wr := Hv8.out.trans (hav.mono Hv8.out.size)
          have hA9 := (hav.block AB (heap_lt HA8.out) (by omega) (HB8.out.not HA8.out (by decide))).trans HA8.out
          have z8 := cell_heap hA9 (o := 8) rfl
          have l9 := heap_lt hA9
          obtain ⟨r, hr⟩ : ∃ r, a.eps.length = r := ⟨_, rfl⟩
          have Hr := hide hr
          rw [hr] at q3 q6 z8 hTa
          have hbT : bs4.length ≤ T + 400 + 400 * a.extra.length := by have := Hkl.out; omega
          have Hbs4 := hide hbs4
          have HB9 := hide hst
          have Hv9 := hide hvr
          clear htk hke hst hav hbk hvr hA9 hr hbs4
          go_wp2_with fail
          obtain ⟨w3o, rfl⟩ : ∃ w3o, w3o = wr := ⟨_, rfl⟩
          obtain ⟨g3, rfl⟩ : ∃ g3, g3 = gk := ⟨_, rfl⟩
          go_loopg [150] r (fun g s150 wr => ∃ e : Nat, e + g = r ∧ s150 = .int .i64 e ∧ IsB b (bs4 ++ epText (a.eps.take e)) wr ∧ Adv W.heap.size b W wr ∧ (bs4 ++ epText (a.eps.take e)).length ≤ T + 400 + 400 * a.extra.length + 400 * e)
          case atStart => exact ⟨0, by omega, rfl, by simpa [epText] using HB9.out, Hv9.out, by simp [epText]; omega⟩
          case round =>
            obtain ⟨ee, he, rfl, hst, hav, hbe⟩ := hrel
            have He := hide he
            clear he
            by_cases hle : ee < r
            case pos =>
              have hkw3 := HbW.out _ hav
              obtain ⟨ep, be, offe, cse, hep, rfl, hbe', hrel', hce⟩ := q6.at hle
              obtain ⟨rfl, hdo3⟩ : cse = ep.cells ∧ ep.ok := hrel'
              have hem := List.mem_of_getElem? hep
              have hokp := Hpl.out.eps ep hem
              obtain ⟨_, _, _, _, hkind⟩ := okEp_num hokp
              have hfm4 := flatMap_takeU (fun e => lineW (epW e)) hep
              have hel := epLine_len hdo3
              have hbe2 := Nat.lt_of_lt_of_le hbe' hkw3.size
              have y := fun (o : Nat) v (hv : ep.cells[o]? = some v) => (hkw3.cell (p := ⟨be, offe + ee * 5 + o, none⟩) hbe').trans (hce o v hv)
              have y0 := y 0 _ rfl
              rw [Nat.add_zero] at y0
              have y1 := y 1 _ rfl
              have y2 := y 2 _ rfl
              have y3 := y 3 _ rfl
              have y4 := y 4 _ rfl
              have hp0 : (0 : Int) ≤ (ee : Int) := by omega
              have hlp' : (ee : Int) < (r : Int) := by omega
              have hwp : IntKind.i64.wrap ((ee : Int) + 1) = ((ee + 1 : Nat) : Int) := by rw [IntKind.wrap_i64]; omega
              obtain ⟨bs5, hbs5⟩ : ∃ bs5, bs4 ++ epText (a.eps.take ee) = bs5 := ⟨_, rfl⟩
              rw [hbs5] at hst hbe
              have hlen5 : bs5.length + (lineW (epW ep)).length ≤ 100000000 := by omega
              have Hst5 := hide hst
              have Hav5 := hide hav
              have Hfm4 := hide hfm4
              have Hbs5 := hide hbs5
              have Hdo3 := hide hdo3
              have Hkind := hide hkind
              clear y hst hav hfm4 hbs5 hep hem hokp hkw3 hbe' hkind hce
              go_upto_region 25 with (fail)
              refine wp_at (fun Y => Y.heap[wr.heap.size]? = some (.cells #[.int .u8 ep.num, .bool ep.inn, .int .u8 ep.kind, .int .u16 ep.max, .int .u8 ep.ivl] 59 (0, 0)) ∧ IsB b bs5 Y ∧ Adv W.heap.size b W Y) ⟨heap_at _ rfl, Hst5.out.kept (by go_grown), Hav5.out.trans ((Adv.of (show Kept wr _ from by go_grown) Hst5.out.lt).mono Hav5.out.size)⟩ (fun Y7 hY7 => ?_)
              obtain ⟨hE7, hs7, hv7⟩ := hY7
              obtain ⟨EB, hEBd⟩ : ∃ EB, wr.heap.size = EB := ⟨_, rfl⟩
              have hbEB : b < EB := by rw [← hEBd]; exact Hst5.out.lt
              rw [hEBd] at hE7
              simp only [hEBd]
              have l7 := heap_lt hE7
              have z2' := cell_heap hE7 (o := 2) rfl
              have hkc : (Y7.alloc (.cells #[.string ⟨#[]⟩, .string ⟨#[105, 115, 111, 99, 104, 114, 111, 110, 111, 117, 115]⟩, .string ⟨#[98, 117, 108, 107]⟩, .string ⟨#[105, 110, 116, 101, 114, 114, 117, 112, 116]⟩] 9)).cell? ⟨Y7.heap.size, ep.kind.toNat, none⟩ = some (.string (B8 (kindN ep.kind))) := kind_cell (heap_at _ rfl) Hkind.out
              have hk1 : (0 : Int) ≤ ep.kind := by rcases Hkind.out with h | h | h <;> omega
              have hk4 : ep.kind < 4 := by rcases Hkind.out with h | h | h <;> omega
              have HE7 := hide hE7
              have Hs7 := hide hs7
              have Hv7 := hide hv7
              clear y0 y1 y2 y3 y4 hE7 hs7 hv7 hEBd
              go_upto_region 26 with (fail)
              refine wp_at (fun Y => Y.heap[EB]? = some (.cells #[.int .u8 ep.num, .bool ep.inn, .int .u8 ep.kind, .int .u16 ep.max, .int .u8 ep.ivl] 59 (0, 0)) ∧ IsB b bs5 Y ∧ Adv W.heap.size b W Y) ⟨heap_past HE7.out, Hs7.out.kept (by go_grown), Hv7.out.trans ((Adv.of (show Kept Y7 _ from by go_grown) Hs7.out.lt).mono Hv7.out.size)⟩ (fun Y8 hY8 => ?_)
              obtain ⟨hE8, hs8, hv8⟩ := hY8
              have e0 := cell_heap hE8 (o := 0) rfl
              have e1 := cell_heap hE8 (o := 1) rfl
              have e2 := cell_heap hE8 (o := 2) rfl
              have e3 := cell_heap hE8 (o := 3) rfl
              have e4 := cell_heap hE8 (o := 4) rfl
              have hW8q := (hv8.block q H3.out.hq.1 H3.out.hq.2.1 H3.out.hq.2.2).trans HWq.out
              have hW8p := (hv8.block p H3.out.hp.1 H3.out.hp.2.1 H3.out.hp.2.2).trans HWp.out
              have hcq := cell_heap hW8q (o := 0) rfl
              have hcp := cell_heap hW8p (o := 0) rfl
              have lq := heap_lt hW8q
              have lp := heap_lt hW8p
              have le8 := heap_lt hE8
              have h3 : Three b Y8 EB q p := ⟨⟨le8, by omega, hs8.not hE8 (by decide)⟩, ⟨lq, H3.out.hq.2.1, hs8.not hW8q (by decide)⟩, ⟨lp, H3.out.hp.2.1, hs8.not hW8p (by decide)⟩⟩
              have HTY8 := hide (HT2.out _ hv8)
              have hadr := fun w' => addr_any ep w' Hdo3.out
              unfold EpD.cells at hadr
              obtain ⟨⟨p0, p1⟩, ⟨p2, p3⟩, ⟨p4, p5⟩, ⟨p6, p7⟩⟩ := hdo3
              have hws : ∀ w', Calls Tryd.prog 56 #[.bool (decide (0 < ep.ivl)), .string (B8 (Lib.itoa ep.ivl))] w' fun e w2 => e = .returned (.string (B8 (wordW (decide (0 < ep.ivl)) (Lib.itoa ep.ivl)))) ∧ Kept w' w2 := fun w' => wordK_any _ _ w'
              have hww := hws
              have Hs8 := hide hs8
              have Hv8' := hide hv8
              clear hs8 hv8 hE8 hW8q hW8p hkc hk1 hk4 z2' l7
              have hAA : Kept Y8 Y8 := Below.refl _ _
              go_region_held3 (fun w' => (∀ k o, (k = EB ∨ k = q ∨ k = p) → w'.cell? ⟨k, o, none⟩ = Y8.cell? ⟨k, o, none⟩) ∧ Y8.heap.size ≤ w'.heap.size) (first | assumption | exact tri_start | exact hS7 | exact tri_keep h3 (by assumption) hk | exact tri_alloc h3 (by assumption)) (first
                | (go_at_call 55; (first | refine (itoaw_any _ _ (by first | omega | exact (addrS_small _).1) (by first | omega | exact itoa_le (addrS_small _).2) (by first | exact HTY8.out.kept hAA | exact (HTY8.out.kept hAA).of rfl)).mono ?_ | refine (itoaD_any _ _ (by assumption) (by assumption) (by first | exact HTY8.out.kept hAA | exact (HTY8.out.kept hAA).of rfl)).mono ?_); rintro e w5 ⟨rfl, hk⟩; have hAA : Kept Y8 w5 := (by first | exact hAA.trans' hk | exact hAA.trans' (kept_undrew hk)))
                | (go_at_call 58; refine (hadr _).mono ?_; rintro e w5 ⟨rfl, hk⟩; have hAA : Kept Y8 w5 := (by first | exact hAA.trans' hk | exact hAA.trans' (kept_undrew hk)))
                | (go_at_call 56; (first | refine (hws _).mono ?_ | refine (hww _).mono ?_); rintro e w5 ⟨rfl, hk⟩; have hAA : Kept Y8 w5 := (by first | exact hAA.trans' hk | exact hAA.trans' (kept_undrew hk)))
                | (go_at_call 50; refine (line_S 5 (epW ep) Hs8.out hAA (by rfl) rfl (by decide) hlen5).mono ?_; rintro e w7 ⟨rfl, hB11, ha11⟩; have hS7 := tri_adv h3 ha11))
              have hav11 := Hv8'.out.trans (ha11.mono Hv8'.out.size)
              clear hS7 hAA hws hww
              go_wp2_with fail
              go_roundg (gk - 1)
              case measure => have := He.out; omega
              case rel =>
                refine ⟨ee + 1, by have := He.out; omega, by first | rfl | go_num, ?_, hav11, ?_⟩
                · unfold epText
                  rw [Hfm4.out, ← List.append_assoc]
                  have h9 := hB11
                  rw [← Hbs5.out] at h9
                  exact h9
                · unfold epText
                  rw [Hfm4.out, ← List.append_assoc]
                  have h9 := Hbs5.out
                  unfold epText at h9
                  rw [h9, List.length_append]
                  omega
            case neg =>
              have hge : (r : Int) ≤ (ee : Int) := by omega
              have htk : a.eps.take ee = a.eps := List.take_of_length_le (by have := Hr.out; omega)
              have hpr : ee = r := by have := He.out; omega
              rw [htk] at hst hbe
              rw [hpr] at hbe
              have hall : altText a = lineW (ifW a.d) ++ exText pl ++ epText a.eps := by unfold altText; rw [Hpl.out.div]; rfl
              have hfin : bs ++ (x.take (j + 1)).flatMap altText = bs4 ++ epText a.eps := by
                rw [Hfm2.out, ← List.append_assoc, Hbs1.out, hall, ← List.append_assoc, ← List.append_assoc, Hbs2.out, Hbs4.out]
              have Hfin := hide hfin
              have Hst9 := hide hst
              have Hav9 := hide hav
              have Hbe := hide hbe
              clear hst htk hpr hbe hav hall hfin
              go_wp2_with fail
              go_roundg (g4 - 1)
              case measure => have := Hj.out; omega
              case rel =>
                refine ⟨j + 1, by have := Hj.out; omega, by first | rfl | go_num, ?_, Hav9.out, ?_⟩
                · rw [Hfin.out]; exact Hst9.out
                · rw [Hfin.out]
                  have := Hsum.out
                  have := Hasz.out
                  have := HT.out
                  have := Hbe.out
                  have := Hr.out
                  omega
end Go.Proofs.YtjgncofhobhjdaaDoor
