/- The law Text: its loops. Printed by gen_lu.py. -/
import Derived.Test.YtjgncofhobhjdaaDoorChecked
import Derived.Deep.RegionHeld3
import Derived.Deep.DrawnRows
import Derived.Deep.DeepCutAuto
import Derived.Deep.LoopGhost
import Derived.Outline
import Derived.Handy
import Derived.OwnWalk
import Derived.BigQuiet
import Derived.Deep.CutBlock
import Derived.Test.YtjgncofhobhjdaaDoorLrK
import Derived.Test.YtjgncofhobhjdaaDoorLqK
import Derived.Test.YtjgncofhobhjdaaDoorZqK
set_option linter.unusedVariables false
set_option linter.unusedSimpArgs false
set_option linter.unusedSectionVars false
namespace Go.Proofs.YtjgncofhobhjdaaDoor
open Go.RowKit
attribute [local go_sem ↓] Go.wp_at_zero Go.wp_at_succ

noncomputable def codeT8 : Code := (Tryd.f8.body.bind (fromG 10)).getD .skip
theorem takeFlat {α : Type} (f : α → List UInt8) {l : List α} {i : Nat} {x : α} (h : l[i]? = some x) : (l.take (i + 1)).flatMap f = (l.take i).flatMap f ++ f x := by
  obtain ⟨h1, h2⟩ := List.getElem?_eq_some_iff.1 h
  rw [List.take_succ_eq_append_getElem h1, h2, List.flatMap_append]
  simp
theorem byte_mid (A B C : List Int) (k i : Nat) (hk : A.length = k) (hi : i < B.length) : byteAt (A ++ (B ++ C)) (k + i) = byteAt B i := by
  unfold byteAt
  rw [List.getD_eq_getElem?_getD, List.getElem?_append_right (by omega), List.getElem?_append_left (by omega), hk, Nat.add_sub_cancel_left, List.getD_eq_getElem?_getD]
theorem namedW_len40 {n : Int} (h : u8k n) : (namedW n).length ≤ 40 := by
  have hl := itoa_30 h
  unfold namedW
  split
  · exact Nat.zero_le _
  · rw [List.length_append]
    have : sXText.length = 6 := rfl
    omega
set_option maxRecDepth 1000000 in
set_option maxHeartbeats 16000000 in
theorem text_rest {u0 u1 u2 u5 u6 u7 u8 u9 u10 u11 u12 u13 u14 u15 u16 u17 u18 u19 u20 u21 u22 u23 u24 u25 u26 u27 u28 u29 u30 u31 u32 u33 u34 u35 u36 u37 u38 u39 u40 u41 u42 u43 u44 u45 u46 u47 u48 u49 u50 u51 u52 u53 u54 u55 u56 u57 u58 u59 u60 u61 u62 u63 u64 u65 u66 u67 u68 u69 u70 u71 u72 u73 u74 u75 u76 u77 u78 u79 u80 u81 u82 u83 u84 u85 u86 u87 u88 u89 u90 u91 u92 u93 u94 u95 u96 u97 u98 u99 u100 u101 u102 u103 u104 u105 u106 u107 u108 u109 u110 u111 u112 u113 u114 u115 u116 u117 u118 u119 u120 u121 u122 u123 u124 u125 u126 u127 u128 u129 u130 u131 u132 u133 u134 u135 u136 u137 u138 u139 u140 u141 u142 u143 u144 u145 u146 u147 u148 u149 u150 u151 u152 u153 u154 u155 u156 u157 u158 u159 u160 u161 u162 u163 u164 u165 u166 u167 u168 u169 u170 u171 u172 u173 u174 u175 u176 u177 u178 u179 u180 u181 u182 u183 u184 u185 u186 u187 u188 u189 u190 u191 u192 u193 u194 u195 u196 u197 u198 u199 u200 u201 u202 u203 u204 u205 u206 u207 u208 u209 u210 u211 u212 u213 u214 u215 : Value} {w V X0 : World} {CB n cx : Nat} {AX : Option Addr} {D : CfgD} {IFS : List (List Alt)} (hkwV : Kept w V) (hkV0 : Kept V X0) (hT : Tabs V) (hCB : V.heap[CB]? = some (.cells #[.int .u16 D.total, .int .u8 D.ifs, .int .u8 D.number, .int .u8 D.text, .bool D.self, .bool D.wake, .int .u8 D.power, .slice AX n cx] 32 (0, 0))) (hC : CfgIs V (low V.heap.size) ⟨D, IFS⟩ AX cx)
    (hn : IFS.length = n) (hok : Cfg.ok ⟨D, IFS⟩) (hcc : CheckC ⟨D, IFS⟩) (hsz : 9 + sumC IFS ≤ 3129) (hnum : ∀ (i j : Nat) l a, IFS[i]? = some l → l[j]? = some a → a.d.num = i ∧ a.d.alt = j)
    (hlv : ∀ w', Kept w w' → Calls Tryd.prog 13 #[] w' fun e w2 => e = .returned (.bool true) ∧ Kept w' w2)
    (htxc : ∀ w', Kept V w' → Calls Tryd.prog 21 #[.agg #[.int .u16 D.total, .int .u8 D.ifs, .int .u8 D.number, .int .u8 D.text, .bool D.self, .bool D.wake, .int .u8 D.power, .slice AX n cx]] w' (fun e w2 => e = .returned (.string (B8 (textL ⟨D, IFS⟩))) ∧ Kept w' w2)) (hcl : (lawCfg D).length ≤ 400) :
    Code.wp Tryd.prog codeT8 (bodyPost Tryd.prog Tryd.f8 fun e w' => e = .returned (.bool true) ∧ Kept w w') ⟨#[u0, u1, u2, .pointer (some ⟨CB, 0, none⟩), .string (B8 (lawCfg D)), u5, u6, u7, u8, u9, u10, u11, u12, u13, u14, u15, u16, u17, u18, u19, u20, u21, u22, u23, u24, u25, u26, u27, u28, u29, u30, u31, u32, u33, u34, u35, u36, u37, u38, u39, u40, u41, u42, u43, u44, u45, u46, u47, u48, u49, u50, u51, u52, u53, u54, u55, u56, u57, u58, u59, u60, u61, u62, u63, u64, u65, u66, u67, u68, u69, u70, u71, u72, u73, u74, u75, u76, u77, u78, u79, u80, u81, u82, u83, u84, u85, u86, u87, u88, u89, u90, u91, u92, u93, u94, u95, u96, u97, u98, u99, u100, u101, u102, u103, u104, u105, u106, u107, u108, u109, u110, u111, u112, u113, u114, u115, u116, u117, u118, u119, u120, u121, u122, u123, u124, u125, u126, u127, u128, u129, u130, u131, u132, u133, u134, u135, u136, u137, u138, u139, u140, u141, u142, u143, u144, u145, u146, u147, u148, u149, u150, u151, u152, u153, u154, u155, u156, u157, u158, u159, u160, u161, u162, u163, u164, u165, u166, u167, u168, u169, u170, u171, u172, u173, u174, u175, u176, u177, u178, u179, u180, u181, u182, u183, u184, u185, u186, u187, u188, u189, u190, u191, u192, u193, u194, u195, u196, u197, u198, u199, u200, u201, u202, u203, u204, u205, u206, u207, u208, u209, u210, u211, u212, u213, u214, u215], []⟩ X0 := by
  have hcn := hC.len
  have hcm := hC.cap
  simp only at hcn
  rw [hn] at hcn
  unfold maxLen at hcm
  have htl : textL ⟨D, IFS⟩ = lawCfg D ++ IFS.flatMap ifText := by unfold textL; rw [lawCfg_eq hok.1.2.2.2.1.1]
  have HTV := hide hT
  have HCB := hide hCB
  have HCV := hide hC
  have HkwV := hide hkwV
  have Hn := hide hn
  have Hok := hide hok
  have Hcc := hide hcc
  have Hnum := hide hnum
  have Htl := hide htl
  have Hk0 := hide hkV0
  obtain ⟨TL, hTL⟩ : ∃ TL, B8 (textL ⟨D, IFS⟩) = TL := ⟨_, rfl⟩
  rw [hTL] at htxc
  have HTL := hide hTL
  clear hT hCB hC hkwV hn hok hcc hnum htl hkV0 hTL
  conv => arg 2; whnf
  go_wp2_with fail
  go_loopg [4, 5] n (fun g s4 s5 wr => ∃ (i : Nat), i + g = n ∧ s4 = .string (B8 (lawCfg D ++ (IFS.take i).flatMap ifText)) ∧ s5 = .int .i64 i ∧ Kept V wr ∧ (lawCfg D ++ (IFS.take i).flatMap ifText).length ≤ 400 + 400 * sumC (IFS.take i))
  case atStart => exact ⟨0, by omega, by simp, rfl, Hk0.out, by simp; omega⟩
  case round =>
    clear Hk0
    obtain ⟨i, hi, rfl, rfl, hkr, hlen⟩ := hrel
    have Hi := hide hi
    have hVB := heap_kept hkr HCB.out
    have d0 := cell_heap hVB (o := 0) rfl
    have d1 := cell_heap hVB (o := 1) rfl
    have d2 := cell_heap hVB (o := 2) rfl
    have d3 := cell_heap hVB (o := 3) rfl
    have d4 := cell_heap hVB (o := 4) rfl
    have d5 := cell_heap hVB (o := 5) rfl
    have d6 := cell_heap hVB (o := 6) rfl
    have d7 := cell_heap hVB (o := 7) rfl
    have lV := heap_lt hVB
    clear hi hVB
    by_cases hlt : i < n
    case neg =>
      have hge : (n : Int) ≤ (i : Int) := by omega
      have htk : IFS.take i = IFS := List.take_of_length_le (by have := Hn.out; omega)
      have hfs : B8 (lawCfg D ++ (IFS.take i).flatMap ifText) = TL := by rw [htk, ← Htl.out]; exact HTL.out
      rw [hfs]
      clear htk hlen hfs
      go_wp2_with (first
        | (go_at_call 21; refine (htxc _ hkr).mono ?_; rintro e w3 ⟨rfl, hk3⟩)
        | (go_at_call 13; refine (hlv _ ((HkwV.out.trans' hkr).trans' hk3)).mono ?_; rintro e w4 ⟨rfl, hk4⟩))
      go_ret
      exact ⟨rfl, ((HkwV.out.trans' hkr).trans' hk3).trans' hk4⟩
    case pos =>
    obtain ⟨x, b, off, A', c', hx, rfl, hblV, x0V, hxc, hcm', hs⟩ := if_at HCV.out (Below.refl _ _) (i := i) (by show i < IFS.length; rw [Hn.out]; exact hlt)
    have hx : IFS[i]? = some x := hx
    have h2 := sumC_take hx
    have h3 := sumC_le IFS (i + 1)
    have h4 := takeFlat ifText hx
    have hni := Hnum.out i
    have hni := fun j a => hni j x a hx
    have hva := Hcc.out.valid.alts x (List.mem_of_getElem? hx)
    have hoa := Hok.out.2 x (List.mem_of_getElem? hx)
    obtain ⟨q, hq⟩ : ∃ q, x.length = q := ⟨_, rfl⟩
    rw [hq] at x0V hxc hs
    have hi0 : (0 : Int) ≤ (i : Int) := by omega
    have hlt' : (i : Int) < (n : Int) := by omega
    have hwi : IntKind.i64.wrap ((i : Int) + 1) = ((i + 1 : Nat) : Int) := by rw [IntKind.wrap_i64]; omega
    unfold maxLen at hcm'
    obtain ⟨acc, hacc⟩ : ∃ acc, lawCfg D ++ (IFS.take i).flatMap ifText = acc := ⟨_, rfl⟩
    obtain ⟨P, hP⟩ : ∃ P, sumC (IFS.take i) = P := ⟨_, rfl⟩
    rw [hacc, hP] at hlen
    rw [hacc]
    rw [hP] at h2
    have hPx : P + sumIf x ≤ 3129 := by omega
    have hi7 : i ≤ 16 := by have := Hcc.out.many; have := Hn.out; simp only at *; omega
    have hq16 : q ≤ 16 := by rw [← hq]; exact (Hcc.out.each x (List.mem_of_getElem? hx)).1
    have hbl := Nat.lt_of_lt_of_le hblV hkr.size
    have x0 := (hkr.cell (p := ⟨b, off + i, none⟩) hblV).trans x0V
    have Hq := hide hq
    have H2 := hide h2
    have H4 := hide h4
    have HP := hide hP
    have Hacc := hide hacc
    have Hni := hide hni
    have Hva := hide hva
    have Hoa := hide hoa
    clear hx h2 h3 h4 hq hP hacc hni hva hoa
    go_wp2_with fail
    obtain ⟨go, rfl⟩ : ∃ go, go = gk := ⟨_, rfl⟩
    go_loopg [4, 6] q (fun g s4 s6 wr => ∃ (j : Nat), j + g = q ∧ s4 = .string (B8 (acc ++ (x.take j).flatMap altText)) ∧ s6 = .int .i64 j ∧ Kept V wr ∧ (acc ++ (x.take j).flatMap altText).length ≤ 400 + 400 * (P + sumIf (x.take j)))
    case atStart => exact ⟨0, by omega, by simp, rfl, hkr, by simp [sumIf]; exact hlen⟩
    case round =>
      clear x0 hbl d0 d1 d2 d3 d4 d5 d6 d7 lV hlen
      obtain ⟨j, hj, rfl, rfl, hkr2, hlen2⟩ := hrel
      have hVB := heap_kept hkr2 HCB.out
      have lV := heap_lt hVB
      have d7 := cell_heap hVB (o := 7) rfl
      have hbl := Nat.lt_of_lt_of_le hblV hkr2.size
      have x0 := (hkr2.cell (p := ⟨b, off + i, none⟩) hblV).trans x0V
      have Hj := hide hj
      clear hj hVB hkr
      by_cases hlj : j < q
      case neg =>
        have hge : (q : Int) ≤ (j : Int) := by omega
        have htk : x.take j = x := List.take_of_length_le (by have := Hq.out; omega)
        have hfs : acc ++ (x.take j).flatMap altText = lawCfg D ++ (IFS.take (i + 1)).flatMap ifText := by rw [htk, H4.out, ← Hacc.out, List.append_assoc]; rfl
        have Hl := hide (show (lawCfg D ++ (IFS.take (i + 1)).flatMap ifText).length ≤ 400 + 400 * sumC (IFS.take (i + 1)) by rw [← hfs]; have := H2.out; rw [htk] at hlen2 ⊢; omega)
        rw [hfs]
        clear htk hfs hlen2
        go_wp2_with fail
        go_roundg (go - 1)
        case measure => have := Hi.out; omega
        case rel => exact ⟨i + 1, by have := Hi.out; omega, rfl, rfl, hkr2, Hl.out⟩
      case pos =>
      obtain ⟨a, b2, off2, X, cX, E, ce, ha, rfl, hbl2, hcells, hdo, q1, q2, q3, q4, q5, q6⟩ := alt_at hs hkr2 hlj
      have h5 := sumIf_take ha
      have h6 := sumIf_le x (j + 1)
      have h7 := takeFlat altText ha
      obtain ⟨hnu, hal⟩ := Hni.out j a ha
      obtain ⟨pl, hgood⟩ := alt_good (Hva.out a (List.mem_of_getElem? ha))
      have hoka := Hoa.out a (List.mem_of_getElem? ha)
      have y0 := hcells 0 _ rfl
      rw [Nat.add_zero] at y0
      have y1 := hcells 1 _ rfl
      have y2 := hcells 2 _ rfl
      have y3 := hcells 3 _ rfl
      have y4 := hcells 4 _ rfl
      have y5 := hcells 5 _ rfl
      have y6 := hcells 6 _ rfl
      have y7 := hcells 7 _ rfl
      have y8 := hcells 8 _ rfl
      have hj0 : (0 : Int) ≤ (j : Int) := by omega
      have hlj' : (j : Int) < (q : Int) := by omega
      obtain ⟨e1, he1⟩ : ∃ e1, a.extra.length = e1 := ⟨_, rfl⟩
      obtain ⟨e2, he2⟩ : ∃ e2, a.eps.length = e2 := ⟨_, rfl⟩
      have hsza : altSize a = 9 + e1 + 7 * e2 := by rw [← he1, ← he2]; rfl
      rw [he1] at q1 y7 q5
      rw [he2] at q3 y8 q6
      unfold maxLen at q2 q4
      obtain ⟨acc2, hacc2⟩ : ∃ acc2, acc ++ (x.take j).flatMap altText = acc2 := ⟨_, rfl⟩
      obtain ⟨P2, hP2⟩ : ∃ P2, P + sumIf (x.take j) = P2 := ⟨_, rfl⟩
      rw [hacc2, hP2] at hlen2
      rw [hacc2]
      have hPz : P2 + (9 + e1 + 7 * e2) ≤ 3129 := by omega
      have hPn : P2 + (9 + e1 + 7 * e2) = P + sumIf (x.take (j + 1)) := by omega
      obtain ⟨⟨k0, k0'⟩, ⟨k1, k1'⟩, ⟨k2, k2'⟩, ⟨k3, k3'⟩, ⟨k4, k4'⟩, ⟨k5, k5'⟩, ⟨k6, k6'⟩⟩ := id hdo
      have hwj : IntKind.i64.wrap ((j : Int) + 1) = ((j + 1 : Nat) : Int) := by rw [IntKind.wrap_i64]; omega
      have H7 := hide h7
      have He1 := hide he1
      have He2 := hide he2
      have HPn := hide hPn
      have Hacc2 := hide hacc2
      have Hgood := hide hgood
      have Hoka := hide hoka
      have Hq5 := hide q5
      have Hq6 := hide q6
      have Hnu := hide hnu
      have Hal := hide hal
      have Hdo := hide hdo
      clear hcells ha h5 h6 h7 hnu hal hgood hoka he1 he2 hsza hP2 hPn hacc2 q5 q6 hdo
      go_upto_region 17 with (fail)
      refine wp_at (fun Y => Y.heap[wr.heap.size]? = some (.cells #[.int .u8 a.d.num, .int .u8 a.d.alt, .int .u8 a.d.eps, .int .u8 a.d.cls, .int .u8 a.d.sub, .int .u8 a.d.proto, .int .u8 a.d.text, .slice X e1 cX, .slice E e2 ce] 56 (0, 0)) ∧ Kept wr Y) ⟨heap_at _ rfl, by go_grown⟩ (fun Y hY => ?_)
      obtain ⟨hA, hkY⟩ := hY
      obtain ⟨AT, hAT⟩ : ∃ AT, wr.heap.size = AT := ⟨_, rfl⟩
      rw [hAT] at hA
      simp only [hAT]
      have hkVY := hkr2.trans' hkY
      have hTY := HTV.out.kept hkVY
      have a0 := cell_heap hA (o := 0) rfl
      have a1 := cell_heap hA (o := 1) rfl
      have a2 := cell_heap hA (o := 2) rfl
      have a3 := cell_heap hA (o := 3) rfl
      have a4 := cell_heap hA (o := 4) rfl
      have a5 := cell_heap hA (o := 5) rfl
      have a6 := cell_heap hA (o := 6) rfl
      have a7 := cell_heap hA (o := 7) rfl
      have a8 := cell_heap hA (o := 8) rfl
      have lA := heap_lt hA
      have HA := hide hA
      have HkVY := hide hkVY
      clear y0 y1 y2 y3 y4 y5 y6 y7 y8 hA hAT hkY hkVY hbl2 x0 hbl d7 lV hkr2
      obtain ⟨BT, hBT⟩ : ∃ BT, B8 acc2 = BT := ⟨_, rfl⟩
      have yT : BT.size ≤ 2000000 := by rw [← hBT]; show acc2.length ≤ 2000000; omega
      rw [hBT]
      obtain ⟨S1, hS1⟩ : ∃ S1, B8 (Lib.itoa (i : Int)) = S1 := ⟨_, rfl⟩
      obtain ⟨S2, hS2⟩ : ∃ S2, B8 (Lib.itoa (j : Int)) = S2 := ⟨_, rfl⟩
      obtain ⟨S3, hS3⟩ : ∃ S3, B8 (Lib.itoa a.d.cls) = S3 := ⟨_, rfl⟩
      obtain ⟨S4, hS4⟩ : ∃ S4, B8 (Lib.itoa a.d.sub) = S4 := ⟨_, rfl⟩
      obtain ⟨S5, hS5⟩ : ∃ S5, B8 (Lib.itoa a.d.proto) = S5 := ⟨_, rfl⟩
      obtain ⟨S6, hS6⟩ : ∃ S6, B8 (namedW a.d.text) = S6 := ⟨_, rfl⟩
      have z1 : S1.size ≤ 30 := by rw [← hS1]; exact itoa_30w (n := (i : Int)) (by omega) (by omega)
      have z2 : S2.size ≤ 30 := by rw [← hS2]; exact itoa_30w (n := (j : Int)) (by omega) (by omega)
      have z3 : S3.size ≤ 30 := by rw [← hS3]; exact itoa_30w (n := a.d.cls) (by omega) (by omega)
      have z4 : S4.size ≤ 30 := by rw [← hS4]; exact itoa_30w (n := a.d.sub) (by omega) (by omega)
      have z5 : S5.size ≤ 30 := by rw [← hS5]; exact itoa_30w (n := a.d.proto) (by omega) (by omega)
      have z6 : S6.size ≤ 40 := by rw [← hS6]; exact namedW_len40 ⟨k6, k6'⟩
      have hTq : ∀ w', (∀ b o, b < Y.heap.size → w'.cell? ⟨b, o, none⟩ = Y.cell? ⟨b, o, none⟩) ∧ Below Y.heap.size Y w' → Tabs w' := fun w' h => hTY.kept h.2
      have hN1 := fun w' (h : Tabs w') => number_any (i : Int) w' (by omega) (by omega) h
      have hN2 := fun w' (h : Tabs w') => number_any (j : Int) w' (by omega) (by omega) h
      have hN3 := fun w' (h : Tabs w') => numberw_any a.d.cls w' (by omega) (by omega) h
      have hN4 := fun w' (h : Tabs w') => numberw_any a.d.sub w' (by omega) (by omega) h
      have hN5 := fun w' (h : Tabs w') => numberw_any a.d.proto w' (by omega) (by omega) h
      have hN6 := fun w' (h : Tabs w') => named_any a.d.text w' ⟨k6, k6'⟩ h
      rw [hS1] at hN1
      rw [hS2] at hN2
      rw [hS3] at hN3
      rw [hS4] at hN4
      rw [hS5] at hN5
      rw [hS6] at hN6
      have hstr : BT ++ ((⟨#[105, 110, 116, 101, 114, 102, 97, 99, 101, 32]⟩ : ByteArray) ++ S1 ++ (⟨#[32]⟩ : ByteArray) ++ S2 ++ (⟨#[32, 99, 108, 97, 115, 115, 32]⟩ : ByteArray) ++ S3 ++ (⟨#[32]⟩ : ByteArray) ++ S4 ++ (⟨#[32]⟩ : ByteArray) ++ S5 ++ S6 ++ (⟨#[10]⟩ : ByteArray)) = B8 (acc2 ++ lineW (ifW a.d)) := by
        rw [show (⟨#[105, 110, 116, 101, 114, 102, 97, 99, 101, 32]⟩ : ByteArray) ++ S1 ++ (⟨#[32]⟩ : ByteArray) ++ S2 ++ (⟨#[32, 99, 108, 97, 115, 115, 32]⟩ : ByteArray) ++ S3 ++ (⟨#[32]⟩ : ByteArray) ++ S4 ++ (⟨#[32]⟩ : ByteArray) ++ S5 ++ S6 ++ (⟨#[10]⟩ : ByteArray) = B8 sXIf ++ S1 ++ B8 [32] ++ S2 ++ B8 sXCls ++ S3 ++ B8 [32] ++ S4 ++ B8 [32] ++ S5 ++ S6 ++ B8 [10] from rfl, ← hBT, ← hS1, ← hS2, ← hS3, ← hS4, ← hS5, ← hS6, lawIf_eq k6]
        simp only [B8_app]
        unfold lawIf
        rw [Hnu.out, Hal.out]
        try simp only [List.append_assoc]
      have Hstr := hide hstr
      clear hS1 hS2 hS3 hS4 hS5 hS6 hBT hstr
      have f0 : ¬ 9223372036854775807 < 10 + S1.size := by omega
      have f1 : ¬ 9223372036854775807 < 10 + S1.size + 1 := by omega
      have f2 : ¬ 9223372036854775807 < 10 + S1.size + 1 + S2.size := by omega
      have f3 : ¬ 9223372036854775807 < 10 + S1.size + 1 + S2.size + 7 := by omega
      have f4 : ¬ 9223372036854775807 < 10 + S1.size + 1 + S2.size + 7 + S3.size := by omega
      have f5 : ¬ 9223372036854775807 < 10 + S1.size + 1 + S2.size + 7 + S3.size + 1 := by omega
      have f6 : ¬ 9223372036854775807 < 10 + S1.size + 1 + S2.size + 7 + S3.size + 1 + S4.size := by omega
      have f7 : ¬ 9223372036854775807 < 10 + S1.size + 1 + S2.size + 7 + S3.size + 1 + S4.size + 1 := by omega
      have f8 : ¬ 9223372036854775807 < 10 + S1.size + 1 + S2.size + 7 + S3.size + 1 + S4.size + 1 + S5.size := by omega
      have f9 : ¬ 9223372036854775807 < 10 + S1.size + 1 + S2.size + 7 + S3.size + 1 + S4.size + 1 + S5.size + S6.size := by omega
      have f10 : ¬ 9223372036854775807 < 10 + S1.size + 1 + S2.size + 7 + S3.size + 1 + S4.size + 1 + S5.size + S6.size + 1 := by omega
      have f30 : ¬ 9223372036854775807 < BT.size + (10 + S1.size + 1 + S2.size + 7 + S3.size + 1 + S4.size + 1 + S5.size + S6.size + 1) := by omega
      go_region_held3 (fun w' => (∀ b o, b < Y.heap.size → w'.cell? ⟨b, o, none⟩ = Y.cell? ⟨b, o, none⟩) ∧ Below Y.heap.size Y w') (first | assumption | exact since_start | exact since_keep (by assumption) (Nat.le_refl _) hk) (first
        | (go_at_call 23; (first | refine (hN1 _ (hTq _ (by assumption))).mono ?_ | refine (hN2 _ (hTq _ (by assumption))).mono ?_ | refine (hN3 _ (hTq _ (by assumption))).mono ?_ | refine (hN4 _ (hTq _ (by assumption))).mono ?_ | refine (hN5 _ (hTq _ (by assumption))).mono ?_); rintro e w5 ⟨rfl, hk⟩)
        | (go_at_call 24; refine (hN6 _ (hTq _ (by assumption))).mono ?_; rintro e w5 ⟨rfl, hk⟩))
      have hk5 : Kept Y w5 := ((by assumption : (∀ b o, b < Y.heap.size → w5.cell? ⟨b, o, none⟩ = Y.cell? ⟨b, o, none⟩) ∧ Below Y.heap.size Y w5)).2
      go_upto_region 18 with (fail)
      rw [Hstr.out]
      clear f0 f1 f2 f3 f4 f5 f6 f7 f8 f9 f10 f30 hN1 hN2 hN3 hN4 hN5 hN6 z1 z2 z3 z4 z5 z6 yT a0 a1 a2 a3 a4 a5 a6 a7 a8 lA hTq hTY
      obtain ⟨acc3, hacc3⟩ : ∃ acc3, acc2 ++ lineW (ifW a.d) = acc3 := ⟨_, rfl⟩
      rw [hacc3]
      have hlen3 : acc3.length ≤ 800 + 400 * P2 := by
        have := ifLine_len Hdo.out
        rw [← hacc3, List.length_append]
        omega
      have hkV5 := HkVY.out.trans' hk5
      have HA5 := hide (heap_kept hk5 HA.out)
      have HkV5 := hide hkV5
      have Hacc3 := hide hacc3
      have hflat : pl.flatten.length = e1 := by rw [Hgood.out.flat]; exact He1.out
      have hpl : pl.length ≤ e1 := by rw [← hflat]; exact flatten_len pl (fun b hb => by have := (Hgood.out.heads b hb).1; omega)
      have hflt : ∀ p, (pl.take p).flatten.length ≤ e1 := fun p => by
        rw [← hflat]
        conv => rhs; rw [← List.take_append_drop p pl, List.flatten_append, List.length_append]
        omega
      obtain ⟨np, hnp⟩ : ∃ np, pl.length = np := ⟨_, rfl⟩
      rw [hnp] at hpl
      have Hflat := hide hflat
      have Hflt := hide hflt
      have Hnp := hide hnp
      have Hlen2 := hide hlen2
      clear hk5 HA HkVY hacc3 hlen2 hflat hflt hnp hkV5
      go_wp2_with fail
      obtain ⟨gj, rfl⟩ : ∃ gj, gj = gk := ⟨_, rfl⟩
      go_loopg [4, 8] np (fun g s4 s8 wx => ∃ p k : Nat, p + g = np ∧ s4 = .string (B8 (acc3 ++ exText (pl.take p))) ∧ s8 = .int .i64 k ∧ (pl.take p).flatten.length = k ∧ Kept w5 wx ∧ (acc3 ++ exText (pl.take p)).length ≤ 800 + 400 * P2 + 400 * p)
      case atStart => exact ⟨0, 0, by omega, by simp [exText], rfl, rfl, Below.refl _ _, by simpa [exText] using hlen3⟩
      case round =>
        obtain ⟨p, k, hp, rfl, rfl, hk, hkp, hlp⟩ := hrel
        have Hkk := hide hk
        have hA := heap_kept hkp HA5.out
        have a7 := cell_heap hA (o := 7) rfl
        have a8 := cell_heap hA (o := 8) rfl
        have lA := heap_lt hA
        have Hp := hide hp
        have HAp := hide hA
        clear hp hA
        by_cases hlt2 : p < np
        case neg =>
          have hpn : p = np := by have := Hp.out; omega
          have htk : pl.take p = pl := List.take_of_length_le (by rw [Hnp.out]; omega)
          have hke : k = e1 := by rw [← hk, htk]; exact Hflat.out
          subst hke
          rw [htk] at hlp
          rw [htk]
          obtain ⟨acc4, hacc4⟩ : ∃ acc4, acc3 ++ exText pl = acc4 := ⟨_, rfl⟩
          rw [hacc4] at hlp
          rw [hacc4]
          have hlen5 : acc4.length ≤ 800 + 400 * P2 + 400 * k := by omega
          have Hacc4 := hide hacc4
          have hge : ¬ (k : Int) < (k : Int) := by omega
          clear hacc4 hlp htk hpn hk
          have hkVp := HkV5.out.trans' hkp
          have hTp := HTV.out.kept hkVp
          have hq6' := Hq6.out.kept hkVp
          have hoks := Hgood.out.eps
          have he2b : e2 ≤ 1000 := by omega
          have hl5 : acc4.length ≤ 2000000 := by omega
          have hq4 : ce ≤ maxLen := by unfold maxLen; exact q4
          go_upto_region 22 with (fail)
          refine ep_all lA a8 hq6' hoks q3 hq4 he2b hl5 hTp _ _ ?_ ?_
          · assumption
          intro s9 s10 s11 s159 s160 s161 s162 s163 s164 s165 s166 s167 s168 s169 s170 s171 s172 s173 s174 s175 s176 s177 s178 s179 s180 s181 s182 s183 s184 s185 s186 s187 s188 s189 s190 s191 s192 s193 s194 s195 s196 s197 s198 s199 s200 s201 s202 s203 s204 s205 s206 s207 s208 w7 hk7
          have hfs : acc4 ++ epText a.eps = acc ++ (x.take (j + 1)).flatMap altText := by
            rw [← Hacc4.out, ← Hacc3.out, ← Hacc2.out, H7.out]
            unfold altText
            rw [Hgood.out.div]
            simp only [Option.getD_some, List.append_assoc]
          have hll : (acc ++ (x.take (j + 1)).flatMap altText).length ≤ 400 + 400 * (P + sumIf (x.take (j + 1))) := by
            have h1 := altText_len Hoka.out ⟨_, Hgood.out.div⟩
            have h2 : altSize a = 9 + k + 7 * e2 := by rw [← He1.out, ← He2.out]; rfl
            rw [H7.out, ← List.append_assoc, Hacc2.out, List.length_append]
            have h3 := Hlen2.out
            have h4 := HPn.out
            omega
          have Hll := hide hll
          have hkV9 := hkVp.trans' hk7
          rw [hfs]
          clear hfs hll a7 a8 lA hq6' hoks hTp
          go_wp2_with fail
          go_roundg (gj - 1)
          case measure => have := Hj.out; omega
          case rel => exact ⟨j + 1, by have := Hj.out; omega, rfl, by first | rfl | go_num, hkV9, Hll.out⟩
        case pos =>
        obtain ⟨bp, hbp⟩ : ∃ bp, pl[p]? = some bp := ⟨_, List.getElem?_eq_getElem (by rw [Hnp.out]; exact hlt2)⟩
        have h8 := takeFlat (fun b => lineW (exW b)) hbp
        have hbm := List.mem_of_getElem? hbp
        obtain ⟨hb2, hbh⟩ := Hgood.out.heads bp hbm
        have h9 : (pl.take (p + 1)).flatten = (pl.take p).flatten ++ bp := by
          obtain ⟨g1, g2⟩ := List.getElem?_eq_some_iff.1 hbp
          rw [List.take_succ_eq_append_getElem g1, g2, List.flatten_append]
          simp
        have h10 := Hflt.out (p + 1)
        rw [h9, List.length_append] at h10
        have hex : a.extra = (pl.take p).flatten ++ (bp ++ (pl.drop (p + 1)).flatten) := by
          rw [← Hgood.out.flat, ← List.append_assoc, ← h9, ← List.flatten_append, List.take_append_drop]
        obtain ⟨lb, hlb⟩ : ∃ lb, bp.length = lb := ⟨_, rfl⟩
        have hg0 : byteAt a.extra k = byteAt bp 0 := by rw [hex]; exact byte_mid _ _ _ k 0 hk (by omega)
        have hg1 : byteAt a.extra (k + 1) = byteAt bp 1 := by rw [hex]; exact byte_mid _ _ _ k 1 hk (by omega)
        have hh0 : byteAt bp 0 = (lb : Int) := by
          rw [← hlb]
          unfold byteAt
          cases bp with
          | nil => simp at hb2
          | cons z r => simpa using hbh
        rw [hk] at h10
        rw [hlb] at h10 hb2
        obtain ⟨bx, ox, rfl, hbx, hcx⟩ := sl_bytes Hq5.out (by omega)
        have hkVp := HkV5.out.trans' hkp
        have hbx' := Nat.lt_of_lt_of_le hbx hkVp.size
        have v0 := (hkVp.cell (p := ⟨bx, ox + k, none⟩) hbx).trans (hcx k (by omega))
        have v1 := (hkVp.cell (p := ⟨bx, ox + (k + 1), none⟩) hbx).trans (hcx (k + 1) (by omega))
        rw [hg0, hh0] at v0
        have hz1 := sl_byte8 Hq5.out (k + 1)
        rw [hg1] at v1 hz1
        obtain ⟨B1, hB1⟩ : ∃ B1, byteAt bp 1 = B1 := ⟨_, rfl⟩
        rw [hB1] at v1 hz1
        obtain ⟨u0, u1⟩ := hz1
        have hTp := HTV.out.kept hkVp
        have hap : acc3 ++ exText (pl.take p) ++ (sXEx ++ Lib.itoa B1 ++ [32] ++ Lib.itoa (lb : Int) ++ [10]) = acc3 ++ exText (pl.take (p + 1)) := by
          unfold exText
          rw [h8, lawEx_eq]
          unfold lawEx
          rw [hB1, hh0]
          simp only [List.append_assoc]
        have hlen4 : (acc3 ++ exText (pl.take (p + 1))).length ≤ 800 + 400 * P2 + 400 * (p + 1) := by
          show (acc3 ++ (pl.take (p + 1)).flatMap fun b => lineW (exW b)).length ≤ _
          have hln := exLine_len (b := bp) (fun z hz => Hoka.out.2.1 z (by rw [hex]; simp [hz]))
          rw [h8, ← List.append_assoc, List.length_append]
          have hlp' : (acc3 ++ (pl.take p).flatMap fun b => lineW (exW b)).length ≤ 800 + 400 * P2 + 400 * p := hlp
          omega
        have Hap := hide hap
        have Hlen4 := hide hlen4
        have Hk9 := hide (show (pl.take (p + 1)).flatten.length = k + lb by rw [h9, List.length_append, hk, hlb])
        have hlm : (acc3 ++ exText (pl.take p)).length ≤ 3000000 := by omega
        have hk8 : k + 1 < e1 := by omega
        have hl8 : u8k (lb : Int) := ⟨by omega, by have := (sl_byte8 Hq5.out k).2; rw [hg0, hh0] at this; exact this⟩
        clear hap hlen4 h8 h9 hex hg0 hg1 hh0 hB1 hbm hbh hbp hlb hk hcx hlp
        obtain ⟨aex, haex⟩ : ∃ aex, acc3 ++ exText (pl.take p) = aex := ⟨_, rfl⟩
        rw [haex] at hlm Hap
        rw [haex]
        have hke : (k : Int) < (e1 : Int) := by omega
        have hk0 : (0 : Int) ≤ (k : Int) := by omega
        have hwlb : IntKind.i64.wrap (lb : Int) = (lb : Int) := by rw [IntKind.wrap_i64]; omega
        have hwkl : IntKind.i64.wrap ((k : Int) + (lb : Int)) = ((k + lb : Nat) : Int) := by rw [IntKind.wrap_i64]; omega
        go_upto_region 21 with (fail)
        refine ex_line lA a7 hbx' v0 v1 hl8 ⟨u0, u1⟩ hk8 (by omega) hTp hlm _ ?_
        intro s138 s139 s140 s141 s142 s143 s144 s145 s146 s147 s148 s149 s150 s151 s152 s153 s154 s155 s156 s157 s158 w6 hk6
        rw [Hap.out]
        have hA6 := heap_kept hk6 HAp.out
        have b7 := cell_heap hA6 (o := 7) rfl
        have lA6 := heap_lt hA6
        have v06 := (hk6.cell (p := ⟨bx, ox + k, none⟩) hbx').trans v0
        have hbx6 := Nat.lt_of_lt_of_le hbx' hk6.size
        clear hA6 a7 a8 lA v0 v1
        go_wp2_with fail
        go_roundg (gk - 1)
        case measure => have := Hp.out; omega
        case rel => exact ⟨p + 1, k + lb, by have := Hp.out; omega, rfl, by first | rfl | go_num, Hk9.out, hkp.trans' hk6, Hlen4.out⟩
end Go.Proofs.YtjgncofhobhjdaaDoor
