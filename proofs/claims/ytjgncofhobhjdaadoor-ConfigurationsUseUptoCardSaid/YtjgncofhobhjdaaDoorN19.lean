/- The law Use, its loops. -/
import Derived.Test.YtjgncofhobhjdaaDoorChecked
import Derived.Deep.RegionHeld3
import Derived.Deep.DrawnRows
import Derived.Deep.DeepCutAuto
import Derived.Deep.LoopGhost
import Derived.Outline
import Derived.Handy
import Derived.OwnWalk
import Derived.BigQuiet
import Derived.Test.YtjgncofhobhjdaaDoorN18
import Derived.Test.YtjgncofhobhjdaaDoorN16
set_option linter.unusedVariables false
set_option linter.unusedSimpArgs false
set_option linter.unusedSectionVars false
/- The law Use: the loop over the settings. Printed by gen_ub.py. -/
namespace Go.Proofs.YtjgncofhobhjdaaDoor
open Go.RowKit
attribute [local go_sem ↓] Go.wp_at_zero Go.wp_at_succ

theorem zip_take_all {α β : Type} {a : List α} {b : List β} {n : Nat} (h1 : a.length = n) (h2 : b.length = n) : (a.zip b).take n = a.zip b := List.take_of_length_le (by rw [List.length_zip]; omega)
theorem tagF_pre : ∀ (P : List (List Alt × Int)) (s i : Nat), ∃ r, tagF s P = tagF s (P.take i) ++ r
  | [], s, i => ⟨[], by simp [tagF]⟩
  | p :: P, s, 0 => ⟨_, rfl⟩
  | p :: P, s, i + 1 => by
    obtain ⟨r, h⟩ := tagF_pre P (s + 1) i
    refine ⟨r, ?_⟩
    rw [List.take_succ_cons]
    show _ ++ tagF (s + 1) P = (_ ++ tagF (s + 1) (P.take i)) ++ r
    rw [h, List.append_assoc]
theorem tagF_len : ∀ (P : List (List Alt × Int)) (s i : Nat), (∀ p ∈ P, (epsP p).length ≤ 3129) → (tagF s (P.take i)).length ≤ 3129 * i
  | [], s, i, _ => by simp [tagF]
  | p :: P, s, 0, _ => Nat.zero_le _
  | p :: P, s, i + 1, h => by
    have h1 := tagF_len P (s + 1) i (fun q hq => h q (List.mem_cons_of_mem _ hq))
    have h2 := h p List.mem_cons_self
    rw [List.take_succ_cons]
    show (_ ++ tagF (s + 1) (P.take i)).length ≤ _
    rw [List.length_append, List.length_map]
    omega
noncomputable def code18u : Code := (Tryd.f10.body.bind (findR 18)).getD .skip
set_option maxRecDepth 1000000 in
set_option maxHeartbeats 16000000 in
theorem use_out {u0 u3 u4 u5 u6 u8 u9 u15 u16 u17 u18 u19 u20 u21 u22 u23 u24 u25 u26 u27 u28 u29 u30 u31 u32 u33 u34 u35 u36 u37 u38 u39 u40 u41 u42 u43 u44 u45 u46 u47 u48 u49 u50 u51 u52 u53 u54 u55 u56 u57 u58 u59 u60 u61 u62 u63 u64 u65 u66 u67 u68 u69 u70 u71 u72 u73 u74 u75 u76 u77 u78 u79 u80 u81 u82 u83 u84 u85 u86 u87 u88 u89 u90 u91 u92 u93 u94 u95 u96 u97 u98 u99 u100 u101 u102 u103 u104 u105 u106 u107 u108 u109 u110 u111 u112 u113 u114 u115 u116 u117 u118 u119 u120 u121 u122 u123 u124 u125 u126 u127 u128 u129 u130 u131 u132 u133 u134 u135 u136 u137 u138 u139 u140 u141 u142 u143 u144 u145 u146 u147 u148 u149 u150 u151 u152 u153 u154 u155 u156 u157 u158 u159 u160 u161 u162 u163 u164 u165 u166 u167 u168 u169 u170 u171 u172 u173 u174 u175 u176 u177 u178 u179 u180 u181 u182 u183 u184 u185 u186 u187 u188 u189 u190 u191 u192 u193 u194 u195 u196 u197 u198 u199 u200 u201 u202 u203 u204 u205 u206 u207 u208 u209 u210 u211 u212 u213 u214 u215 u216 u217 u218 u219 u220 u221 u222 u223 u224 u225 u226 u227 u228 u229 u230 u231 u232 u233 u234 u235 u236 u237 u238 u239 u240 : Value} {FB CB m cb n cx : Nat} {ad W0 : Int} {B AX : Option Addr} {l : List Int} {C : Cfg} {V wr : World}
    (hus : US V FB ad [] ep0 0 0 (.slice none 0 0) wr) (hC : CfgIs V (low V.heap.size) C AX cx) (hn : C.ifs.length = n) (hl : Sl u8T V (low V.heap.size) B m l) (hmc : m ≤ cb) (hcb : cb ≤ maxLen) (hm : m ≤ 20) (c7V : V.cell? ⟨CB, 7, none⟩ = some (.slice AX n cx)) (hCB : CB < V.heap.size)
    (hok : ∀ p ∈ C.ifs.zip l, ∀ e ∈ epsP p, okEp e = true) (hu : Uniq (tagF 0 (C.ifs.zip l))) (had : u8k ad) (hsz : sumC C.ifs ≤ 3129) (hW : W0 = if m ≠ n then 5 else 0)
    (Q : Exit → Act → World → Prop) (K : Act → World → Prop) (hK : ∀ a w', Code.wp Tryd.prog (restC code18u) Q a w' → K a w')
    (hQ : ∀ (s10 s13 s14 s15 s16 s17 s60 s61 s62 s63 s64 s65 s66 s67 s68 s69 s70 s71 s72 s73 s74 s75 s76 s77 s78 s79 s80 s81 s82 s83 s84 s85 s86 s87 s88 s89 s90 s91 s92 s93 s94 s95 s96 s97 s98 s99 s100 s101 s102 s103 s104 s105 s106 s107 s108 s109 s110 s111 s112 s113 s114 s115 s116 s117 s118 s119 s120 s121 s122 s123 s124 s125 s126 s127 s128 s129 s130 s131 s132 s133 : Value) (w' : World), Kept V w' → ((endsE C l = 0 ∧ ∃ (F : EpD) (o m' : Nat), s13 = .int .i64 ((o : Nat) : Int) ∧ s14 = .int .i64 ((m' : Nat) : Int) ∧ US V FB ad (tagF 0 (C.ifs.zip l)) F o m' s10 w') ∨ endsE C l ≠ 0) → Q .normal ⟨#[u0, .slice B m cb, .int .u8 ad, u3, u4, u5, u6, .pointer (some ⟨CB, 0, none⟩), u8, u9, s10, .int .i64 (endsE C l), .pointer (some ⟨FB, 0, none⟩), s13, s14, s15, s16, s17, u18, u19, u20, u21, u22, u23, u24, u25, u26, u27, u28, u29, u30, u31, u32, u33, u34, u35, u36, u37, u38, u39, u40, u41, u42, u43, u44, u45, u46, u47, u48, u49, u50, u51, u52, u53, u54, u55, u56, u57, u58, u59, s60, s61, s62, s63, s64, s65, s66, s67, s68, s69, s70, s71, s72, s73, s74, s75, s76, s77, s78, s79, s80, s81, s82, s83, s84, s85, s86, s87, s88, s89, s90, s91, s92, s93, s94, s95, s96, s97, s98, s99, s100, s101, s102, s103, s104, s105, s106, s107, s108, s109, s110, s111, s112, s113, s114, s115, s116, s117, s118, s119, s120, s121, s122, s123, s124, s125, s126, s127, s128, s129, s130, s131, s132, s133, u134, u135, u136, u137, u138, u139, u140, u141, u142, u143, u144, u145, u146, u147, u148, u149, u150, u151, u152, u153, u154, u155, u156, u157, u158, u159, u160, u161, u162, u163, u164, u165, u166, u167, u168, u169, u170, u171, u172, u173, u174, u175, u176, u177, u178, u179, u180, u181, u182, u183, u184, u185, u186, u187, u188, u189, u190, u191, u192, u193, u194, u195, u196, u197, u198, u199, u200, u201, u202, u203, u204, u205, u206, u207, u208, u209, u210, u211, u212, u213, u214, u215, u216, u217, u218, u219, u220, u221, u222, u223, u224, u225, u226, u227, u228, u229, u230, u231, u232, u233, u234, u235, u236, u237, u238, u239, u240], []⟩ w') :
    Code.wp Tryd.prog (headC code18u) (Exit.then K Q) ⟨#[u0, .slice B m cb, .int .u8 ad, u3, u4, u5, u6, .pointer (some ⟨CB, 0, none⟩), u8, u9, .slice none 0 0, .int .i64 W0, .pointer (some ⟨FB, 0, none⟩), .int .i64 0, .int .i64 0, u15, u16, u17, u18, u19, u20, u21, u22, u23, u24, u25, u26, u27, u28, u29, u30, u31, u32, u33, u34, u35, u36, u37, u38, u39, u40, u41, u42, u43, u44, u45, u46, u47, u48, u49, u50, u51, u52, u53, u54, u55, u56, u57, u58, u59, u60, u61, u62, u63, u64, u65, u66, u67, u68, u69, u70, u71, u72, u73, u74, u75, u76, u77, u78, u79, u80, u81, u82, u83, u84, u85, u86, u87, u88, u89, u90, u91, u92, u93, u94, u95, u96, u97, u98, u99, u100, u101, u102, u103, u104, u105, u106, u107, u108, u109, u110, u111, u112, u113, u114, u115, u116, u117, u118, u119, u120, u121, u122, u123, u124, u125, u126, u127, u128, u129, u130, u131, u132, u133, u134, u135, u136, u137, u138, u139, u140, u141, u142, u143, u144, u145, u146, u147, u148, u149, u150, u151, u152, u153, u154, u155, u156, u157, u158, u159, u160, u161, u162, u163, u164, u165, u166, u167, u168, u169, u170, u171, u172, u173, u174, u175, u176, u177, u178, u179, u180, u181, u182, u183, u184, u185, u186, u187, u188, u189, u190, u191, u192, u193, u194, u195, u196, u197, u198, u199, u200, u201, u202, u203, u204, u205, u206, u207, u208, u209, u210, u211, u212, u213, u214, u215, u216, u217, u218, u219, u220, u221, u222, u223, u224, u225, u226, u227, u228, u229, u230, u231, u232, u233, u234, u235, u236, u237, u238, u239, u240], []⟩ wr := by
  have hnc := hC.len
  have hcm := hC.cap
  rw [hn] at hnc
  unfold maxLen at hcm hcb
  have hlm := hl.1
  obtain ⟨er, her⟩ : ∃ er, endsE C l = er := ⟨_, rfl⟩
  obtain ⟨P, hP⟩ : ∃ P, C.ifs.zip l = P := ⟨_, rfl⟩
  rw [hP] at hok hu
  simp only [her, hP] at hQ
  have hPl : m = n → P.length = m := fun e => by rw [← hP, List.length_zip]; omega
  have hE0 : m = n → P.any overP = false → er = 0 := fun e h => by rw [← her]; unfold endsE; rw [hP, if_neg (by omega), if_neg (by simpa using h)]
  have hE5 : m ≠ n → er = 5 := fun e => by rw [← her]; unfold endsE; rw [if_pos (by omega)]
  have hE7 : m = n → P.any overP = true → er = 7 := fun e h => by rw [← her]; unfold endsE; rw [hP, if_neg (by omega), if_pos h]
  have hget : ∀ i x s, C.ifs[i]? = some x → l[i]? = some s → P[i]? = some (x, s) := fun i x s h1 h2 => by rw [← hP]; exact zip_get h1 h2
  have HQ := hide hQ
  have HC := hide hC
  have Hn := hide hn
  have Hl := hide hl
  have Hok := hide hok
  have Hu := hide hu
  have Had := hide had
  have HUS0 := hide hus
  have HPl := hide hPl
  have HE0 := hide hE0
  have HE7 := hide hE7
  have Hget := hide hget
  have Hkv := hide hus.kept
  have hW' : (W0 = 0 ∧ m = n) ∨ (W0 ≠ 0 ∧ W0 = er) := by
    by_cases h : m = n
    · exact .inl ⟨by rw [hW, if_neg (by omega)], h⟩
    · exact .inr ⟨by rw [hW, if_pos h]; decide, by rw [hW, if_pos h, hE5 h]⟩
  have HW := hide hW'
  have Hmem := hide (show ∀ p ∈ P, p ∈ C.ifs.zip l from fun p hp => by rw [hP]; exact hp)
  clear hQ hC hn hl hok hu had hus hPl hE0 hE5 hE7 hget hW hW' her hP hlm
  conv => arg 2; whnf
  conv at hK => enter [a, w', 1, 2]; whnf
  go_wp2_with fail
  go_loopg [10, 11, 13, 14, 15] m (fun g s10 s11 s13 s14 s15 wx => ∃ (i : Nat) (W : Int), i + g = m ∧ s15 = .int .i64 i ∧ s11 = .int .i64 W ∧ Kept V wx ∧ ((W = 0 ∧ m = n ∧ (P.take i).any overP = false ∧ ∃ (F : EpD) (o mm : Nat), s13 = .int .i64 ((o : Nat) : Int) ∧ s14 = .int .i64 ((mm : Nat) : Int) ∧ US V FB ad (tagF 0 (P.take i)) F o mm s10 wx) ∨ (W ≠ 0 ∧ W = er)))
  case atStart => exact ⟨0, W0, by omega, rfl, rfl, Hkv.out, HW.out.elim (fun h => .inl ⟨h.1, h.2, by simp, ep0, 0, 0, by simp, by simp, HUS0.out⟩) (fun h => .inr h)⟩
  case round =>
    clear HUS0 Hkv
    obtain ⟨i, W, hi, rfl, rfl, hkr, hor⟩ := hrel
    have Hi := hide hi
    rcases hor with ⟨rfl, hmn, hany, F, o, mm, rfl, rfl, hus⟩ | ⟨hW0, hWe⟩
    case inr =>
      have hq : (W == 0) = false := by simpa using hW0
      have Her : Hid (er ≠ 0) := hide (by omega)
      subst hWe
      clear hi
      by_cases hlt : i < m
      case pos =>
        have hi0 : (i : Int) < (m : Int) := by omega
        clear hlt
        go_wp2_with fail
        exact HQ.out _ _ _ _ _ _ _ _ _ _ _ _ _ _ _ _ _ _ _ _ _ _ _ _ _ _ _ _ _ _ _ _ _ _ _ _ _ _ _ _ _ _ _ _ _ _ _ _ _ _ _ _ _ _ _ _ _ _ _ _ _ _ _ _ _ _ _ _ _ _ _ _ _ _ _ _ _ _ _ _ _ hkr (.inr Her.out)
      case neg =>
        have hi0 : (m : Int) ≤ (i : Int) := by omega
        clear hlt
        go_wp2_with fail
        exact HQ.out _ _ _ _ _ _ _ _ _ _ _ _ _ _ _ _ _ _ _ _ _ _ _ _ _ _ _ _ _ _ _ _ _ _ _ _ _ _ _ _ _ _ _ _ _ _ _ _ _ _ _ _ _ _ _ _ _ _ _ _ _ _ _ _ _ _ _ _ _ _ _ _ _ _ _ _ _ _ _ _ _ hkr (.inr Her.out)
    case inl =>
    subst hmn
    by_cases hlt : i < m
    case neg =>
      have hge : (m : Int) ≤ (i : Int) := by omega
      have htk : P.take i = P := List.take_of_length_le (by rw [HPl.out rfl]; omega)
      rw [htk] at hany hus
      have her : er = 0 := HE0.out rfl hany
      subst her
      have Hus := hide hus
      clear htk hany hus hi hlt
      go_wp2_with fail
      exact HQ.out _ _ _ _ _ _ _ _ _ _ _ _ _ _ _ _ _ _ _ _ _ _ _ _ _ _ _ _ _ _ _ _ _ _ _ _ _ _ _ _ _ _ _ _ _ _ _ _ _ _ _ _ _ _ _ _ _ _ _ _ _ _ _ _ _ _ _ _ _ _ _ _ _ _ _ _ _ _ _ _ _ hkr (.inl ⟨by simp, F, o, mm, by simp, by simp, Hus.out⟩)
    case pos =>
    obtain ⟨x, b, off, A', c', hx, rfl, hbl, x0, hxc, hcm', hs⟩ := if_at HC.out hkr (i := i) (by rw [Hn.out]; exact hlt)
    obtain ⟨s, bs, offs, css, hse, rfl, hbs, hrels, hces⟩ := Hl.out.at hlt
    obtain ⟨rfl, hs8⟩ : css = [.int .u8 s] ∧ u8k s := hrels
    have y0 := (hkr.cell (p := ⟨bs, offs + i, none⟩) hbs).trans (by simpa [u8T, Ty.flat] using hces 0 _ rfl)
    have hbs' : bs < wr.heap.size := Nat.lt_of_lt_of_le hbs hkr.size
    have c7 := (hkr.cell (p := ⟨CB, 7, none⟩) hCB).trans c7V
    have lCB : CB < wr.heap.size := Nat.lt_of_lt_of_le hCB hkr.size
    have hPi := Hget.out i x s hx hse
    have hnx : sumIf x ≤ 3129 := by have := sumC_take hx; have := sumC_le C.ifs (i + 1); omega
    obtain ⟨q, hqd⟩ : ∃ q, x.length = q := ⟨_, rfl⟩
    have hq3 : q ≤ 3129 := by have := len_le_sumIf x; omega
    rw [hqd] at x0 hxc hs
    unfold maxLen at hcm'
    obtain ⟨s0, s1⟩ := hs8
    have hws : IntKind.i64.wrap s = s := by rw [IntKind.wrap_i64]; omega
    have hi0 : (0 : Int) ≤ (i : Int) := by omega
    have him : (i : Int) < (m : Int) := by omega
    have hwi : IntKind.i64.wrap ((i : Int) + 1) = ((i + 1 : Nat) : Int) := by rw [IntKind.wrap_i64]; omega
    have h9 := anyP_take overP hPi
    have h10 := tagF_take P 0 i _ hPi
    rw [Nat.zero_add] at h10
    have hpm := List.mem_of_getElem? hPi
    have Hpm := hide hpm
    have H9 := hide h9
    have H10 := hide h10
    have Hqd := hide hqd
    have Hany := hide hany
    have HPi := hide hPi
    have HUS := hide hus
    clear h9 h10 hqd hany hPi hus hx hse hces hpm hi hlt
    by_cases hov : (q : Int) ≤ s
    case pos =>
      have hov2 : overP (x, s) = true := by unfold overP; rw [decide_eq_true]; rw [Hqd.out]; exact hov
      have her : er = 7 := HE7.out rfl (by
        rw [List.any_eq_true]
        exact ⟨(x, s), Hpm.out, hov2⟩)
      subst her
      clear hov2
      go_upto_region 21 with (fail)
      go_quiet (fail)
      go_wp2_with fail
      go_roundg (gk - 1)
      case measure => have := Hi.out; omega
      case rel => exact ⟨i + 1, 7, by have := Hi.out; omega, by first | rfl | go_num, rfl, below_drewN hkr _, .inr ⟨by decide, rfl⟩⟩
    case neg =>
    have hov' : s < (q : Int) := by omega
    have hsn : s.toNat < q := by omega
    have hov2 : overP (x, s) = false := by unfold overP; rw [decide_eq_false]; rw [Hqd.out]; exact hov
    obtain ⟨a, b2, off2, X, cX, E, ce, ha, rfl, hbl2, hcells, hdo, q1, q2, q3, q4, q5, q6⟩ := alt_at hs hkr hsn
    have z8 := hcells 8 _ rfl
    have hepe : epsP (x, s) = a.eps := by unfold epsP; simp only [ha]; rfl
    obtain ⟨ne, hne⟩ : ∃ ne, a.eps.length = ne := ⟨_, rfl⟩
    have hne2 : ne ≤ 3129 := by have := epsP_le x s; rw [hepe] at this; omega
    rw [hne] at z8 q3 q6
    have hoke : ∀ e ∈ a.eps, okEp e = true := fun e he => Hok.out _ Hpm.out e (by rw [hepe]; exact he)
    have huq : Uniq (tagF 0 (P.take i) ++ a.eps.map fun e => (i, e)) := by
      have h1 := H10.out
      rw [hepe] at h1
      rw [← h1]
      have h2 : ∃ r, tagF 0 P = tagF 0 (P.take (i + 1)) ++ r := tagF_pre P 0 (i + 1)
      obtain ⟨r, h2⟩ := h2
      have h3 := Hu.out
      rw [h2] at h3
      exact h3.left
    have htl : (tagF 0 (P.take i)).length ≤ 3129 * i := tagF_len P 0 i (fun p hp => by
      have h1 := epsP_le p.1 p.2
      have h2 := if_le (List.of_mem_zip (a := p.1) (b := p.2) (Hmem.out p hp)).1
      exact Nat.le_trans h1 (Nat.le_trans h2 hsz))
    have hz8 : (s.toNat : Int) = s := by omega
    rw [show off2 + s.toNat * 9 + 8 = off2 + s.toNat * 9 + 8 from rfl] at z8
    have Hepe := hide hepe
    have Hoke := hide hoke
    have Huq := hide huq
    have Hq6 := hide q6
    have Hne := hide hne
    clear hcells ha hepe hoke huq q6 hne q5 hdo hs
    go_upto_region 21 with (fail)
    go_quiet (fail)
    go_upto_region 23 with (fail)
    go_quiet (fail)
    go_upto_region 24 with (fail)
    refine wp_at (fun W => Kept wr W) (by first | exact below_drewN (below_drewN (Below.refl _ _) _) _ | go_grown) (fun W hkW => ?_)
    refine use_in (HUS.out.keep hkW) Hq6.out (by omega) Hoke.out q3 q4 Huq.out Had.out _ _ ?_ ?_
    · assumption
    intro s17 s96 s97 s98 s99 s100 s101 s102 s103 s104 s105 s106 s107 s108 s109 s110 s111 s112 s113 s114 s115 s116 s117 s118 s119 s120 s121 s122 s123 s124 s125 s126 s127 s128 s129 s130 s131 s132 s133 F9 o9 m9 v9 w9 hus9
    have hk9 := hus9.kept
    have Hus9 := hide hus9
    clear hus9 x0 y0 c7 lCB hbs' z8 hbl2 hbl hkW
    go_wp2_with fail
    go_roundg (gk - 1)
    case measure => have := Hi.out; omega
    case rel =>
      refine ⟨i + 1, 0, by have := Hi.out; omega, by first | rfl | go_num, rfl, hk9,   .inl ⟨by simp, by simp, by rw [H9.out, Hany.out, hov2]; rfl, F9, o9, m9, by simp, by simp, ?_⟩⟩
      rw [H10.out, Hepe.out]
      exact Hus9.out
end Go.Proofs.YtjgncofhobhjdaaDoor
/- The law Use: the loops that compare. Printed by gen_ub.py. -/
namespace Go.Proofs.YtjgncofhobhjdaaDoor
open Go.RowKit
attribute [local go_sem ↓] Go.wp_at_zero Go.wp_at_succ

noncomputable def code38u : Code := (Tryd.f10.body.bind (findR 38)).getD .skip
noncomputable def code7u : Code := (Tryd.f10.body.bind (findR 7)).getD .skip
set_option maxRecDepth 1000000 in
set_option maxHeartbeats 16000000 in
theorem use_cmp {u0 u1 u2 u3 u4 u5 u6 u7 u8 u9 u11 u12 u13 u14 u15 u16 u17 u19 u20 u21 u22 u23 u24 u25 u26 u27 u28 u29 u30 u31 u32 u33 u34 u35 u36 u37 u38 u39 u40 u41 u42 u43 u44 u45 u46 u47 u48 u49 u50 u51 u52 u53 u54 u55 u56 u57 u58 u59 u60 u61 u62 u63 u64 u65 u66 u67 u68 u69 u70 u71 u72 u73 u74 u75 u76 u77 u78 u79 u80 u81 u82 u83 u84 u85 u86 u87 u88 u89 u90 u91 u92 u93 u94 u95 u96 u97 u98 u99 u100 u101 u102 u103 u104 u105 u106 u107 u108 u109 u110 u111 u112 u113 u114 u115 u116 u117 u118 u119 u120 u121 u122 u123 u124 u125 u126 u127 u128 u129 u130 u131 u132 u133 u134 u135 u136 u137 u138 u139 u140 u141 u142 u143 u144 u145 u146 u147 u148 u149 u150 u151 u152 u153 u154 u155 u156 u157 u158 u159 u160 u161 u162 u163 u164 u165 u166 u167 u168 u169 u170 u171 u172 u173 u174 u175 u176 u177 u178 u179 u180 u181 u182 u183 u184 u185 u186 u187 u188 u189 u190 u191 u192 u193 u194 u195 u196 u197 u198 u199 u200 u201 u202 u203 u204 u205 u206 u207 u208 u209 u210 u211 u212 u213 u214 u215 u216 u217 u218 u219 u220 u221 u222 u223 u224 u225 u226 u227 u228 u229 u230 u231 u232 u233 u234 u235 u236 u237 u238 u239 u240 : Value} {n cA : Nat} {A A2 : Option Addr} {es : List EpD} {wr : World}
    (h1 : Sl epT wr (low wr.heap.size) A n es) (h2 : Sl epT wr (low wr.heap.size) A2 n es) (hn : n ≤ 100000)
    (Q : Exit → Act → World → Prop) (K : Act → World → Prop) (hK : ∀ a w', Code.wp Tryd.prog (restC code38u) Q a w' → K a w')
    (hQ : ∀ (s6 s23 s195 s196 s197 s198 s199 s200 s201 s202 s203 s204 s205 s206 s207 s208 s209 : Value) (w' : World), Kept wr w' → Q .normal ⟨#[u0, u1, u2, u3, u4, u5, s6, u7, u8, u9, .slice A n cA, u11, u12, u13, u14, u15, u16, u17, .slice A2 n n, u19, u20, u21, u22, s23, u24, u25, u26, u27, u28, u29, u30, u31, u32, u33, u34, u35, u36, u37, u38, u39, u40, u41, u42, u43, u44, u45, u46, u47, u48, u49, u50, u51, u52, u53, u54, u55, u56, u57, u58, u59, u60, u61, u62, u63, u64, u65, u66, u67, u68, u69, u70, u71, u72, u73, u74, u75, u76, u77, u78, u79, u80, u81, u82, u83, u84, u85, u86, u87, u88, u89, u90, u91, u92, u93, u94, u95, u96, u97, u98, u99, u100, u101, u102, u103, u104, u105, u106, u107, u108, u109, u110, u111, u112, u113, u114, u115, u116, u117, u118, u119, u120, u121, u122, u123, u124, u125, u126, u127, u128, u129, u130, u131, u132, u133, u134, u135, u136, u137, u138, u139, u140, u141, u142, u143, u144, u145, u146, u147, u148, u149, u150, u151, u152, u153, u154, u155, u156, u157, u158, u159, u160, u161, u162, u163, u164, u165, u166, u167, u168, u169, u170, u171, u172, u173, u174, u175, u176, u177, u178, u179, u180, u181, u182, u183, u184, u185, u186, u187, u188, u189, u190, u191, u192, u193, u194, s195, s196, s197, s198, s199, s200, s201, s202, s203, s204, s205, s206, s207, s208, s209, u210, u211, u212, u213, u214, u215, u216, u217, u218, u219, u220, u221, u222, u223, u224, u225, u226, u227, u228, u229, u230, u231, u232, u233, u234, u235, u236, u237, u238, u239, u240], []⟩ w') :
    Code.wp Tryd.prog (headC code38u) (Exit.then K Q) ⟨#[u0, u1, u2, u3, u4, u5, u6, u7, u8, u9, .slice A n cA, u11, u12, u13, u14, u15, u16, u17, .slice A2 n n, u19, u20, u21, u22, u23, u24, u25, u26, u27, u28, u29, u30, u31, u32, u33, u34, u35, u36, u37, u38, u39, u40, u41, u42, u43, u44, u45, u46, u47, u48, u49, u50, u51, u52, u53, u54, u55, u56, u57, u58, u59, u60, u61, u62, u63, u64, u65, u66, u67, u68, u69, u70, u71, u72, u73, u74, u75, u76, u77, u78, u79, u80, u81, u82, u83, u84, u85, u86, u87, u88, u89, u90, u91, u92, u93, u94, u95, u96, u97, u98, u99, u100, u101, u102, u103, u104, u105, u106, u107, u108, u109, u110, u111, u112, u113, u114, u115, u116, u117, u118, u119, u120, u121, u122, u123, u124, u125, u126, u127, u128, u129, u130, u131, u132, u133, u134, u135, u136, u137, u138, u139, u140, u141, u142, u143, u144, u145, u146, u147, u148, u149, u150, u151, u152, u153, u154, u155, u156, u157, u158, u159, u160, u161, u162, u163, u164, u165, u166, u167, u168, u169, u170, u171, u172, u173, u174, u175, u176, u177, u178, u179, u180, u181, u182, u183, u184, u185, u186, u187, u188, u189, u190, u191, u192, u193, u194, u195, u196, u197, u198, u199, u200, u201, u202, u203, u204, u205, u206, u207, u208, u209, u210, u211, u212, u213, u214, u215, u216, u217, u218, u219, u220, u221, u222, u223, u224, u225, u226, u227, u228, u229, u230, u231, u232, u233, u234, u235, u236, u237, u238, u239, u240], []⟩ wr := by
  have HQ := hide hQ
  have H1 := hide h1
  have H2 := hide h2
  clear hQ h1 h2
  conv => arg 2; whnf
  conv at hK => enter [a, w', 1, 2]; whnf
  go_wp2_with fail
  obtain ⟨w0, rfl⟩ : ∃ w0, w0 = wr := ⟨_, rfl⟩
  go_loopg [23] n (fun g s23 wx => ∃ k : Nat, k + g = n ∧ s23 = .int .i64 k ∧ Kept w0 wx)
  case atStart => exact ⟨0, by omega, rfl, Below.refl _ _⟩
  case round =>
    obtain ⟨k, hk, rfl, hkr⟩ := hrel
    have Hk := hide hk
    clear hk
    by_cases hlk : k < n
    case neg =>
      have hge : (n : Int) ≤ (k : Int) := by omega
      go_wp2_with fail
      exact HQ.out _ _ _ _ _ _ _ _ _ _ _ _ _ _ _ _ _ _ hkr
    case pos =>
    obtain ⟨e1, b1, f1, c1, he1, rfl, hb1, hr1, hc1⟩ := H1.out.at hlk
    obtain ⟨e2, b2, f2, c2, he2, rfl, hb2, hr2, hc2⟩ := H2.out.at hlk
    obtain ⟨rfl, ho1⟩ : c1 = e1.cells ∧ e1.ok := hr1
    obtain ⟨rfl, ho2⟩ : c2 = e2.cells ∧ e2.ok := hr2
    have hee : e1 = e2 := by rw [he1] at he2; injection he2
    subst hee
    have y1 := fun (o : Nat) v (hv : e1.cells[o]? = some v) => (hkr.cell (p := ⟨b1, f1 + k * 5 + o, none⟩) hb1).trans (hc1 o v hv)
    have y2 := fun (o : Nat) v (hv : e1.cells[o]? = some v) => (hkr.cell (p := ⟨b2, f2 + k * 5 + o, none⟩) hb2).trans (hc2 o v hv)
    have z0 := y1 0 _ rfl
    rw [Nat.add_zero] at z0
    have z1 := y1 1 _ rfl
    have z2 := y1 2 _ rfl
    have z3 := y1 3 _ rfl
    have z4 := y1 4 _ rfl
    have x0 := y2 0 _ rfl
    rw [Nat.add_zero] at x0
    have x1 := y2 1 _ rfl
    have x2 := y2 2 _ rfl
    have x3 := y2 3 _ rfl
    have x4 := y2 4 _ rfl
    have hbw1 : b1 < wr.heap.size := Nat.lt_of_lt_of_le hb1 hkr.size
    have hbw2 : b2 < wr.heap.size := Nat.lt_of_lt_of_le hb2 hkr.size
    have hq := fun w => neqEp e1 e1 w
    simp only [sameEp_refl] at hq
    unfold EpD.cells at hq
    have hk0 : (0 : Int) ≤ (k : Int) := by omega
    have hkm : (k : Int) < (n : Int) := by omega
    have hwk : IntKind.i64.wrap ((k : Int) + 1) = ((k + 1 : Nat) : Int) := by rw [IntKind.wrap_i64]; omega
    clear y1 y2 hc1 hc2 he1 he2 ho1 ho2
    go_upto_region 41 with (fail)
    go_quiet (fail)
    go_wp2_with fail
    go_roundg (gk - 1)
    case measure => have := Hk.out; omega
    case rel => exact ⟨k + 1, by have := Hk.out; omega, by first | rfl | go_num, by first | exact below_drewN hkr _ | go_grown⟩
set_option maxRecDepth 1000000 in
set_option maxHeartbeats 16000000 in
theorem use_first {u0 u1 u2 u3 u4 u5 u6 u7 u9 u10 u11 u12 u13 u14 u15 u16 u17 u18 u19 u20 u21 u22 u23 u24 u25 u26 u27 u28 u29 u30 u31 u32 u33 u34 u35 u36 u37 u38 u39 u40 u41 u42 u43 u44 u45 u46 u47 u48 u49 u50 u51 u52 u53 u54 u55 u56 u57 u58 u59 u60 u61 u62 u63 u64 u65 u66 u67 u68 u69 u70 u71 u72 u73 u74 u75 u76 u77 u78 u79 u80 u81 u82 u83 u84 u85 u86 u87 u88 u89 u90 u91 u92 u93 u94 u95 u96 u97 u98 u99 u100 u101 u102 u103 u104 u105 u106 u107 u108 u109 u110 u111 u112 u113 u114 u115 u116 u117 u118 u119 u120 u121 u122 u123 u124 u125 u126 u127 u128 u129 u130 u131 u132 u133 u134 u135 u136 u137 u138 u139 u140 u141 u142 u143 u144 u145 u146 u147 u148 u149 u150 u151 u152 u153 u154 u155 u156 u157 u158 u159 u160 u161 u162 u163 u164 u165 u166 u167 u168 u169 u170 u171 u172 u173 u174 u175 u176 u177 u178 u179 u180 u181 u182 u183 u184 u185 u186 u187 u188 u189 u190 u191 u192 u193 u194 u195 u196 u197 u198 u199 u200 u201 u202 u203 u204 u205 u206 u207 u208 u209 u210 u211 u212 u213 u214 u215 u216 u217 u218 u219 u220 u221 u222 u223 u224 u225 u226 u227 u228 u229 u230 u231 u232 u233 u234 u235 u236 u237 u238 u239 u240 : Value} {n b : Nat} {wr : World}
    (hz : wr.heap[b]? = some (.cells ((List.replicate n (0 : Int)).map (Value.int .u8)).toArray 5 (0, 0))) (hn : n ≤ 100000)
    (Q : Exit → Act → World → Prop) (K : Act → World → Prop) (hK : ∀ a w', Code.wp Tryd.prog (restC code7u) Q a w' → K a w')
    (hQ : ∀ (s6 s9 s43 s44 s45 s46 s47 s48 s49 s50 s51 s52 s53 : Value) (w' : World), Kept wr w' → Q .normal ⟨#[u0, u1, u2, u3, u4, u5, s6, u7, .slice (some ⟨b, 0, none⟩) n n, s9, u10, u11, u12, u13, u14, u15, u16, u17, u18, u19, u20, u21, u22, u23, u24, u25, u26, u27, u28, u29, u30, u31, u32, u33, u34, u35, u36, u37, u38, u39, u40, u41, u42, s43, s44, s45, s46, s47, s48, s49, s50, s51, s52, s53, u54, u55, u56, u57, u58, u59, u60, u61, u62, u63, u64, u65, u66, u67, u68, u69, u70, u71, u72, u73, u74, u75, u76, u77, u78, u79, u80, u81, u82, u83, u84, u85, u86, u87, u88, u89, u90, u91, u92, u93, u94, u95, u96, u97, u98, u99, u100, u101, u102, u103, u104, u105, u106, u107, u108, u109, u110, u111, u112, u113, u114, u115, u116, u117, u118, u119, u120, u121, u122, u123, u124, u125, u126, u127, u128, u129, u130, u131, u132, u133, u134, u135, u136, u137, u138, u139, u140, u141, u142, u143, u144, u145, u146, u147, u148, u149, u150, u151, u152, u153, u154, u155, u156, u157, u158, u159, u160, u161, u162, u163, u164, u165, u166, u167, u168, u169, u170, u171, u172, u173, u174, u175, u176, u177, u178, u179, u180, u181, u182, u183, u184, u185, u186, u187, u188, u189, u190, u191, u192, u193, u194, u195, u196, u197, u198, u199, u200, u201, u202, u203, u204, u205, u206, u207, u208, u209, u210, u211, u212, u213, u214, u215, u216, u217, u218, u219, u220, u221, u222, u223, u224, u225, u226, u227, u228, u229, u230, u231, u232, u233, u234, u235, u236, u237, u238, u239, u240], []⟩ w') :
    Code.wp Tryd.prog (headC code7u) (Exit.then K Q) ⟨#[u0, u1, u2, u3, u4, u5, u6, u7, .slice (some ⟨b, 0, none⟩) n n, u9, u10, u11, u12, u13, u14, u15, u16, u17, u18, u19, u20, u21, u22, u23, u24, u25, u26, u27, u28, u29, u30, u31, u32, u33, u34, u35, u36, u37, u38, u39, u40, u41, u42, u43, u44, u45, u46, u47, u48, u49, u50, u51, u52, u53, u54, u55, u56, u57, u58, u59, u60, u61, u62, u63, u64, u65, u66, u67, u68, u69, u70, u71, u72, u73, u74, u75, u76, u77, u78, u79, u80, u81, u82, u83, u84, u85, u86, u87, u88, u89, u90, u91, u92, u93, u94, u95, u96, u97, u98, u99, u100, u101, u102, u103, u104, u105, u106, u107, u108, u109, u110, u111, u112, u113, u114, u115, u116, u117, u118, u119, u120, u121, u122, u123, u124, u125, u126, u127, u128, u129, u130, u131, u132, u133, u134, u135, u136, u137, u138, u139, u140, u141, u142, u143, u144, u145, u146, u147, u148, u149, u150, u151, u152, u153, u154, u155, u156, u157, u158, u159, u160, u161, u162, u163, u164, u165, u166, u167, u168, u169, u170, u171, u172, u173, u174, u175, u176, u177, u178, u179, u180, u181, u182, u183, u184, u185, u186, u187, u188, u189, u190, u191, u192, u193, u194, u195, u196, u197, u198, u199, u200, u201, u202, u203, u204, u205, u206, u207, u208, u209, u210, u211, u212, u213, u214, u215, u216, u217, u218, u219, u220, u221, u222, u223, u224, u225, u226, u227, u228, u229, u230, u231, u232, u233, u234, u235, u236, u237, u238, u239, u240], []⟩ wr := by
  have HQ := hide hQ
  have HZ := hide hz
  clear hQ hz
  conv => arg 2; whnf
  conv at hK => enter [a, w', 1, 2]; whnf
  go_wp2_with fail
  obtain ⟨w0, rfl⟩ : ∃ w0, w0 = wr := ⟨_, rfl⟩
  go_loopg [9] n (fun g s9 wx => ∃ k : Nat, k + g = n ∧ s9 = .int .i64 k ∧ Kept w0 wx)
  case atStart => exact ⟨0, by omega, rfl, Below.refl _ _⟩
  case round =>
    obtain ⟨k, hk, rfl, hkr⟩ := hrel
    have Hk := hide hk
    clear hk
    by_cases hlk : k < n
    case neg =>
      have hge : (n : Int) ≤ (k : Int) := by omega
      go_wp2_with fail
      exact HQ.out _ _ _ _ _ _ _ _ _ _ _ _ _ _ hkr
    case pos =>
    have hZr := heap_kept hkr HZ.out
    have z0 : wr.cell? ⟨b, k, none⟩ = some (.int .u8 0) := cell_heap hZr (o := k) (by simp [List.getElem?_replicate, hlk])
    have lb := heap_lt hZr
    have hk0 : (0 : Int) ≤ (k : Int) := by omega
    have hkm : (k : Int) < (n : Int) := by omega
    have hwk : IntKind.i64.wrap ((k : Int) + 1) = ((k + 1 : Nat) : Int) := by rw [IntKind.wrap_i64]; omega
    clear hZr
    go_wp2_with fail
    go_roundg (gk - 1)
    case measure => have := Hk.out; omega
    case rel => exact ⟨k + 1, by have := Hk.out; omega, by first | rfl | go_num, hkr⟩
end Go.Proofs.YtjgncofhobhjdaaDoor
