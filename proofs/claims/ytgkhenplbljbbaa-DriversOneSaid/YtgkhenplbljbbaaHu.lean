


/- DriversOne: what stands behind its first loop. The registry and the lists read as data. -/
import Derived.Test.YtgkhenplbljbbaaChecked
import Derived.Deep.RegionHeld3
import Derived.Deep.DrawnRows
import Derived.Deep.DeepCutAuto
import Derived.Deep.LoopGhost
import Derived.Outline
import Derived.Handy
import Derived.Deep.RegionLaw
import Derived.OwnWalk
import Derived.BigQuiet
import Derived.Test.YtgkhenplbljbbaaHt
import Derived.Test.YtgkhenplbljbbaaWi
set_option linter.unusedVariables false
set_option linter.unusedSimpArgs false
set_option linter.unusedSectionVars false
namespace Go.Proofs.Ytgkhenplbljbbaa
open Go.RowKit Go.Maps
attribute [local go_sem ↓] Go.wp_at_zero Go.wp_at_succ
/-- the code from a loop with its beginning on -/
def fromG (k : Nat) : Code → Option Code
  | .seq (.seq (.region i o b) x) c => if i = k then some (.seq (.seq (.region i o b) x) c) else fromG k c
  | .seq _ c => fromG k c
  | _ => none
noncomputable def code55 : Code := (Try.f7.body.bind (fromR 55)).getD .skip
noncomputable def code41 : Code := (Try.f7.body.bind (fromG 41)).getD .skip
noncomputable def code36 : Code := (Try.f7.body.bind (fromG 36)).getD .skip
set_option maxRecDepth 1000000 in
set_option maxHeartbeats 8000000 in
theorem one55 {u0 u1 u2 u3 u4 u5 u7 u8 u9 u10 u11 u12 u13 u14 u15 u16 u17 u18 u19 u20 u21 u22 u23 u24 u25 u26 u27 u28 u29 u30 u31 u32 u33 u34 u35 u36 u37 u38 u39 u40 u41 u42 u43 u44 u45 u46 u47 u48 u49 u50 u51 u52 u53 u54 u55 u56 u57 u58 u59 u60 u61 u62 u63 u64 u65 u66 u67 u68 u69 u70 u71 u72 u73 u74 u75 u76 u77 u78 u79 u80 u81 u82 u83 u84 u85 u86 u87 u88 u89 u90 u91 u92 u93 u94 u95 u96 u97 u98 u99 u100 u101 u102 u103 u104 u105 u106 u107 u108 u109 u110 u111 u112 u113 u114 u115 u116 u117 u118 u119 u120 u121 u122 u123 u124 u125 u126 u127 u128 u129 u130 u131 u132 u133 u134 u135 u136 u137 u138 u139 u140 u141 u142 u143 u144 u145 u146 u147 u148 u149 u150 u151 u152 u153 u154 u155 u156 u157 u158 u159 u160 u161 u162 u163 u164 u165 u166 u167 u168 u169 u170 u171 u172 u173 u174 u175 u176 u177 u178 u179 u180 u181 u182 u183 u184 u185 u186 u187 u188 u189 u190 u191 u192 u193 u194 u195 u196 u197 u198 u199 u200 u201 u202 u203 u204 u205 u206 u207 u208 u209 u210 u211 u212 u213 u214 u215 u216 u217 u218 u219 u220 u221 u222 u223 u224 u225 u226 u227 u228 u229 u230 u231 u232 u233 u234 u235 u236 u237 u238 u239 u240 u241 u242 u243 u244 u245 u246 u247 u248 u249 u250 u251 u252 u253 u254 u255 u256 : Value} {X : Nat → Prop} {G m nl K0 : Nat} {l : List Drv} {S : St} (w W : World) (hkw : Kept w W) (hR : Reg W X G m nl l K0 S) (hnl : nl ≤ maxLen) (hK0 : K0 ≤ 200000) (hgd : ∀ n, GoodC l (S n)) (h8 : ∀ n, 8 ≤ n → S n = none) (hno : ∀ d ∈ l, sameB d.name noneB = false)
    (K : Act → World → Prop) (hK : ∀ a w', Code.wp Try.prog (restC code55) (bodyPost Try.prog Try.f7 fun e w' => e = .returned (.bool true) ∧ Kept w w') a w' → K a w') :
    Code.wp Try.prog (headC code55) (Exit.then K (bodyPost Try.prog Try.f7 fun e w' => e = .returned (.bool true) ∧ Kept w w')) ⟨#[u0, u1, u2, u3, u4, u5, .pointer (some ⟨G, 0, none⟩), u7, u8, u9, u10, u11, u12, u13, u14, u15, u16, u17, u18, u19, u20, u21, u22, u23, u24, u25, u26, u27, u28, u29, u30, u31, u32, u33, u34, u35, u36, u37, u38, u39, u40, u41, u42, u43, u44, u45, u46, u47, u48, u49, u50, u51, u52, u53, u54, u55, u56, u57, u58, u59, u60, u61, u62, u63, u64, u65, u66, u67, u68, u69, u70, u71, u72, u73, u74, u75, u76, u77, u78, u79, u80, u81, u82, u83, u84, u85, u86, u87, u88, u89, u90, u91, u92, u93, u94, u95, u96, u97, u98, u99, u100, u101, u102, u103, u104, u105, u106, u107, u108, u109, u110, u111, u112, u113, u114, u115, u116, u117, u118, u119, u120, u121, u122, u123, u124, u125, u126, u127, u128, u129, u130, u131, u132, u133, u134, u135, u136, u137, u138, u139, u140, u141, u142, u143, u144, u145, u146, u147, u148, u149, u150, u151, u152, u153, u154, u155, u156, u157, u158, u159, u160, u161, u162, u163, u164, u165, u166, u167, u168, u169, u170, u171, u172, u173, u174, u175, u176, u177, u178, u179, u180, u181, u182, u183, u184, u185, u186, u187, u188, u189, u190, u191, u192, u193, u194, u195, u196, u197, u198, u199, u200, u201, u202, u203, u204, u205, u206, u207, u208, u209, u210, u211, u212, u213, u214, u215, u216, u217, u218, u219, u220, u221, u222, u223, u224, u225, u226, u227, u228, u229, u230, u231, u232, u233, u234, u235, u236, u237, u238, u239, u240, u241, u242, u243, u244, u245, u246, u247, u248, u249, u250, u251, u252, u253, u254, u255, u256], []⟩ W := by
  conv => arg 2; whnf
  conv at hK => enter [a, w', 1, 2]; whnf
  have Hno := hide (ofS_none (S := S) hno (keysTo S 256))
  have Hgd := hide hgd
  have hs200 : bindS l ((200 : Nat) : Int) (S 200) = [] := by rw [h8 200 (by decide)]; rfl
  have Hs200 := hide hs200
  have h12 := keys_eight h8
  clear hno hgd hs200
  go_wp2_with (first
    | (go_at_call 27; refine (of_any hR hnl hK0 Hgd.out h12 noneB).mono ?_; rw [Hno.out]; rintro e w1 ⟨A1, rfl, hs1, hk1⟩)
    | (go_at_call 26; refine (bound_any (hR.kept hk1) hnl 200 (by decide) (Hgd.out 200)).mono ?_; rw [Hs200.out]; rintro e w2 ⟨A2, rfl, hs2, hk2⟩)
    | (go_at_call 17; refine (lives_any _).mono ?_; rintro e w9 ⟨rfl, hk9⟩))
  go_ret
  exact ⟨rfl, ((hkw.trans' hk1).trans' hk2).trans' hk9⟩
set_option maxRecDepth 1000000 in
set_option maxHeartbeats 8000000 in
theorem one41 {u0 u1 u2 u3 u4 u7 u8 u10 u11 u12 u13 u14 u15 u16 u17 u18 u19 u20 u21 u22 u23 u24 u25 u26 u27 u28 u29 u30 u31 u32 u33 u34 u35 u36 u37 u38 u39 u40 u41 u42 u43 u44 u45 u46 u47 u48 u49 u50 u51 u52 u53 u54 u55 u56 u57 u58 u59 u60 u61 u62 u63 u64 u65 u66 u67 u68 u69 u70 u71 u72 u73 u74 u75 u76 u77 u78 u79 u80 u81 u82 u83 u84 u85 u86 u87 u88 u89 u90 u91 u92 u93 u94 u95 u96 u97 u98 u99 u100 u101 u102 u103 u104 u105 u106 u107 u108 u109 u110 u111 u112 u113 u114 u115 u116 u117 u118 u119 u120 u121 u122 u123 u124 u125 u126 u127 u128 u129 u130 u131 u132 u133 u134 u135 u136 u137 u138 u139 u140 u141 u142 u143 u144 u145 u146 u147 u148 u149 u150 u151 u152 u153 u154 u155 u156 u157 u158 u159 u160 u161 u162 u163 u164 u165 u166 u167 u168 u169 u170 u171 u172 u173 u174 u175 u176 u177 u178 u179 u180 u181 u182 u183 u184 u185 u186 u187 u188 u189 u190 u191 u192 u193 u194 u195 u196 u197 u198 u199 u200 u201 u202 u203 u204 u205 u206 u207 u208 u209 u210 u211 u212 u213 u214 u215 u216 u217 u218 u219 u220 u221 u222 u223 u224 u225 u226 u227 u228 u229 u230 u231 u232 u233 u234 u235 u236 u237 u238 u239 u240 u241 u242 u243 u244 u245 u246 u247 u248 u249 u250 u251 u252 u253 u254 u255 u256 : Value} {X : Nat → Prop} {G m nl K0 : Nat} {l : List Drv} {S : St} (w W : World) (hkw : Kept w W) (hR : Reg W X G m nl l K0 S) (hnl : nl ≤ maxLen) (hK0 : K0 ≤ 200000) (hgd : ∀ n, GoodC l (S n)) (h8 : ∀ n, 8 ≤ n → S n = none) (hno : ∀ d ∈ l, sameB d.name noneB = false) {base T B : Nat} {vs : Nat → Value} {th : Nat → Bool} (hMem : Mem W base T B vs (fun n => bindS l (n : Int) (S n)) th) {A : Option Addr} {c : Nat} {w0 : World} (hk0 : Kept w0 W) (hl : Sl drvT w0 (low w0.heap.size) A nl l)
    (K K2 : Act → World → Prop) (hK : ∀ a w', Code.wp Try.prog (restC (headC code41)) (Exit.then K2 (bodyPost Try.prog Try.f7 fun e w' => e = .returned (.bool true) ∧ Kept w w')) a w' → K a w') (hK2 : ∀ a w', Code.wp Try.prog (restC code41) (bodyPost Try.prog Try.f7 fun e w' => e = .returned (.bool true) ∧ Kept w w') a w' → K2 a w') :
    Code.wp Try.prog (headC (headC code41)) (Exit.then K (Exit.then K2 (bodyPost Try.prog Try.f7 fun e w' => e = .returned (.bool true) ∧ Kept w w'))) ⟨#[u0, u1, u2, u3, u4, .slice A nl c, .pointer (some ⟨G, 0, none⟩), u7, u8, .pointer (some ⟨B, 0, none⟩), u10, u11, u12, u13, u14, u15, u16, u17, u18, u19, u20, u21, u22, u23, u24, u25, u26, u27, u28, u29, u30, u31, u32, u33, u34, u35, u36, u37, u38, u39, u40, u41, u42, u43, u44, u45, u46, u47, u48, u49, u50, u51, u52, u53, u54, u55, u56, u57, u58, u59, u60, u61, u62, u63, u64, u65, u66, u67, u68, u69, u70, u71, u72, u73, u74, u75, u76, u77, u78, u79, u80, u81, u82, u83, u84, u85, u86, u87, u88, u89, u90, u91, u92, u93, u94, u95, u96, u97, u98, u99, u100, u101, u102, u103, u104, u105, u106, u107, u108, u109, u110, u111, u112, u113, u114, u115, u116, u117, u118, u119, u120, u121, u122, u123, u124, u125, u126, u127, u128, u129, u130, u131, u132, u133, u134, u135, u136, u137, u138, u139, u140, u141, u142, u143, u144, u145, u146, u147, u148, u149, u150, u151, u152, u153, u154, u155, u156, u157, u158, u159, u160, u161, u162, u163, u164, u165, u166, u167, u168, u169, u170, u171, u172, u173, u174, u175, u176, u177, u178, u179, u180, u181, u182, u183, u184, u185, u186, u187, u188, u189, u190, u191, u192, u193, u194, u195, u196, u197, u198, u199, u200, u201, u202, u203, u204, u205, u206, u207, u208, u209, u210, u211, u212, u213, u214, u215, u216, u217, u218, u219, u220, u221, u222, u223, u224, u225, u226, u227, u228, u229, u230, u231, u232, u233, u234, u235, u236, u237, u238, u239, u240, u241, u242, u243, u244, u245, u246, u247, u248, u249, u250, u251, u252, u253, u254, u255, u256], []⟩ W := by
  conv => arg 2; whnf
  conv at hK => enter [a, w', 1, 2]; whnf
  conv at hK2 => enter [a, w', 1, 2]; whnf
  obtain ⟨i2, hi2, hz20, hz21, hz22⟩ := info_parts info82
  go_wp2_with fail
  have Hgd := hide hgd
  have H8 := hide h8
  have Hno := hide hno
  have h12 := keys_eight h8
  have Hnl := hide hnl
  unfold maxLen at hnl
  clear hgd h8 hno
  have hll := hide hl.1
  have hnm : ∀ wr : World, Kept W wr → B < wr.heap.size := fun wr hk => Nat.lt_of_lt_of_le (hMem.list (n := 0) (by decide)).2.2 hk.size
  have Hnm := hide hnm
  clear hnm
  go_loopg [22] nl (fun g s22 wr => ∃ i : Nat, i + g = nl ∧ s22 = .int .i64 i ∧ Kept W wr)
  case atStart => exact ⟨0, by omega, rfl, Below.refl _ _⟩
  case round =>
    obtain ⟨i, hi, rfl, hkr⟩ := hrel
    have Hi := hide hi
    clear hi
    by_cases hil : i < nl
    · have hil' : (i : Int) < (nl : Int) := by omega
      have hi0 : (0 : Int) ≤ (i : Int) := by omega
      obtain ⟨d, b, off, A', c', hd, rfl, hb, hbr, _, _, hns, hd0, hd1, _⟩ := drv_at hl (hk0.trans' hkr) hil
      have Hd := hide hd
      clear hd hd1 hbr hd0
      generalize hs : d.name = s at *
      have Hs := hide hs
      clear hs
      go_wp2_with fail
      obtain ⟨wo, rfl⟩ : ∃ wo : World, wo = wr := ⟨_, rfl⟩
      obtain ⟨go, rfl⟩ : ∃ g : Nat, g = gk := ⟨_, rfl⟩
      have Hkr := hide hkr
      clear hkr
      go_loopg [23, 24] 8 (fun g s23 s24 wr => ∃ n : Nat, n + g = 8 ∧ s24 = .int .i64 n ∧ Own bdT 82 wo.heap.size wr s23 (ofS l S s (List.range n)).length (ofS l S s (List.range n)) ∧ Kept wo wr)
      case atStart => exact ⟨0, by omega, rfl, Own.nil _ _ _ _, Below.refl _ _⟩
      case round =>
        obtain ⟨n, hn, rfl, hown, hkn⟩ := hrel
        have Hn := hide hn
        clear hn
        by_cases hn8 : n < 8
        · have hn8' : (n : Int) < 8 := by omega
          have hn0 : (0 : Int) ≤ (n : Int) := by omega
          have HcB := hide (fun (wr : World) (hk : Kept wo wr) => (hMem.kept (Hkr.out.trans' hk)).list hn8)
          obtain ⟨A3, c3, hv3, _, _⟩ := (hMem.own n hn8).isSlice
          have hso := hMem.own n hn8
          rw [hv3] at hso HcB
          have hsl3 := hso.sl
          obtain ⟨cB, _, hBl⟩ := HcB.out _ hkn
          have hbl := bindS_len (n := (n : Int)) (Hgd.out n)
          have Hof := hide (show ofS l S s (List.range (n + 1)) = ofS l S s (List.range n) ++ (bindS l (n : Int) (S n)).filter (fun b => sameB b.d s) by rw [List.range_succ]; unfold ofS; rw [List.flatMap_append]; simp)
          have hol := Nat.le_trans (ofS_len (l := l) (S := S) Hgd.out s (List.range n)) (show 5 * (List.range n).length ≤ 40 by rw [List.length_range]; omega)
          clear hv3 hso
          generalize hpre : ofS l S s (List.range n) = pre at *
          generalize hnx : ofS l S s (List.range (n + 1)) = nxt at *
          generalize hbs : bindS l (n : Int) (S n) = bs at *
          have Hpre := hide hpre
          have Hnx := hide hnx
          have Hbs := hide hbs
          clear hpre hnx hbs
          generalize hbn : bs.length = bn at *
          have Hbn := hide hbn
          clear hbn
          have Hown := hide hown
          clear hown
          go_wp2_with fail
          obtain ⟨wi, rfl⟩ : ∃ wi : World, wi = wr := ⟨_, rfl⟩
          obtain ⟨gi, rfl⟩ : ∃ g : Nat, g = gk := ⟨_, rfl⟩
          have Hkn := hide hkn
          clear hkn
          go_loopg [23, 25] bn (fun g s23 s25 wr => ∃ j : Nat, j + g = bn ∧ s25 = .int .i64 j ∧ Own bdT 82 wo.heap.size wr s23 (pre ++ (bs.take j).filter (fun b => sameB b.d s)).length (pre ++ (bs.take j).filter (fun b => sameB b.d s)) ∧ Kept wo wr)
          case atStart => exact ⟨0, by omega, rfl, by simpa using Hown.out, Hkn.out⟩
          case round =>
            clear Hown Hkn cB hBl
            obtain ⟨j, hj, rfl, hown, hkj⟩ := hrel
            obtain ⟨cB, _, hBl⟩ := HcB.out _ hkj
            have Hj := hide hj
            clear hj
            by_cases hlj : j < bn
            · obtain ⟨y, b2, off2, hy, rfl, hb2, hb2r, hyl, y0, y1, y2⟩ := bd_at hsl3 (Hkr.out.trans' hkj) hlj
              obtain ⟨d', b', off', A', c', hd, hAe, hb', hbr', _, _, hns', hd0, hd1, _⟩ := drv_at hl (hk0.trans' (Hkr.out.trans' hkj)) hil
              injection hAe with hAe
              injection hAe with hAe1 hAe2 _
              subst hAe1 hAe2
              have hs2 := Hs.out
              rw [Hd.out] at hd
              injection hd with hd
              subst hd
              rw [hs2] at hd0
              clear hs2 hd1
              have hlj' : (j : Int) < (bn : Int) := by omega
              have hj0 : (0 : Int) ≤ (j : Int) := by omega
              have hfl : (pre ++ (bs.take j).filter (fun b => sameB b.d s)).length ≤ 45 := by
                rw [List.length_append]
                have h1 := List.length_filter_le (fun b : Bind => sameB b.d s) (bs.take j)
                rw [List.length_take] at h1
                omega
              have Hown := hide hown
              clear hown
              by_cases hsy : sameB y.d s = true
              · have Hf := hide (filter_yes (s := s) hy hsy)
                have hsy' : (y.d.toList == s.toList) = true := (sameL _ _).trans hsy
                clear hy
                generalize hout : pre ++ (bs.take j).filter (fun b => sameB b.d s) = out at *
                have Hout := hide hout
                clear hout
                go_upto_region 51 with (fail)
                go_quiet (fail)
                go_wp2_with (at_builtin; refine wpList_append_el (T := bdT) rfl (.tmp 227) (.tmp 234) 73 rfl wo.heap.size 82 i2 _ 32 Try.underlying73 hi2 hz20 hz21 hz22 rfl (by decide) _ out.length out (by rfl) ((Hown.out.kept (below_drewN (Below.refl _ wr) _)).alloc _) _ _ _ y (by rfl) (heap_at _ rfl) ⟨rfl, hyl⟩ (by simp [Value.oneCell']) (by unfold maxLen; omega) (by omega) (by have := hkj.size; simp; omega) ?_; intro g cap w4 hown4 hg4 hb4 hat4 hlt4)
                go_roundg (gk - 1)
                case measure => have := Hj.out; omega
                case rel => exact ⟨j + 1, by have := Hj.out; omega, by go_num, by rw [Hf.out, ← List.append_assoc, Hout.out, List.length_append]; exact hown4, Below.trans (Below.alloc (below_drewN hkj _) hkj.size _) hb4⟩
              · have Hf := hide (filter_no (s := s) hy hsy)
                have hsy' : (y.d.toList == s.toList) = false := (sameL _ _).trans (by simpa using hsy)
                clear hy
                generalize hout : pre ++ (bs.take j).filter (fun b => sameB b.d s) = out at *
                have Hout := hide hout
                clear hout
                go_upto_region 51 with (fail)
                go_quiet (fail)
                go_wp2_with fail
                go_roundg (gk - 1)
                case measure => have := Hj.out; omega
                case rel => exact ⟨j + 1, by have := Hj.out; omega, by go_num, by rw [Hf.out, Hout.out]; exact Hown.out.kept (below_drewN (Below.refl _ wr) _), below_drewN hkj _⟩
            · have hjn : j = bn := by have := Hj.out; omega
              have hlj' : (bn : Int) ≤ (j : Int) := by omega
              have hall : bs.take j = bs := by rw [hjn, ← Hbn.out, List.take_length]
              rw [hall, ← Hof.out] at hown
              clear hall
              have Hown := hide hown
              clear hown
              go_wp2_with fail
              go_roundg (gi - 1)
              case measure => have := Hn.out; omega
              case rel => exact ⟨n + 1, by have := Hn.out; omega, by go_num, by rw [Hnx.out]; exact Hown.out, hkj⟩
        · have hn88 : n = 8 := by have := Hn.out; omega
          have hn8' : (8 : Int) ≤ (n : Int) := by omega
          rw [hn88, ← ofS_eight l s H8.out] at hown
          rw [hn88] at hn8'
          clear hn88
          obtain ⟨A5, c5, rfl, h51, h52⟩ := hown.isSlice
          have hsl5 := hown.sl
          clear hown
          have hkW := Hkr.out.trans' hkn
          obtain ⟨d', b', off', A', c', hd, hAe, hb', hbr', _, _, hns', hd0, hd1, _⟩ := drv_at hl (hk0.trans' hkW) hil
          injection hAe with hAe
          injection hAe with hAe1 hAe2 _
          subst hAe1 hAe2
          have hs2 := Hs.out
          rw [Hd.out] at hd
          injection hd with hd
          subst hd
          rw [hs2] at hd0
          clear hs2 hd1
          have hof := fun (w' : World) (hk : Kept W w') => of_any (hR.kept hk) Hnl.out hK0 Hgd.out h12 s
          have hol := Nat.le_trans (ofS_len (l := l) (S := S) Hgd.out s (keysTo S 256)) (show 5 * (keysTo S 256).length ≤ 60 by omega)
          generalize hL : ofS l S s (keysTo S 256) = L at *
          have HL := hide hL
          clear hL
          have hLl := hsl5.1
          generalize hN : L.length = N at *
          have HN := hide hN
          clear hN hLl
          go_wp2_with (first
            | (go_at_call 27; refine (hof _ (by exact hkW)).mono ?_; rintro e w1 ⟨A1, rfl, hs1, hk1⟩)
            | (go_at_call 24; refine (equal_any _ _ _ _ _ _ (by unfold maxLen; omega) (by exact hs1.keep (fun b hb => hb.2) (fun _ _ _ => rfl)) (by exact hsl5.kept hk1)).mono ?_; rintro e w2 ⟨rfl, hk2⟩))
          go_roundg (go - 1)
          case measure => have := Hi.out; omega
          case rel => exact ⟨i + 1, by have := Hi.out; omega, by go_num, (hkW.trans' hk1).trans' hk2⟩
    · have hil' : (nl : Int) ≤ (i : Int) := by omega
      go_upto_region 55 with (fail)
      refine one55 w wr (hkw.trans' hkr) (hR.kept hkr) Hnl.out hK0 Hgd.out H8.out Hno.out _ ?_
      assumption
end Go.Proofs.Ytgkhenplbljbbaa
