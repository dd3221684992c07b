/- The law Items. -/
import Derived.Test.YtegdigfcgeoboaaChecked
import Derived.Deep.RegionHeld3
import Derived.Deep.DrawnRows
import Derived.Deep.DeepCutAuto
import Derived.Deep.LoopGhost
import Derived.Outline
import Derived.Handy
import Derived.OwnWalk
import Derived.BigQuiet
import Derived.Test.YtegdigfcgeoboaaN2
import Derived.Test.YtegdigfcgeoboaaN12
import Derived.Test.YtegdigfcgeoboaaN10
import Derived.Test.YtegdigfcgeoboaaN13
import Derived.Test.YtegdigfcgeoboaaN1
set_option linter.unusedVariables false
set_option linter.unusedSimpArgs false
set_option linter.unusedSectionVars false
/- ReportsItems from region 32 on. Printed by gen_u.py. -/
namespace Go.Proofs.Ytegdigfcgeoboaa
open Go.RowKit
attribute [local go_sem ↓] Go.wp_at_zero Go.wp_at_succ

noncomputable def codeI4 : Code := (Try.f3.body.bind (fromR 32)).getD .skip
set_option maxRecDepth 1000000 in
set_option maxHeartbeats 8000000 in
theorem items_4 {u0 u2 u3 u4 u5 u6 u7 u8 u9 u10 u11 u12 u13 u16 u17 u18 u19 u20 u21 u22 u23 u24 u25 u26 u27 u28 u29 u30 u31 u32 u33 u34 u35 u36 u37 u38 u39 u40 u41 u42 u43 u44 u45 u46 u47 u48 u49 u50 u51 u52 u53 u54 u55 u56 u57 u58 u59 u60 u61 u62 u63 u64 u65 u66 u67 u68 u69 u70 u71 u72 u73 u74 u75 u76 u77 u78 u79 u80 u81 u82 u83 u84 u85 u86 u87 u88 u89 u90 u91 u92 u93 u94 u95 u96 u97 u98 u99 u100 u101 u102 u103 u104 u105 u106 u107 u108 u109 u110 u111 u112 u113 u114 u115 u116 u117 u118 u119 u120 u121 u122 u123 u124 u125 u126 u127 u128 u129 u130 u131 u132 u133 u134 u135 u136 u137 u138 u139 u140 u141 u142 u143 u144 u145 u146 u147 u148 u149 u150 u151 u152 u153 u154 u155 u156 u157 u158 u159 u160 u161 u162 u163 u164 u165 u166 u167 u168 u169 u170 u171 u172 u173 u174 u175 u176 u177 u178 u179 u180 u181 u182 u183 u184 u185 u186 u187 u188 u189 u190 u191 u192 u193 u194 u195 u196 u197 u198 u199 u200 u201 u202 u203 u204 u205 u206 u207 u208 u209 u210 u211 u212 u213 u214 u215 u216 u217 u218 u219 u220 u221 u222 u223 u224 u225 u226 u227 u228 u229 u230 u231 u232 u233 : Value} {w W : World} {A2 : Option Addr} {n2 c2 n : Nat} {b : List Int} {gd : Bool} (hk : Kept w W) (hl : Sl u8T W (low W.heap.size) A2 n2 b) (hn2 : n2 ≤ 200) (hnc : n2 ≤ c2) (hc : c2 ≤ maxLen) (hgd : goodB b = gd) (hn : gd = true → (items b).length = n)
    (K : Act → World → Prop) (hK : ∀ a w', Code.wp Try.prog (restC codeI4) (bodyPost Try.prog Try.f3 fun e w' => e = .returned (.bool true) ∧ Kept w w') a w' → K a w') :
    Code.wp Try.prog (headC codeI4) (Exit.then K (bodyPost Try.prog Try.f3 fun e w' => e = .returned (.bool true) ∧ Kept w w')) ⟨#[u0, .slice A2 n2 c2, u2, u3, u4, u5, u6, u7, u8, u9, u10, u11, u12, u13, .bool gd, .int .i64 (n : Int), u16, u17, u18, u19, u20, u21, u22, u23, u24, u25, u26, u27, u28, u29, u30, u31, u32, u33, u34, u35, u36, u37, u38, u39, u40, u41, u42, u43, u44, u45, u46, u47, u48, u49, u50, u51, u52, u53, u54, u55, u56, u57, u58, u59, u60, u61, u62, u63, u64, u65, u66, u67, u68, u69, u70, u71, u72, u73, u74, u75, u76, u77, u78, u79, u80, u81, u82, u83, u84, u85, u86, u87, u88, u89, u90, u91, u92, u93, u94, u95, u96, u97, u98, u99, u100, u101, u102, u103, u104, u105, u106, u107, u108, u109, u110, u111, u112, u113, u114, u115, u116, u117, u118, u119, u120, u121, u122, u123, u124, u125, u126, u127, u128, u129, u130, u131, u132, u133, u134, u135, u136, u137, u138, u139, u140, u141, u142, u143, u144, u145, u146, u147, u148, u149, u150, u151, u152, u153, u154, u155, u156, u157, u158, u159, u160, u161, u162, u163, u164, u165, u166, u167, u168, u169, u170, u171, u172, u173, u174, u175, u176, u177, u178, u179, u180, u181, u182, u183, u184, u185, u186, u187, u188, u189, u190, u191, u192, u193, u194, u195, u196, u197, u198, u199, u200, u201, u202, u203, u204, u205, u206, u207, u208, u209, u210, u211, u212, u213, u214, u215, u216, u217, u218, u219, u220, u221, u222, u223, u224, u225, u226, u227, u228, u229, u230, u231, u232, u233], []⟩ W := by
  conv => arg 2; whnf
  conv at hK => enter [a, w', 1, 2]; whnf
  dsimp only
  have hb8 := hl.u8
  have hlen := hl.1
  cases gd with
  | false =>
    have hE : itemsE b = 4 := by unfold itemsE; rw [if_neg (by omega), if_neg (by rw [hgd]; simp)]
    have hit : ∀ w' : World, Kept W w' → Calls Try.prog 12 #[.slice A2 n2 c2] w' fun e w'' => e = .returned (.tuple #[.slice none 0 0, .int .i64 4]) ∧ Kept w' w'' := fun w' hk' => by
      have h := items_no A2 n2 c2 b w' hnc hc (hl.kept hk') (by rw [hE]; decide)
      rw [hE] at h; exact h
    clear hl hgd hn hE hb8 hlen hn2 hnc hc
    have Hk := hide hk
    clear hk
    go_wp2_with (first
      | (go_at_call 12; refine (hit _ (Below.refl _ _)).mono ?_; rintro e w1 ⟨rfl, hk1⟩)
      | (go_at_call 8; refine (lives_any _).mono ?_; rintro e w2 ⟨rfl, hk2⟩))
    go_ret
    exact ⟨rfl, Hk.out.trans' (hk1.trans' hk2)⟩
  | true =>
    have hE : itemsE b = 0 := by unfold itemsE; rw [if_neg (by omega), if_pos hgd]
    have hit : ∀ w' : World, Kept W w' → _ := fun w' hk' => items_yes A2 n2 c2 b w' hnc hc (hl.kept hk') hE
    have hnn := hn rfl
    have hji := join_items b.length b (Nat.le_refl _) hb8 hgd
    have hio := items_ok b.length b (Nat.le_refl _) hb8
    have hjE : joinE (items b) = 0 := by
      unfold joinE
      rw [if_pos (List.all_eq_true.2 hji.2), hji.1, if_neg (by omega)]
    have hil := items_len b.length b (Nat.le_refl _)
    rw [hnn] at hit hil
    have hjo : ∀ (w' : World) (A : Option Addr), Sl itT w' (low w'.heap.size) A n (items b) → Calls Try.prog 11 #[.slice A n n] w' fun e w'' => ∃ A', e = .returned (.tuple #[.slice A' n2 n2, .int .i64 0]) ∧ Sl u8T w'' (low w''.heap.size) A' n2 b ∧ Kept w' w'' := fun w' A hs =>
      (join_any A n n (items b) w' (by omega) hs).mono fun e w'' h => by
        rcases h with ⟨h, _⟩ | ⟨_, A', he, h2, h3⟩
        · exact absurd hjE h
        · rw [hji.1, hlen] at he h2
          exact ⟨A', he, h2.keep (fun g hg => hg.2) (fun _ _ _ => rfl), h3⟩
    have Hl := hide hl
    have Hk := hide hk
    have Hb : Hid (b.length = n2) := hide hlen
    have hn200 : n ≤ 200 := by omega
    clear hl hk hgd hn hE hb8 hlen hnc hc hnn hji hio hjE hil
    go_wp2_with fail
    go_at_call 12
    refine (hit _ (Below.refl _ _)).mono ?_
    rintro e w1 ⟨A3, rfl, hs3, hk1⟩
    go_wp2_with fail
    go_at_call 11
    refine (hjo _ A3 (hs3.keep (fun g hg => hg.2) (fun _ _ _ => rfl))).mono ?_
    rintro e w2 ⟨A4, rfl, hs4, hk2⟩
    clear hit hjo
    have hmA : (Instr.makeSlice 23 (.int .i64 4097) (.int .i64 4097)).run Try.prog w2 = .ok (.slice (some ⟨w2.heap.size, 0, none⟩) 4097 4097) (w2.alloc (.cells (madeCells #[.int .u8 0] 4097) 5)) := mk23 w2 4097 (by decide)
    have hn0 : ∀ w' : World, ∀ g : Nat, w'.heap[g]? = some (.cells (madeCells #[.int .u8 0] 4097) 5 (0, 0)) → Calls Try.prog 12 #[.slice (some ⟨g, 0, none⟩) 4097 4097] w' fun e w'' => e = .returned (.tuple #[.slice none 0 0, .int .i64 3]) ∧ Kept w' w'' := fun w' g h => by
      have h2 := items_no (some ⟨g, 0, none⟩) 4097 4097 _ w' (Nat.le_refl _) (by decide) (made_u8 h) (by rw [itemsE_long]; decide)
      rw [itemsE_long] at h2; exact h2
    have hn1 : ∀ w' : World, ∀ g : Nat, w'.heap[g]? = some (.cells (madeCells #[.int .u8 0] 4096) 5 (0, 0)) → Calls Try.prog 12 #[.slice (some ⟨g, 0, none⟩) 4096 4096] w' fun e w'' => ∃ A', e = .returned (.tuple #[.slice A' 4096 4096, .int .i64 0]) ∧ Kept w' w'' := fun w' g h => by
      have h2 := items_yes (some ⟨g, 0, none⟩) 4096 4096 _ w' (Nat.le_refl _) (by decide) (made_u8 h) itemsE_zero
      rw [items_len0] at h2
      exact h2.mono fun e w'' ⟨A', h3, _, h4⟩ => ⟨A', h3, h4⟩
    have hn2' : ∀ w' : World, ∀ g : Nat, w'.heap[g]? = some (.cells (madeCells #[.int .u8 0, .int .u8 0, .int .i64 0, .int .u32 0] (4097 * 4)) 29 (0, 0)) → Calls Try.prog 11 #[.slice (some ⟨g, 0, none⟩) 4097 4097] w' fun e w'' => e = .returned (.tuple #[.slice none 0 0, .int .i64 3]) ∧ Kept w' w'' := fun w' g h =>
      (join_any (some ⟨g, 0, none⟩) 4097 4097 _ w' (by decide) (made_it h)).mono fun e w'' h2 => by
        rw [joinE_zero] at h2
        rcases h2 with ⟨_, h3, h4⟩ | ⟨h3, _⟩
        · exact ⟨h3, h4⟩
        · cases h3
    have hmB : ∀ w3 : World, (Instr.makeSlice 23 (.int .i64 4096) (.int .i64 4096)).run Try.prog w3 = .ok (.slice (some ⟨w3.heap.size, 0, none⟩) 4096 4096) (w3.alloc (.cells (madeCells #[.int .u8 0] 4096) 5)) := fun (w3 : World) => mk23 w3 4096 (by decide)
    have hmC : ∀ w3 : World, (Instr.makeSlice 22 (.int .i64 4097) (.int .i64 4097)).run Try.prog w3 = .ok (.slice (some ⟨w3.heap.size, 0, none⟩) 4097 4097) (w3.alloc (.cells (madeCells #[.int .u8 0, .int .u8 0, .int .i64 0, .int .u32 0] (4097 * 4)) 29)) := fun (w3 : World) => mk22 w3 4097 (by decide)
    generalize hZ1 : madeCells #[.int .u8 0] 4097 = Z1 at *
    generalize hZ2 : madeCells #[.int .u8 0] 4096 = Z2 at *
    generalize hZ3 : madeCells #[.int .u8 0, .int .u8 0, .int .i64 0, .int .u32 0] (4097 * 4) = Z3 at *
    clear hZ1 hZ2 hZ3
    have k2 : Kept W w2 := hk1.trans' hk2
    have Hn0 := hide hn0
    have Hn1 := hide hn1
    have Hn2 := hide hn2'
    clear hn0 hn1 hn2' hk1 hk2
    go_wp2_with fail
    go_at_call 12
    refine (Hn0.out _ _ (heap_at _ rfl)).mono ?_
    rintro e w3 ⟨rfl, hk3⟩
    have j3 : Kept w2 w3 := Kept.trans' ((Below.refl _ _).alloc (Nat.le_refl _) _) hk3
    have hmB' := hmB w3
    clear hmA hmB hk3
    go_wp2_with fail
    go_at_call 12
    refine (Hn1.out _ _ (heap_at _ rfl)).mono ?_
    rintro e w4 ⟨A5, rfl, hk4⟩
    have j4 : Kept w2 w4 := j3.trans' (Kept.trans' ((Below.refl _ _).alloc (Nat.le_refl _) _) hk4)
    have hmC' := hmC w4
    clear hmB' hmC hk4
    go_wp2_with fail
    go_at_call 11
    refine (Hn2.out _ _ (heap_at _ rfl)).mono ?_
    rintro e w5 ⟨rfl, hk5⟩
    have j5 : Kept w2 w5 := j4.trans' (Kept.trans' ((Below.refl _ _).alloc (Nat.le_refl _) _) hk5)
    clear hmC' hk5
    have q1 := conv_sl (w' := w5) n2 hs4 j5
    have q2 := conv_sl (w' := w5) c2 Hl.out (k2.trans' j5)
    generalize strB b = sb at *
    go_wp2_with (go_at_call 8; refine (lives_any _).mono ?_; rintro e w6 ⟨rfl, hk6⟩)
    go_ret
    exact ⟨rfl, Hk.out.trans' ((k2.trans' j5).trans' hk6)⟩
end Go.Proofs.Ytegdigfcgeoboaa
/- ReportsItems from region 23 on. Printed by gen_u.py. -/
namespace Go.Proofs.Ytegdigfcgeoboaa
open Go.RowKit
attribute [local go_sem ↓] Go.wp_at_zero Go.wp_at_succ

noncomputable def codeI3 : Code := (Try.f3.body.bind (fromR 23)).getD .skip
set_option maxRecDepth 1000000 in
set_option maxHeartbeats 8000000 in
theorem items_3 {u0 u2 u3 u4 u5 u6 u7 u8 u9 u10 u11 u12 u13 u14 u15 u16 u17 u18 u19 u20 u21 u22 u23 u24 u25 u26 u27 u28 u29 u30 u31 u32 u33 u34 u35 u36 u37 u38 u39 u40 u41 u42 u43 u44 u45 u46 u47 u48 u49 u50 u51 u52 u53 u54 u55 u56 u57 u58 u59 u60 u61 u62 u63 u64 u65 u66 u67 u68 u69 u70 u71 u72 u73 u74 u75 u76 u77 u78 u79 u80 u81 u82 u83 u84 u85 u86 u87 u88 u89 u90 u91 u92 u93 u94 u95 u96 u97 u98 u99 u100 u101 u102 u103 u104 u105 u106 u107 u108 u109 u110 u111 u112 u113 u114 u115 u116 u117 u118 u119 u120 u121 u122 u123 u124 u125 u126 u127 u128 u129 u130 u131 u132 u133 u134 u135 u136 u137 u138 u139 u140 u141 u142 u143 u144 u145 u146 u147 u148 u149 u150 u151 u152 u153 u154 u155 u156 u157 u158 u159 u160 u161 u162 u163 u164 u165 u166 u167 u168 u169 u170 u171 u172 u173 u174 u175 u176 u177 u178 u179 u180 u181 u182 u183 u184 u185 u186 u187 u188 u189 u190 u191 u192 u193 u194 u195 u196 u197 u198 u199 u200 u201 u202 u203 u204 u205 u206 u207 u208 u209 u210 u211 u212 u213 u214 u215 u216 u217 u218 u219 u220 u221 u222 u223 u224 u225 u226 u227 u228 u229 u230 u231 u232 u233 : Value} {w W : World} {A2 : Option Addr} {n2 c2 : Nat} {b : List Int} (hk : Kept w W) (hl : Sl u8T W (low W.heap.size) A2 n2 b) (hn2 : n2 ≤ 200) (hnc : n2 ≤ c2) (hc : c2 ≤ maxLen)
    (K : Act → World → Prop) (hK : ∀ a w', Code.wp Try.prog (restC codeI3) (bodyPost Try.prog Try.f3 fun e w' => e = .returned (.bool true) ∧ Kept w w') a w' → K a w') :
    Code.wp Try.prog (headC codeI3) (Exit.then K (bodyPost Try.prog Try.f3 fun e w' => e = .returned (.bool true) ∧ Kept w w')) ⟨#[u0, .slice A2 n2 c2, u2, u3, u4, u5, u6, u7, u8, u9, u10, u11, u12, u13, u14, u15, u16, u17, u18, u19, u20, u21, u22, u23, u24, u25, u26, u27, u28, u29, u30, u31, u32, u33, u34, u35, u36, u37, u38, u39, u40, u41, u42, u43, u44, u45, u46, u47, u48, u49, u50, u51, u52, u53, u54, u55, u56, u57, u58, u59, u60, u61, u62, u63, u64, u65, u66, u67, u68, u69, u70, u71, u72, u73, u74, u75, u76, u77, u78, u79, u80, u81, u82, u83, u84, u85, u86, u87, u88, u89, u90, u91, u92, u93, u94, u95, u96, u97, u98, u99, u100, u101, u102, u103, u104, u105, u106, u107, u108, u109, u110, u111, u112, u113, u114, u115, u116, u117, u118, u119, u120, u121, u122, u123, u124, u125, u126, u127, u128, u129, u130, u131, u132, u133, u134, u135, u136, u137, u138, u139, u140, u141, u142, u143, u144, u145, u146, u147, u148, u149, u150, u151, u152, u153, u154, u155, u156, u157, u158, u159, u160, u161, u162, u163, u164, u165, u166, u167, u168, u169, u170, u171, u172, u173, u174, u175, u176, u177, u178, u179, u180, u181, u182, u183, u184, u185, u186, u187, u188, u189, u190, u191, u192, u193, u194, u195, u196, u197, u198, u199, u200, u201, u202, u203, u204, u205, u206, u207, u208, u209, u210, u211, u212, u213, u214, u215, u216, u217, u218, u219, u220, u221, u222, u223, u224, u225, u226, u227, u228, u229, u230, u231, u232, u233], []⟩ W := by
  conv => arg 2; whnf
  conv at hK => enter [a, w', 1, 2]; whnf
  dsimp only
  have Hk := hide hk
  have Hnc := hide hnc
  have Hc := hide hc
  have Hbl := hide hl.1
  clear hk hnc hc
  go_wp2_with fail
  go_loopg [13, 14, 15] (n2 + 2) (fun g s13 s14 s15 wr => ∃ (a n : Nat) (gd : Bool), n + g = n2 + 2 ∧ s13 = .int .i64 a ∧ s14 = .bool gd ∧ s15 = .int .i64 n ∧ n ≤ a ∧ a ≤ 400 ∧ Hid (ReadAt b a n gd) ∧ wr = W)
  case atStart => exact ⟨0, 0, true, by omega, rfl, rfl, rfl, Nat.le_refl _, by omega, hide (read0 b), rfl⟩
  case round =>
    obtain ⟨a, n, gd, hi, rfl, rfl, rfl, hna, ha4, hrd, rfl⟩ := hrel
    have Hi := hide hi
    clear hi
    have ha0 : (0 : Int) ≤ (a : Int) := by omega
    have hn0 : (0 : Int) ≤ (n : Int) := by omega
    have ha5 : (a : Int) ≤ 400 := by omega
    have hn5 : (n : Int) ≤ 400 := by omega
    by_cases hlt : a < n2
    · have hlt' : decide ((a : Int) < (n2 : Int)) = true := decide_eq_true (by omega)
      cases gd with
      | false =>
        go_upto_region 32 with (fail)
        refine items_4 (n := n) (gd := false) Hk.out hl hn2 Hnc.out Hc.out (read_bad hrd.out) (fun h => by cases h) _ ?_
        assumption
      | true =>
        obtain ⟨x, p, off, cs, hx, rfl, hbb, ⟨rfl, hu8⟩, hcs⟩ := hl.at hlt
        have x0 : wr.cell? ⟨p, off + a, none⟩ = some (.int .u8 x) := by have := hcs 0 _ rfl; simpa [u8T, Ty.flat] using this
        have hpl : p < wr.heap.size := hbb
        have hlt2 : (a : Int) < (n2 : Int) := by omega
        have HX := hide hx
        have hu := hu8
        unfold u8k at hu
        obtain ⟨hu0, hu1⟩ := hu
        have Hbl' := Hbl.out
        clear hcs hx
        by_cases hs : x % 4 = 3
        · have hs1 : (x % 4 == 3) = true := by simpa using hs
          have hsz : sizeH x = 4 := by unfold sizeH; rw [if_pos hs]
          have Hsz := hide hsz
          clear hs hsz
          by_cases ht : x / 4 % 4 = 3
          · have ht1 : (x / 4 % 4 != 3) = false := by simpa using ht
            have hnew : (!(x / 4 % 4 == 3) && decide (a + 1 + 4 ≤ b.length)) = false := by simp [ht]
            have Hnew := hide hnew
            clear ht hnew
            have hst := read_step hrd.out HX.out hu8
            rw [show sizeH x = 4 from Hsz.out] at hst
            go_wp2_with fail
            go_roundg (gk - 1)
            case measure => have := Hi.out; omega
            case rel => exact ⟨a + 1 + 4, n + 1, false, by have := Hi.out; omega, by go_num, rfl, by go_num, by omega, by omega, hide (by rw [← Hnew.out]; exact hst), rfl⟩
          · have ht1 : (x / 4 % 4 != 3) = true := by simpa using ht
            by_cases hf : a + 1 + 4 ≤ n2
            · have hf1 : decide ((a : Int) + 1 + 4 ≤ (n2 : Int)) = true := decide_eq_true (by omega)
              have hnew : (!(x / 4 % 4 == 3) && decide (a + 1 + 4 ≤ b.length)) = true := by simp [ht]; omega
              have Hnew := hide hnew
              clear ht hnew
              have hst := read_step hrd.out HX.out hu8
              rw [show sizeH x = 4 from Hsz.out] at hst
              go_wp2_with fail
              go_roundg (gk - 1)
              case measure => have := Hi.out; omega
              case rel => exact ⟨a + 1 + 4, n + 1, true, by have := Hi.out; omega, by go_num, rfl, by go_num, by omega, by omega, hide (by rw [← Hnew.out]; exact hst), rfl⟩
            · have hf1 : decide ((a : Int) + 1 + 4 ≤ (n2 : Int)) = false := decide_eq_false (by omega)
              have hnew : (!(x / 4 % 4 == 3) && decide (a + 1 + 4 ≤ b.length)) = false := by simp; intro _; omega
              have Hnew := hide hnew
              clear ht hnew
              have hst := read_step hrd.out HX.out hu8
              rw [show sizeH x = 4 from Hsz.out] at hst
              go_wp2_with fail
              go_roundg (gk - 1)
              case measure => have := Hi.out; omega
              case rel => exact ⟨a + 1 + 4, n + 1, false, by have := Hi.out; omega, by go_num, rfl, by go_num, by omega, by omega, hide (by rw [← Hnew.out]; exact hst), rfl⟩
        · have hs1 : (x % 4 == 3) = false := by simpa using hs
          obtain ⟨k, hk⟩ : ∃ k : Nat, x % 4 = k := ⟨(x % 4).toNat, by omega⟩
          have hk2 : k ≤ 2 := by omega
          have hsz : sizeH x = k := by unfold sizeH; rw [if_neg hs]; omega
          have Hsz := hide hsz
          have hk3 : (k : Int) ≤ 2 := by omega
          have hk4 : (0 : Int) ≤ (k : Int) := by omega
          have hs2 : ((k : Int) == 3) = false := by simp; omega
          clear hs hsz hs1
          by_cases ht : x / 4 % 4 = 3
          · have ht1 : (x / 4 % 4 != 3) = false := by simpa using ht
            have hnew : (!(x / 4 % 4 == 3) && decide (a + 1 + k ≤ b.length)) = false := by simp [ht]
            have Hnew := hide hnew
            clear ht hnew
            have hst := read_step hrd.out HX.out hu8
            rw [show sizeH x = k from Hsz.out] at hst
            go_wp2_with fail
            go_roundg (gk - 1)
            case measure => have := Hi.out; omega
            case rel => exact ⟨a + 1 + k, n + 1, false, by have := Hi.out; omega, by go_num, rfl, by go_num, by omega, by omega, hide (by rw [← Hnew.out]; exact hst), rfl⟩
          · have ht1 : (x / 4 % 4 != 3) = true := by simpa using ht
            by_cases hf : a + 1 + k ≤ n2
            · have hf1 : decide ((a : Int) + 1 + (k : Int) ≤ (n2 : Int)) = true := decide_eq_true (by omega)
              have hnew : (!(x / 4 % 4 == 3) && decide (a + 1 + k ≤ b.length)) = true := by simp [ht]; omega
              have Hnew := hide hnew
              clear ht hnew
              have hst := read_step hrd.out HX.out hu8
              rw [show sizeH x = k from Hsz.out] at hst
              go_wp2_with fail
              go_roundg (gk - 1)
              case measure => have := Hi.out; omega
              case rel => exact ⟨a + 1 + k, n + 1, true, by have := Hi.out; omega, by go_num, rfl, by go_num, by omega, by omega, hide (by rw [← Hnew.out]; exact hst), rfl⟩
            · have hf1 : decide ((a : Int) + 1 + (k : Int) ≤ (n2 : Int)) = false := decide_eq_false (by omega)
              have hnew : (!(x / 4 % 4 == 3) && decide (a + 1 + k ≤ b.length)) = false := by simp; intro _; omega
              have Hnew := hide hnew
              clear ht hnew
              have hst := read_step hrd.out HX.out hu8
              rw [show sizeH x = k from Hsz.out] at hst
              go_wp2_with fail
              go_roundg (gk - 1)
              case measure => have := Hi.out; omega
              case rel => exact ⟨a + 1 + k, n + 1, false, by have := Hi.out; omega, by go_num, rfl, by go_num, by omega, by omega, hide (by rw [← Hnew.out]; exact hst), rfl⟩
    · have hlt' : decide ((a : Int) < (n2 : Int)) = false := decide_eq_false (by omega)
      have hal : b.length ≤ a := by have := Hbl.out; omega
      cases gd with
      | false =>
        go_upto_region 32 with (fail)
        refine items_4 (n := n) (gd := false) Hk.out hl hn2 Hnc.out Hc.out (read_bad hrd.out) (fun h => by cases h) _ ?_
        assumption
      | true =>
        have he := read_end hrd.out hal
        have He := hide he
        clear he hal
        go_upto_region 32 with (fail)
        refine items_4 (n := n) (gd := true) Hk.out hl hn2 Hnc.out Hc.out He.out.1 (fun _ => He.out.2) _ ?_
        assumption
end Go.Proofs.Ytegdigfcgeoboaa
/- ReportsItems from region 11 on. Printed by gen_u.py. -/
namespace Go.Proofs.Ytegdigfcgeoboaa
open Go.RowKit
attribute [local go_sem ↓] Go.wp_at_zero Go.wp_at_succ

noncomputable def codeI2 : Code := (Try.f3.body.bind (fromR 11)).getD .skip
set_option maxRecDepth 1000000 in
set_option maxHeartbeats 8000000 in
theorem items_2 {u2 u3 u4 u7 u8 u9 u10 u11 u12 u13 u14 u15 u16 u17 u18 u19 u20 u21 u22 u23 u24 u25 u26 u27 u28 u29 u30 u31 u32 u33 u34 u35 u36 u37 u38 u39 u40 u41 u42 u43 u44 u45 u46 u47 u48 u49 u50 u51 u52 u53 u54 u55 u56 u57 u58 u59 u60 u61 u62 u63 u64 u65 u66 u67 u68 u69 u70 u71 u72 u73 u74 u75 u76 u77 u78 u79 u80 u81 u82 u83 u84 u85 u86 u87 u88 u89 u90 u91 u92 u93 u94 u95 u96 u97 u98 u99 u100 u101 u102 u103 u104 u105 u106 u107 u108 u109 u110 u111 u112 u113 u114 u115 u116 u117 u118 u119 u120 u121 u122 u123 u124 u125 u126 u127 u128 u129 u130 u131 u132 u133 u134 u135 u136 u137 u138 u139 u140 u141 u142 u143 u144 u145 u146 u147 u148 u149 u150 u151 u152 u153 u154 u155 u156 u157 u158 u159 u160 u161 u162 u163 u164 u165 u166 u167 u168 u169 u170 u171 u172 u173 u174 u175 u176 u177 u178 u179 u180 u181 u182 u183 u184 u185 u186 u187 u188 u189 u190 u191 u192 u193 u194 u195 u196 u197 u198 u199 u200 u201 u202 u203 u204 u205 u206 u207 u208 u209 u210 u211 u212 u213 u214 u215 u216 u217 u218 u219 u220 u221 u222 u223 u224 u225 u226 u227 u228 u229 u230 u231 u232 u233 : Value} {w W : World} {A1 A2 A5 : Option Addr} {n1 c1 n2 c2 n5 c5 : Nat} {l : List It} {b b5 : List Int} {z : Int} (hk : Kept w W) (hl1 : Sl itT W (low W.heap.size) A1 n1 l) (hn1 : n1 ≤ 60) (hl : Sl u8T W (low W.heap.size) A2 n2 b) (hn2 : n2 ≤ 200) (hnc : n2 ≤ c2) (hc : c2 ≤ maxLen)
    (hl5 : Sl u8T W (low W.heap.size) A5 n5 b5) (hz : (z = 4 ∧ l.all It.wide = false) ∨ (z = 0 ∧ l.all It.wide = true ∧ b5 = joinB l))
    (K : Act → World → Prop) (hK : ∀ a w', Code.wp Try.prog (restC codeI2) (bodyPost Try.prog Try.f3 fun e w' => e = .returned (.bool true) ∧ Kept w w') a w' → K a w') :
    Code.wp Try.prog (headC codeI2) (Exit.then K (bodyPost Try.prog Try.f3 fun e w' => e = .returned (.bool true) ∧ Kept w w')) ⟨#[.slice A1 n1 c1, .slice A2 n2 c2, u2, u3, u4, .slice A5 n5 c5, .int .i64 z, u7, u8, u9, u10, u11, u12, u13, u14, u15, u16, u17, u18, u19, u20, u21, u22, u23, u24, u25, u26, u27, u28, u29, u30, u31, u32, u33, u34, u35, u36, u37, u38, u39, u40, u41, u42, u43, u44, u45, u46, u47, u48, u49, u50, u51, u52, u53, u54, u55, u56, u57, u58, u59, u60, u61, u62, u63, u64, u65, u66, u67, u68, u69, u70, u71, u72, u73, u74, u75, u76, u77, u78, u79, u80, u81, u82, u83, u84, u85, u86, u87, u88, u89, u90, u91, u92, u93, u94, u95, u96, u97, u98, u99, u100, u101, u102, u103, u104, u105, u106, u107, u108, u109, u110, u111, u112, u113, u114, u115, u116, u117, u118, u119, u120, u121, u122, u123, u124, u125, u126, u127, u128, u129, u130, u131, u132, u133, u134, u135, u136, u137, u138, u139, u140, u141, u142, u143, u144, u145, u146, u147, u148, u149, u150, u151, u152, u153, u154, u155, u156, u157, u158, u159, u160, u161, u162, u163, u164, u165, u166, u167, u168, u169, u170, u171, u172, u173, u174, u175, u176, u177, u178, u179, u180, u181, u182, u183, u184, u185, u186, u187, u188, u189, u190, u191, u192, u193, u194, u195, u196, u197, u198, u199, u200, u201, u202, u203, u204, u205, u206, u207, u208, u209, u210, u211, u212, u213, u214, u215, u216, u217, u218, u219, u220, u221, u222, u223, u224, u225, u226, u227, u228, u229, u230, u231, u232, u233], []⟩ W := by
  conv => arg 2; whnf
  conv at hK => enter [a, w', 1, 2]; whnf
  dsimp only
  have hits := hl1.its
  have hlen := hl1.1
  rcases hz with ⟨rfl, hw⟩ | ⟨rfl, hw, rfl⟩
  · have hjE : joinE l = 4 := by unfold joinE; rw [if_neg (by rw [hw]; simp)]
    have hjo : Calls Try.prog 11 #[.slice A1 n1 c1] W fun e w'' => e = .returned (.tuple #[.slice none 0 0, .int .i64 4]) ∧ Kept W w'' :=
      (join_any A1 n1 c1 l W (by omega) hl1).mono fun e w'' h => by
        rw [hjE] at h
        rcases h with ⟨_, h1, h2⟩ | ⟨h, _⟩
        · exact ⟨h1, h2⟩
        · cases h
    have Hk := hide hk
    have Hl := hide hl
    have Hnc := hide hnc
    have Hc := hide hc
    clear hk hl hl1 hl5 hits hlen hw hjE hnc hc
    go_upto_region 23 with (go_at_call 11; refine hjo.mono ?_; rintro e w1 ⟨rfl, hk1⟩)
    refine items_3 (Hk.out.trans' hk1) (Hl.out.kept hk1) hn2 Hnc.out Hc.out _ ?_
    assumption
  · have hall : ∀ x ∈ l, x.wide = true ∧ x.ok := fun x hx => ⟨List.all_eq_true.1 hw x hx, hits x hx⟩
    have hjl := joinB_len l hall
    have hjE : joinE l = 0 := by unfold joinE; rw [if_pos hw, if_neg (by omega)]
    have hij := items_join l hall
    have hiE : itemsE (joinB l) = 0 := by
      unfold itemsE goodB
      rw [hij, if_neg (by omega), if_pos]
      rw [List.all_eq_true]
      intro x hx
      have := (wide_iff (hall x hx).1 (hall x hx).2).2.2.2.2
      rw [decide_eq_true_eq]; omega
    obtain ⟨L, hL⟩ : ∃ L, (joinB l).length = L := ⟨_, rfl⟩
    have hjo : Calls Try.prog 11 #[.slice A1 n1 c1] W fun e w'' => ∃ A', e = .returned (.tuple #[.slice A' L L, .int .i64 0]) ∧ Sl u8T w'' (low w''.heap.size) A' L (joinB l) ∧ Kept W w'' :=
      (join_any A1 n1 c1 l W (by omega) hl1).mono fun e w'' h => by
        rw [hL] at h
        rcases h with ⟨h, _⟩ | ⟨_, A', h1, h2, h3⟩
        · exact absurd hjE h
        · exact ⟨A', h1, h2.keep (fun g hg => hg.2) (fun _ _ _ => rfl), h3⟩
    have hit : ∀ (w' : World) (A : Option Addr), Sl u8T w' (low w'.heap.size) A L (joinB l) → Calls Try.prog 12 #[.slice A L L] w' fun e w'' => ∃ A', e = .returned (.tuple #[.slice A' n1 n1, .int .i64 0]) ∧ Sl itT w'' (low w''.heap.size) A' n1 l ∧ Kept w' w'' := fun w' A hs =>
      (items_yes A L L (joinB l) w' (Nat.le_refl _) (by unfold maxLen; omega) hs hiE).mono fun e w'' ⟨A', h1, h2, h3⟩ => by
        rw [hij, hlen] at h1 h2
        exact ⟨A', h1, h2.keep (fun g hg => hg.2) (fun _ _ _ => rfl), h3⟩
    generalize joinB l = jb at *
    have hn5 := hl5.1
    rw [hL] at hn5
    subst hn5
    have hL2 : L ≤ 300 := by omega
    have Hk := hide hk
    have Hl := hide hl
    have Hl1 := hide hl1
    have Hl5 := hide hl5
    have Hnc := hide hnc
    have Hc := hide hc
    clear hk hl hl1 hl5 hits hlen hw hjE hnc hc hall hjl hij hiE hL
    go_wp2_with fail
    go_at_call 11
    refine hjo.mono ?_
    rintro e w1 ⟨A6, rfl, hs6, hk1⟩
    have q1 := conv_sl (w' := w1) L hs6 (Below.refl _ _)
    have q2 := conv_sl (w' := w1) c5 Hl5.out hk1
    generalize strB jb = sb at *
    go_wp2_with fail
    go_at_call 12
    refine (hit _ _ hs6).mono ?_
    rintro e w2 ⟨A7, rfl, hs7, hk2⟩
    have k2 : Kept W w2 := hk1.trans' hk2
    clear q1 q2 hs6 hit hjo hk1 hk2
    have Hs7 := hide hs7
    have Hs1 := hide (Hl1.out.kept k2)
    clear hs7
    go_wp2_with fail
    go_loopg [12] n1 (fun g s12 wr => ∃ i : Nat, i + g = n1 ∧ s12 = .int .i64 i ∧ Kept w2 wr)
    case atStart => exact ⟨0, by omega, rfl, Below.refl _ _⟩
    case round =>
      obtain ⟨i, hi, rfl, hkr⟩ := hrel
      have Hi := hide hi
      clear hi
      by_cases hlt : i < n1
      · obtain ⟨x, p, off, cs, hx, rfl, hpp, ⟨rfl, _⟩, hcs⟩ := (Hs7.out.kept hkr).at hlt
        obtain ⟨x', p', off', cs', hx', rfl, hpp', ⟨rfl, _⟩, hcs'⟩ := (Hs1.out.kept hkr).at hlt
        obtain rfl : x' = x := Option.some.inj (hx'.symm.trans hx)
        have a0 : wr.cell? ⟨p, off + i * 4, none⟩ = some (.int .u8 x'.ty) := hcs 0 _ rfl
        have a1 : wr.cell? ⟨p, off + i * 4 + 1, none⟩ = some (.int .u8 x'.tg) := hcs 1 _ rfl
        have a2 : wr.cell? ⟨p, off + i * 4 + 2, none⟩ = some (.int .i64 x'.size) := hcs 2 _ rfl
        have a3 : wr.cell? ⟨p, off + i * 4 + 3, none⟩ = some (.int .u32 x'.data) := hcs 3 _ rfl
        have b0 : wr.cell? ⟨p', off' + i * 4, none⟩ = some (.int .u8 x'.ty) := hcs' 0 _ rfl
        have b1 : wr.cell? ⟨p', off' + i * 4 + 1, none⟩ = some (.int .u8 x'.tg) := hcs' 1 _ rfl
        have b2 : wr.cell? ⟨p', off' + i * 4 + 2, none⟩ = some (.int .i64 x'.size) := hcs' 2 _ rfl
        have b3 : wr.cell? ⟨p', off' + i * 4 + 3, none⟩ = some (.int .u32 x'.data) := hcs' 3 _ rfl
        have hpl : p < wr.heap.size := hpp
        have hpl' : p' < wr.heap.size := hpp'
        have hi0 : (0 : Int) ≤ (i : Int) := by omega
        have hlt' : (i : Int) < (n1 : Int) := by omega
        clear hx hx' hcs hcs'
        go_wp2_with fail
        go_quiet (fail)
        go_wp2_with fail
        go_roundg (gk - 1)
        case measure => have := Hi.out; omega
        case rel => exact ⟨i + 1, by have := Hi.out; omega, by go_num, below_drewN hkr _⟩
      · have hge : (n1 : Int) ≤ (i : Int) := by omega
        go_upto_region 23 with (fail)
        refine items_3 (Hk.out.trans' (k2.trans' hkr)) (Hl.out.kept (k2.trans' hkr)) hn2 Hnc.out Hc.out _ ?_
        assumption
end Go.Proofs.Ytegdigfcgeoboaa
/- ReportsItems: the whole law. Printed by gen_u.py. -/
namespace Go.Proofs.Ytegdigfcgeoboaa
open Go.RowKit
attribute [local go_sem ↓] Go.wp_at_zero Go.wp_at_succ

theorem by_one8 : ∀ (F : Nat → Prop) (w : World) (x : Int) (cs : List Value), u8T.rel w F x cs → ∀ u ∈ cs, u.oneCell' = true := by
  rintro F w x cs ⟨rfl, _⟩ u hu
  simp at hu
  subst hu; rfl
set_option maxRecDepth 1000000 in
set_option maxHeartbeats 8000000 in
theorem items_law (A1 A2 : Option Addr) (n1 c1 n2 c2 : Nat) (l : List It) (b : List Int) (w : World) (hl1 : Sl itT w (low w.heap.size) A1 n1 l) (hl : Sl u8T w (low w.heap.size) A2 n2 b) (hnc1 : n1 ≤ c1) (hc1 : c1 ≤ maxLen) (hnc : n2 ≤ c2) (hc : c2 ≤ maxLen) :
    Calls Try.prog 3 #[.slice A1 n1 c1, .slice A2 n2 c2] w fun e w' => e = .returned (.bool true) ∧ Kept w w' := by
  obtain ⟨i5, hi5, hz50, hz51, hz52⟩ := info_parts info5
  have hc1' := hc1
  have hc' := hc
  unfold maxLen at hc1' hc'
  by_cases hb1 : 60 < n1
  · have h1 : decide ((60 : Int) < (n1 : Int)) = true := decide_eq_true (by omega)
    go_enter Try.func3, Try.ntmps3
    go_wp2_with (go_at_call 8; refine (lives_any _).mono ?_; rintro e w2 ⟨rfl, hk2⟩)
    go_ret
    exact ⟨rfl, hk2⟩
  by_cases hb2 : 200 < n2
  · have h1 : decide ((60 : Int) < (n1 : Int)) = false := decide_eq_false (by omega)
    have h2 : decide ((200 : Int) < (n2 : Int)) = true := decide_eq_true (by omega)
    go_enter Try.func3, Try.ntmps3
    go_wp2_with (go_at_call 8; refine (lives_any _).mono ?_; rintro e w2 ⟨rfl, hk2⟩)
    go_ret
    exact ⟨rfl, hk2⟩
  have h1 : decide ((60 : Int) < (n1 : Int)) = false := decide_eq_false (by omega)
  have h2 : decide ((200 : Int) < (n2 : Int)) = false := decide_eq_false (by omega)
  have hn1 : n1 ≤ 60 := by omega
  have hn2 : n2 ≤ 200 := by omega
  have Hits := hide hl1.its
  have Hlen := hide hl1.1
  have Hl := hide hl
  have Hnc := hide hnc
  have Hc := hide hc
  clear hb1 hb2 hc1' hc' hnc1 hc1 hnc hc hl
  go_enter Try.func3, Try.ntmps3
  go_wp2_with fail
  go_loopg [5, 6, 7] n1 (fun g s5 s6 s7 wr => ∃ i : Nat, i + g = n1 ∧ s7 = .int .i64 i ∧ s6 = .int .i64 0 ∧ Hid (∀ x ∈ l.take i, x.wide = true) ∧ Own u8T 5 w.heap.size wr s5 (joinB (l.take i)).length (joinB (l.take i)) ∧ Kept w wr)
  case atStart => exact ⟨0, by omega, rfl, rfl, hide (fun x hx => by cases hx), Own.nil _ _ _ _, Below.refl _ _⟩
  case round =>
    obtain ⟨i, hi, rfl, rfl, Hw, hown, hkw⟩ := hrel
    have Hi := hide hi
    have hkz := hkw.size
    clear hi
    have hjl := Nat.le_trans (joinB_len (l.take i) (fun y hy => ⟨Hw.out y hy, Hits.out y (List.mem_of_mem_take hy)⟩)) (show 5 * (l.take i).length ≤ 300 by rw [List.length_take]; have := Hlen.out; omega)
    obtain ⟨A5, c5, rfl, h51, h52⟩ := hown.isSlice
    have Hc5 := hide h52
    clear h52
    by_cases hlt : i < n1
    · obtain ⟨x, p, off, cs, hx, rfl, hpp, ⟨rfl, hxok⟩, hcs⟩ := (hl1.kept hkw).at hlt
      have a0 : wr.cell? ⟨p, off + i * 4, none⟩ = some (.int .u8 x.ty) := hcs 0 _ rfl
      have a1 : wr.cell? ⟨p, off + i * 4 + 1, none⟩ = some (.int .u8 x.tg) := hcs 1 _ rfl
      have a2 : wr.cell? ⟨p, off + i * 4 + 2, none⟩ = some (.int .i64 x.size) := hcs 2 _ rfl
      have a3 : wr.cell? ⟨p, off + i * 4 + 3, none⟩ = some (.int .u32 x.data) := hcs 3 _ rfl
      have hpl : p < wr.heap.size := hpp
      have hi0 : (0 : Int) ≤ (i : Int) := by omega
      have hlt' : (i : Int) < (n1 : Int) := by omega
      have Hx := hide hx
      have Hxok := hide hxok
      have hwd9 := fun w' : World => wide9 x hxok w'
      have hsn : joinB (l.take (i + 1)) = joinB (l.take i) ++ x.bytes := by
        obtain ⟨h1, h2⟩ := List.getElem?_eq_some_iff.1 hx
        rw [List.take_succ_eq_append_getElem h1, h2, joinB_snoc]
      have Hsn := hide hsn
      generalize hpre : joinB (l.take i) = pre at *
      clear hcs hx hxok hsn hpre
      cases hwd : x.wide with
      | false =>
        rw [hwd] at hwd9
        unfold itV at hwd9
        have hall : l.all It.wide = false := by
          rw [List.all_eq_false]
          exact ⟨x, List.mem_of_getElem? Hx.out, by rw [hwd]; simp⟩
        have Hall := hide hall
        clear hwd hall
        go_upto_region 11 with (go_at_call 9; refine (hwd9 _).mono ?_; rintro e w1 ⟨rfl, hk1⟩)
        refine items_2 (hkw.trans' hk1) (hl1.kept (hkw.trans' hk1)) hn1 (Hl.out.kept (hkw.trans' hk1)) hn2 Hnc.out Hc.out (hown.kept hk1).sl (.inl ⟨rfl, Hall.out⟩) _ ?_
        assumption
      | true =>
        have hwr := fun w' : World => written10 x hwd Hxok.out w'
        rw [hwd] at hwd9
        unfold itV at hwd9 hwr
        have hbl := bytes_len hwd Hxok.out
        have hb5 := hbl.2
        have Hw2 := hide (show ∀ y ∈ l.take (i + 1), y.wide = true from fun y hy => by
          obtain ⟨h1, h2⟩ := List.getElem?_eq_some_iff.1 Hx.out
          rw [List.take_succ_eq_append_getElem h1, h2] at hy
          rcases List.mem_append.1 hy with h | h
          · exact Hw.out y h
          · rw [List.mem_singleton.1 h]; exact hwd)
        unfold WrittenPost at hwr
        generalize x.bytes = xb at *
        clear hbl hwd
        go_wp2_with fail
        go_at_call 9
        refine (hwd9 _).mono ?_
        rintro e w1 ⟨rfl, hk1⟩
        obtain ⟨hc1, hf1⟩ := bcell hk1
        have hz1 := hk1.size
        go_wp2_with fail
        go_at_call 10
        refine (hwr _).mono ?_
        rintro e w2 ⟨A8, c8, rfl, h81, h82, hs8, hk2⟩
        have k2 : Kept wr w2 := hk1.trans' hk2
        have kw2 : Kept w w2 := hkw.trans' k2
        have hown2 := hown.kept k2
        have hz2 := kw2.size
        have hs8' : Sl u8T w2 (apart w2 (.slice A5 pre.length c5)) A8 xb.length xb := hs8.keep (fun g hg => ⟨hg.2, fun e => by have := (hown.lt e).2; have := hg.1; omega⟩) (fun _ _ _ => rfl)
        clear hc1 hf1 hwd9 hwr hs8 a0 a1 a2 a3
        go_wp2_with (at_builtin; refine wpList_append_sl (T := u8T) rfl (.tmp 48) (.tmp 53) 23 rfl w.heap.size 5 i5 _ 1 Try.underlying23 hi5 hz50 hz51 hz52 rfl (by decide) _ pre.length pre (by rfl) hown2 _ xb.length c8 xb (by rfl) hs8' (by_one8 _ _) (by unfold maxLen; omega) (by omega) (by omega) ?_; intro v7 w7 hown7 hg7 hb7 hat7)
        go_roundg (gk - 1)
        case measure => have := Hi.out; omega
        case rel =>
          refine ⟨i + 1, by have := Hi.out; omega, by go_num, rfl, Hw2, ?_, kw2.trans hb7⟩
          rw [Hsn.out, List.length_append]
          exact hown7
    · have hge : (n1 : Int) ≤ (i : Int) := by omega
      have hin : i = n1 := by have := Hi.out; omega
      have htk : l.take i = l := by rw [hin, ← Hlen.out]; exact List.take_length
      have hw := Hw.out
      rw [htk] at hw hown h51 ⊢
      have Hw3 := hide (List.all_eq_true.2 hw)
      have HS := hide hown.sl
      have HJ := hide (rfl : joinB l = joinB l)
      clear htk hin hw hown hjl Hw
      go_upto_region 11 with (fail)
      refine items_2 hkw (hl1.kept hkw) hn1 (Hl.out.kept hkw) hn2 Hnc.out Hc.out HS.out (.inr ⟨rfl, Hw3.out, rfl⟩) _ ?_
      assumption
end Go.Proofs.Ytegdigfcgeoboaa
/- The arguments of the laws on reports: items and bytes of plain data. No condition. -/
namespace Go.Proofs.Ytegdigfcgeoboaa
open Go.RowKit Go.ChangeShapes Go.WideShapes

theorem cells29 : Try.prog.cellsOf 29 = 4 := by kernel_rfl
theorem cells5 : Try.prog.cellsOf 5 = 1 := by kernel_rfl
theorem cells3 : Try.prog.cellsOf 3 = 1 := by kernel_rfl
theorem cells27 : Try.prog.cellsOf 27 = 1 := by kernel_rfl
theorem i64_wf {n : Int} (h : (Lit.int .i64 n).wf = true) : i64k n := by
  have : -9223372036854775808 ≤ n ∧ n ≤ 9223372036854775807 := by simpa [Lit.wf, IntKind.min, IntKind.max, IntKind.signed, IntKind.bits] using h
  unfold i64k
  omega
theorem u32_wf {n : Int} (h : (Lit.int .u32 n).wf = true) : u32k n := by
  have : 0 ≤ n ∧ n ≤ 4294967295 := by simpa [Lit.wf, IntKind.min, IntKind.max, IntKind.signed, IntKind.bits] using h
  unfold u32k
  omega
set_option maxRecDepth 100000 in
theorem opensIt : Opens Try.prog 29 itT It.ok := by
  intro H enc W fuel cs x hx
  obtain ⟨n0, e0, w0⟩ := field_int Try.underlying29 hx 0 _ rfl Try.underlying5 cells5
  obtain ⟨n1, e1, w1⟩ := field_int Try.underlying29 hx 1 _ rfl Try.underlying5 cells5
  obtain ⟨n2, e2, w2⟩ := field_int Try.underlying29 hx 2 _ rfl Try.underlying3 cells3
  obtain ⟨n3, e3, w3⟩ := field_int Try.underlying29 hx 3 _ rfl Try.underlying27 cells27
  obtain ⟨xs, n, _, _, hl, _, _⟩ := DataW.trod_struct Try.underlying29 hx
  rw [cells29] at hl
  match cs, hl with
  | [c0, c1, c2, c3], _ =>
    have a0 : c0 = .int .u8 n0 := by simpa using e0
    have a1 : c1 = .int .u8 n1 := by simpa using e1
    have a2 : c2 = .int .i64 n2 := by simpa using e2
    have a3 : c3 = .int .u32 n3 := by simpa using e3
    subst a0 a1 a2 a3
    have hok : It.ok ⟨n0, n1, n2, n3⟩ := ⟨u8_of w0, u8_of w1, i64_wf w2, u32_wf w3⟩
    exact ⟨⟨n0, n1, n2, n3⟩, ⟨rfl, hok⟩, hok⟩
theorem opensL : Opens Try.prog 22 itT.slice (fun xs => ∀ x ∈ xs, x.ok) := opens_slice Try.underlying22 cells29 (by decide) opensIt
theorem opens5 : Opens Try.prog 5 u8T u8k := by
  intro H enc W fuel cs x hx
  obtain ⟨m, hm, _, hw⟩ := DataW.trod_int Try.underlying5 hx
  exact ⟨m, ⟨hm, u8_of hw⟩, u8_of hw⟩
theorem opensB : Opens Try.prog 23 u8T.slice (fun xs => ∀ x ∈ xs, u8k x) := opens_slice Try.underlying23 cells5 (by decide) opens5
end Go.Proofs.Ytegdigfcgeoboaa
