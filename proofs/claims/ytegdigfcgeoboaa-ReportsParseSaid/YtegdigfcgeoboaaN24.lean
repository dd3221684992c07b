/- The definition of Parse, whole. -/
import Derived.Test.YtegdigfcgeoboaaChecked
import Derived.Deep.RegionHeld3
import Derived.Deep.DrawnRows
import Derived.Deep.DeepCutAuto
import Derived.Deep.LoopGhost
import Derived.Outline
import Derived.Handy
import Derived.OwnWalk
import Derived.Test.YtegdigfcgeoboaaN2
import Derived.Test.YtegdigfcgeoboaaN19
import Derived.Test.YtegdigfcgeoboaaN23
set_option linter.unusedVariables false
set_option linter.unusedSimpArgs false
set_option linter.unusedSectionVars false
/- An item: the switch, and what is cleared behind it. Printed by gen_m.py. -/
namespace Go.Proofs.Ytegdigfcgeoboaa
open Go.RowKit Go.Maps
attribute [local go_sem ↓] Go.wp_at_zero Go.wp_at_succ

/-- an item is done and what is local has been cleared -/
def OkC (Q : Exit → Act → World → Prop) (W : World) (base : Nat) (A : Option Addr) (n c : Nat) (R M S X : Nat) (s : RS) (i : Int) (x : It) : Prop :=
  ∀ a' W' vs' vu' vf' vc' s', effS s x = (0, s') → LiveN a' A n c R M S X vs' vu' (clearS s' x) i → Sit W' base R M S X vs' vu' vf' vc' (clearS s' x) x → FrM base M S W W' → Q .normal a' W'
def LiveU (a : Act) (A : Option Addr) (n c : Nat) (R M S X : Nat) (vs vu : Value) (s : RS) (i : Int) (x : It) : Prop := ∃ us : Nat → Value, a = ⟨#[.slice A n c, us 1, .pointer (some ⟨R, 0, none⟩), us 3, .pointer (some ⟨M, 0, none⟩), .pointer (some ⟨S, 0, none⟩), vs, vu, .int .i64 (keptI s), .int .i64 s.opn, .int .i64 i, .pointer (some ⟨X, 0, none⟩), .int .i64 x.data, .int .i64 (signS x), .int .i64 (usageS s x), us 15, us 16, us 17, us 18, us 19, us 20, us 21, us 22, us 23, us 24, us 25, us 26, us 27, us 28, us 29, us 30, us 31, us 32, us 33, us 34, us 35, us 36, us 37, us 38, us 39, us 40, us 41, us 42, us 43, us 44, us 45, us 46, us 47, us 48, us 49, us 50, us 51, us 52, us 53, us 54, us 55, us 56, us 57, us 58, us 59, us 60, us 61, us 62, us 63, us 64, us 65, us 66, us 67, us 68, us 69, us 70, us 71, us 72, us 73, us 74, us 75, us 76, us 77, us 78, us 79, us 80, us 81, us 82, us 83, us 84, us 85, us 86, us 87, us 88, us 89, us 90, us 91, us 92, us 93, us 94, us 95, us 96, us 97, us 98, us 99, us 100, us 101, us 102, us 103, us 104, us 105, us 106, us 107, us 108, us 109, us 110, us 111, us 112, us 113, us 114, us 115, us 116, us 117, us 118, us 119, us 120, us 121, us 122, us 123, us 124, us 125, us 126, us 127, us 128, us 129, us 130, us 131, us 132, us 133, us 134, us 135, us 136, us 137, us 138, us 139, us 140, us 141, us 142, us 143, us 144, us 145, us 146, us 147, us 148, us 149, us 150, us 151, us 152, us 153, us 154, us 155, us 156, us 157, us 158, us 159, us 160, us 161, us 162, us 163, us 164, us 165, us 166, us 167, us 168, us 169, us 170, us 171, us 172, us 173, us 174, us 175, us 176, us 177, us 178, us 179, us 180, us 181, us 182, us 183, us 184, us 185, us 186, us 187, us 188, us 189, us 190, us 191, us 192, us 193, us 194, us 195, us 196, us 197, us 198, us 199, us 200, us 201, us 202, us 203, us 204, us 205, us 206, us 207, us 208, us 209, us 210, us 211, us 212, us 213, us 214, us 215, us 216, us 217, us 218, us 219, us 220, us 221, us 222, us 223, us 224, us 225, us 226, us 227, us 228, us 229, us 230, us 231, us 232, us 233, us 234, us 235, us 236, us 237, us 238, us 239, us 240, us 241, us 242, us 243, us 244, us 245, us 246, us 247, us 248, us 249, us 250, us 251, us 252, us 253, us 254, us 255, us 256, us 257, us 258, us 259, us 260, us 261, us 262, us 263, us 264, us 265, us 266, us 267, us 268, us 269, us 270, us 271, us 272, us 273, us 274, us 275, us 276, us 277, us 278, us 279, us 280, us 281, us 282, us 283, us 284, us 285, us 286, us 287, us 288, us 289, us 290, us 291, us 292, us 293, us 294, us 295, us 296, us 297, us 298, us 299, us 300, us 301, us 302, us 303, us 304, us 305, us 306, us 307, us 308, us 309, us 310, us 311, us 312, us 313, us 314, us 315, us 316, us 317, us 318, us 319, us 320, us 321, us 322, us 323, us 324, us 325, us 326, us 327, us 328, us 329, us 330, us 331, us 332, us 333, us 334, us 335, us 336, us 337, us 338, us 339, us 340, us 341, us 342, us 343, us 344, us 345, us 346, us 347, us 348, us 349, us 350, us 351, us 352, us 353, us 354, us 355, us 356, us 357, us 358, us 359, us 360, us 361, us 362, us 363, us 364, us 365, us 366, us 367, us 368, us 369, us 370, us 371, us 372, us 373, us 374, us 375, us 376, us 377, us 378, us 379, us 380, us 381, us 382, us 383, us 384, us 385, us 386, us 387, us 388, us 389, us 390, us 391, us 392, us 393, us 394, us 395, us 396, us 397, us 398, us 399, us 400, us 401, us 402, us 403, us 404, us 405, us 406, us 407, us 408, us 409, us 410, us 411, us 412, us 413, us 414, us 415, us 416, us 417, us 418, us 419, us 420, us 421, us 422, us 423, us 424, us 425, us 426, us 427, us 428, us 429, us 430, us 431, us 432, us 433, us 434, us 435, us 436, us 437, us 438, us 439, us 440, us 441, us 442, us 443, us 444, us 445], []⟩
set_option maxRecDepth 100000 in
theorem frame_u {a : Act} {v0 v2 v4 v5 v6 v7 v8 v9 v10 v11 v12 v13 v14 : Value} (hs : a.tmps.size = 446) (hm : a.defers = []) (h0 : a.tmps[0]? = some v0) (h2 : a.tmps[2]? = some v2) (h4 : a.tmps[4]? = some v4) (h5 : a.tmps[5]? = some v5) (h6 : a.tmps[6]? = some v6) (h7 : a.tmps[7]? = some v7) (h8 : a.tmps[8]? = some v8) (h9 : a.tmps[9]? = some v9) (h10 : a.tmps[10]? = some v10) (h11 : a.tmps[11]? = some v11) (h12 : a.tmps[12]? = some v12) (h13 : a.tmps[13]? = some v13) (h14 : a.tmps[14]? = some v14) : ∃ us : Nat → Value, a = ⟨#[v0, us 1, v2, us 3, v4, v5, v6, v7, v8, v9, v10, v11, v12, v13, v14, us 15, us 16, us 17, us 18, us 19, us 20, us 21, us 22, us 23, us 24, us 25, us 26, us 27, us 28, us 29, us 30, us 31, us 32, us 33, us 34, us 35, us 36, us 37, us 38, us 39, us 40, us 41, us 42, us 43, us 44, us 45, us 46, us 47, us 48, us 49, us 50, us 51, us 52, us 53, us 54, us 55, us 56, us 57, us 58, us 59, us 60, us 61, us 62, us 63, us 64, us 65, us 66, us 67, us 68, us 69, us 70, us 71, us 72, us 73, us 74, us 75, us 76, us 77, us 78, us 79, us 80, us 81, us 82, us 83, us 84, us 85, us 86, us 87, us 88, us 89, us 90, us 91, us 92, us 93, us 94, us 95, us 96, us 97, us 98, us 99, us 100, us 101, us 102, us 103, us 104, us 105, us 106, us 107, us 108, us 109, us 110, us 111, us 112, us 113, us 114, us 115, us 116, us 117, us 118, us 119, us 120, us 121, us 122, us 123, us 124, us 125, us 126, us 127, us 128, us 129, us 130, us 131, us 132, us 133, us 134, us 135, us 136, us 137, us 138, us 139, us 140, us 141, us 142, us 143, us 144, us 145, us 146, us 147, us 148, us 149, us 150, us 151, us 152, us 153, us 154, us 155, us 156, us 157, us 158, us 159, us 160, us 161, us 162, us 163, us 164, us 165, us 166, us 167, us 168, us 169, us 170, us 171, us 172, us 173, us 174, us 175, us 176, us 177, us 178, us 179, us 180, us 181, us 182, us 183, us 184, us 185, us 186, us 187, us 188, us 189, us 190, us 191, us 192, us 193, us 194, us 195, us 196, us 197, us 198, us 199, us 200, us 201, us 202, us 203, us 204, us 205, us 206, us 207, us 208, us 209, us 210, us 211, us 212, us 213, us 214, us 215, us 216, us 217, us 218, us 219, us 220, us 221, us 222, us 223, us 224, us 225, us 226, us 227, us 228, us 229, us 230, us 231, us 232, us 233, us 234, us 235, us 236, us 237, us 238, us 239, us 240, us 241, us 242, us 243, us 244, us 245, us 246, us 247, us 248, us 249, us 250, us 251, us 252, us 253, us 254, us 255, us 256, us 257, us 258, us 259, us 260, us 261, us 262, us 263, us 264, us 265, us 266, us 267, us 268, us 269, us 270, us 271, us 272, us 273, us 274, us 275, us 276, us 277, us 278, us 279, us 280, us 281, us 282, us 283, us 284, us 285, us 286, us 287, us 288, us 289, us 290, us 291, us 292, us 293, us 294, us 295, us 296, us 297, us 298, us 299, us 300, us 301, us 302, us 303, us 304, us 305, us 306, us 307, us 308, us 309, us 310, us 311, us 312, us 313, us 314, us 315, us 316, us 317, us 318, us 319, us 320, us 321, us 322, us 323, us 324, us 325, us 326, us 327, us 328, us 329, us 330, us 331, us 332, us 333, us 334, us 335, us 336, us 337, us 338, us 339, us 340, us 341, us 342, us 343, us 344, us 345, us 346, us 347, us 348, us 349, us 350, us 351, us 352, us 353, us 354, us 355, us 356, us 357, us 358, us 359, us 360, us 361, us 362, us 363, us 364, us 365, us 366, us 367, us 368, us 369, us 370, us 371, us 372, us 373, us 374, us 375, us 376, us 377, us 378, us 379, us 380, us 381, us 382, us 383, us 384, us 385, us 386, us 387, us 388, us 389, us 390, us 391, us 392, us 393, us 394, us 395, us 396, us 397, us 398, us 399, us 400, us 401, us 402, us 403, us 404, us 405, us 406, us 407, us 408, us 409, us 410, us 411, us 412, us 413, us 414, us 415, us 416, us 417, us 418, us 419, us 420, us 421, us 422, us 423, us 424, us 425, us 426, us 427, us 428, us 429, us 430, us 431, us 432, us 433, us 434, us 435, us 436, us 437, us 438, us 439, us 440, us 441, us 442, us 443, us 444, us 445], []⟩ := by
  obtain ⟨⟨l⟩, m⟩ := a
  have hm' : m = [] := hm
  subst hm'
  obtain ⟨f, hf, hl⟩ := list_fn l 446 hs
  have e0 := hf 0 (by omega)
  have k0 : l[0]? = some v0 := by rw [← h0]; exact List.getElem?_toArray.symm
  rw [k0] at e0
  injection e0 with e0
  have e2 := hf 2 (by omega)
  have k2 : l[2]? = some v2 := by rw [← h2]; exact List.getElem?_toArray.symm
  rw [k2] at e2
  injection e2 with e2
  have e4 := hf 4 (by omega)
  have k4 : l[4]? = some v4 := by rw [← h4]; exact List.getElem?_toArray.symm
  rw [k4] at e4
  injection e4 with e4
  have e5 := hf 5 (by omega)
  have k5 : l[5]? = some v5 := by rw [← h5]; exact List.getElem?_toArray.symm
  rw [k5] at e5
  injection e5 with e5
  have e6 := hf 6 (by omega)
  have k6 : l[6]? = some v6 := by rw [← h6]; exact List.getElem?_toArray.symm
  rw [k6] at e6
  injection e6 with e6
  have e7 := hf 7 (by omega)
  have k7 : l[7]? = some v7 := by rw [← h7]; exact List.getElem?_toArray.symm
  rw [k7] at e7
  injection e7 with e7
  have e8 := hf 8 (by omega)
  have k8 : l[8]? = some v8 := by rw [← h8]; exact List.getElem?_toArray.symm
  rw [k8] at e8
  injection e8 with e8
  have e9 := hf 9 (by omega)
  have k9 : l[9]? = some v9 := by rw [← h9]; exact List.getElem?_toArray.symm
  rw [k9] at e9
  injection e9 with e9
  have e10 := hf 10 (by omega)
  have k10 : l[10]? = some v10 := by rw [← h10]; exact List.getElem?_toArray.symm
  rw [k10] at e10
  injection e10 with e10
  have e11 := hf 11 (by omega)
  have k11 : l[11]? = some v11 := by rw [← h11]; exact List.getElem?_toArray.symm
  rw [k11] at e11
  injection e11 with e11
  have e12 := hf 12 (by omega)
  have k12 : l[12]? = some v12 := by rw [← h12]; exact List.getElem?_toArray.symm
  rw [k12] at e12
  injection e12 with e12
  have e13 := hf 13 (by omega)
  have k13 : l[13]? = some v13 := by rw [← h13]; exact List.getElem?_toArray.symm
  rw [k13] at e13
  injection e13 with e13
  have e14 := hf 14 (by omega)
  have k14 : l[14]? = some v14 := by rw [← h14]; exact List.getElem?_toArray.symm
  rw [k14] at e14
  injection e14 with e14

  clear h0 k0
  subst e0
  clear h2 k2
  subst e2
  clear h4 k4
  subst e4
  clear h5 k5
  subst e5
  clear h6 k6
  subst e6
  clear h7 k7
  subst e7
  clear h8 k8
  subst e8
  clear h9 k9
  subst e9
  clear h10 k10
  subst e10
  clear h11 k11
  subst e11
  clear h12 k12
  subst e12
  clear h13 k13
  subst e13
  clear h14 k14
  subst e14

  exact ⟨f, by rw [hl]; rfl⟩
theorem keptI_no {s : RS} (h : s.keeps = false) : keptI s = -1 := by unfold keptI; rw [h]; rfl
theorem grown_self' (W : World) (row : Option Nat) : W.grownBy W row := ⟨rfl, rfl, rfl, Nat.le_refl _, fun _ _ _ => rfl⟩
theorem Sit.clear {W : World} {base R M S X : Nat} {vs vu vf vc : Value} {s : RS} {x : It} (h : Sit W base R M S X vs vu vf vc s x) : Sit W base R M S X vs (.slice none 0 0) vf vc { s with usages := [], keeps := false } x :=
  (h.usTo (v' := .slice none 0 0) (l := []) (grown_self' W _) (Own.nil _ _ _ _) (.inl rfl)).same rfl rfl rfl rfl rfl rfl
noncomputable def code11 : Code := (Try.f13.body.bind (findR 11)).getD .skip
noncomputable def code22 : Code := restC (restC (restC (restC (restC (restC (restC code11))))))
set_option maxRecDepth 1000000 in
set_option maxHeartbeats 8000000 in
theorem it_22 {Q : Exit → Act → World → Prop} {W : World} {base n c R M S X : Nat} {A : Option Addr} {vs vu vf vc : Value} {s : RS} {i : Int} {x : It} {a : Act} (ha : LiveU a A n c R M S X vs vu s i x) (h : Sit W base R M S X vs vu vf vc s x) (hs : s.Fine) (hw : x.wide = true) (hok : x.ok)
    (hC : OkC Q W base A n c R M S X s i x) (hE : OkE Q W R s x) (hP : ∀ c a d v w, Q (.panic c) (a.put d v) w → Q (.panic c) a w) (K K2 : Act → World → Prop) (hK : ∀ a w', Code.wp Try.prog (restC (headC code22)) (Exit.then K2 Q) a w' → K a w') (hK2 : ∀ a w', Code.wp Try.prog (restC code22) Q a w' → K2 a w') : Code.wp Try.prog (headC (headC code22)) (Exit.then K (Exit.then K2 Q)) a W := by
  obtain ⟨us, rfl⟩ := ha
  conv => arg 2; whnf
  conv at hK => enter [a, w', 1, 2]; whnf
  conv at hK2 => enter [a, w', 1, 2]; whnf
  dsimp only
  obtain ⟨w1, w2, w3, w4, _⟩ := wide_iff hw hok
  have hXl := heap_lt h.bx
  have t0 : W.cell? ⟨X, 0, none⟩ = some (.int .u8 x.ty) := cell_heap h.bx (o := 0) rfl
  have t1 : W.cell? ⟨X, 1, none⟩ = some (.int .u8 x.tg) := cell_heap h.bx (o := 1) rfl
  have wa : IntKind.i64.wrap x.ty = x.ty := by rw [IntKind.wrap_i64]; omega
  have wb : IntKind.i64.wrap x.tg = x.tg := by rw [IntKind.wrap_i64]; omega
  have wc : IntKind.i64.wrap (x.ty * 16) = x.ty * 16 := by rw [IntKind.wrap_i64]; omega
  obtain ⟨cc, hcc⟩ : ∃ cc, x.ty * 16 + x.tg = cc := ⟨_, rfl⟩
  have wd : IntKind.i64.wrap (x.ty * 16 + x.tg) = cc := by rw [IntKind.wrap_i64]; omega
  have we : IntKind.i64.wrap cc = cc := by rw [IntKind.wrap_i64]; omega
  go_upto_region 24 with (fail)
  refine sw_24 (A := A) (n := n) (c := c) (i := i) hcc ?_ h hs hw hok ?_ ?_ ?_ (fun v hv => by cases hv) _ ?_
  · exact frame_item rfl rfl rfl rfl rfl rfl rfl rfl rfl rfl rfl rfl rfl rfl rfl rfl
  · intro a' W' vs' vu' vf' vc' s' hF hL hS hfr
    obtain ⟨us', rfl⟩ := hL
    dsimp only
    have t2 : W'.cell? ⟨X, 0, none⟩ = some (.int .u8 x.ty) := cell_heap hS.bx (o := 0) rfl
    have hXl' := heap_lt hS.bx
    by_cases c0 : x.ty = 0
    · have d0 : (x.ty == 0) = true := by rw [c0]; rfl
      have d1 : decide (x.ty = 0) = true := decide_eq_true c0
      have hc : clearS s' x = { s' with usages := [], keeps := false } := by unfold clearS; rw [if_pos c0]
      clear c0
      go_wp2_with fail
      refine hC _ _ vs' (.slice none 0 0) vf' vc' s' hF ?_ (by rw [hc]; exact hS.clear) hfr
      rw [hc]
      exact frame_end rfl rfl rfl rfl rfl rfl rfl rfl rfl rfl rfl rfl
    · have d0 : (x.ty == 0) = false := beq_false_of_ne c0
      have d1 : decide (x.ty = 0) = false := decide_eq_false c0
      have hc : clearS s' x = s' := by unfold clearS; rw [if_neg c0]
      go_wp2_with fail
      refine hC _ _ vs' vu' vf' vc' s' hF ?_ (by rw [hc]; exact hS) hfr
      rw [hc]
      exact frame_end rfl rfl rfl rfl rfl rfl rfl rfl rfl rfl rfl rfl
  · exact fun a' W' E h1 h2 h3 h4 h5 h6 h7 => hE a' W' E h1 h2 h3 h4 h5 h6 h7
  · exact fun c a d v w h => hP c a d v w h
  · assumption
end Go.Proofs.Ytegdigfcgeoboaa
/- An item: its sign and its usage. Printed by gen_m.py. -/
namespace Go.Proofs.Ytegdigfcgeoboaa
open Go.RowKit Go.Maps
attribute [local go_sem ↓] Go.wp_at_zero Go.wp_at_succ

set_option maxRecDepth 1000000 in
set_option maxHeartbeats 8000000 in
theorem it_11 {Q : Exit → Act → World → Prop} {W : World} {base n c R M S X : Nat} {A : Option Addr} {vs vu vf vc : Value} {s : RS} {i : Int} {x : It} {a : Act} (ha : LiveN a A n c R M S X vs vu s i) (h : Sit W base R M S X vs vu vf vc s x) (hs : s.Fine) (hw : x.wide = true) (hok : x.ok)
    (hC : OkC Q W base A n c R M S X s i x) (hE : OkE Q W R s x) (hP : ∀ c a d v w, Q (.panic c) (a.put d v) w → Q (.panic c) a w) (K : Act → World → Prop) (hK : ∀ a w', Code.wp Try.prog (restC code11) Q a w' → K a w') : Code.wp Try.prog (headC code11) (Exit.then K Q) a W := by
  obtain ⟨us, rfl⟩ := ha
  conv => arg 2; whnf
  conv at hK => enter [a, w', 1, 2]; whnf
  dsimp only
  obtain ⟨d0, d1, d2⟩ := data_lt hw hok
  clear d2
  have hXl := heap_lt h.bx
  have hSl := heap_lt h.md.bs
  have t2 : W.cell? ⟨X, 2, none⟩ = some (.int .i64 x.size) := cell_heap h.bx (o := 2) rfl
  have t3 : W.cell? ⟨X, 3, none⟩ = some (.int .u32 x.data) := cell_heap h.bx (o := 3) rfl
  have p0 : W.cell? ⟨S, 0, none⟩ = some (.int .i64 s.g.page) := cell_heap h.md.bs (o := 0) rfl
  have hpg := hs.page
  have wx : IntKind.i64.wrap x.data = x.data := by rw [IntKind.wrap_i64]; omega
  have wp_ : IntKind.i64.wrap (s.g.page * 65536) = s.g.page * 65536 := by rw [IntKind.wrap_i64]; omega
  have wq : IntKind.i64.wrap (s.g.page * 65536 + x.data) = s.g.page * 65536 + x.data := by rw [IntKind.wrap_i64]; omega
  rcases (wide_iff hw hok).2.2.2.2 with ⟨hz, hd⟩ | ⟨hz, hd⟩ | ⟨hz, hd⟩ | hz
  · have z1 : (x.size == 1) = false := by rw [hz]; rfl
    have z2 : (x.size == 2) = false := by rw [hz]; rfl
    have z4 : (x.size == 4) = false := by rw [hz]; rfl
    have y1 : decide (x.size = 1) = false := by rw [hz]; rfl
    have y2 : decide (x.size = 2) = false := by rw [hz]; rfl
    have y4 : decide (x.size = 4) = false := by rw [hz]; rfl
    have y5 : decide (x.size < 4) = true := by rw [hz]; rfl
    have hsg : signS x = x.data := by unfold signS; rw [if_neg (by omega), if_neg (by omega), if_neg (by omega)]; omega
    have hug : usageS s x = s.g.page * 65536 + x.data := by unfold usageS; rw [if_neg (by omega)]
    clear hz hd
    go_upto_region 22 with (fail)
    refine it_22 (s := s) ?_ h hs hw hok hC hE hP _ _ ?_ ?_
    · unfold LiveU; rw [hsg, hug]; exact frame_u rfl rfl rfl rfl rfl rfl rfl rfl rfl rfl rfl rfl rfl rfl rfl
    all_goals assumption
  · by_cases hn : 127 < x.data
    · have z1 : (x.size == 1) = true := by rw [hz]; rfl
      have z2 : (x.size == 2) = false := by rw [hz]; rfl
      have z4 : (x.size == 4) = false := by rw [hz]; rfl
      have y1 : decide (x.size = 1) = true := by rw [hz]; rfl
      have y2 : decide (x.size = 2) = false := by rw [hz]; rfl
      have y4 : decide (x.size = 4) = false := by rw [hz]; rfl
      have y5 : decide (x.size < 4) = true := by rw [hz]; rfl
      have n1 : decide (127 < x.data) = true := decide_eq_true hn
      have hsg : signS x = x.data - 256 := by unfold signS; rw [if_pos hz, if_pos hn]
      have hug : usageS s x = s.g.page * 65536 + x.data := by unfold usageS; rw [if_neg (by omega)]
      have wn : IntKind.i64.wrap (x.data - 256) = x.data - 256 := by rw [IntKind.wrap_i64]; omega
      clear hz
      go_upto_region 22 with (fail)
      refine it_22 (s := s) ?_ h hs hw hok hC hE hP _ _ ?_ ?_
      · unfold LiveU; rw [hsg, hug]; exact frame_u rfl rfl rfl rfl rfl rfl rfl rfl rfl rfl rfl rfl rfl rfl rfl
      all_goals assumption
    · have z1 : (x.size == 1) = true := by rw [hz]; rfl
      have z2 : (x.size == 2) = false := by rw [hz]; rfl
      have z4 : (x.size == 4) = false := by rw [hz]; rfl
      have y1 : decide (x.size = 1) = true := by rw [hz]; rfl
      have y2 : decide (x.size = 2) = false := by rw [hz]; rfl
      have y4 : decide (x.size = 4) = false := by rw [hz]; rfl
      have y5 : decide (x.size < 4) = true := by rw [hz]; rfl
      have n1 : decide (127 < x.data) = false := decide_eq_false hn
      have hsg : signS x = x.data := by unfold signS; rw [if_pos hz, if_neg hn]
      have hug : usageS s x = s.g.page * 65536 + x.data := by unfold usageS; rw [if_neg (by omega)]
      clear hz
      go_upto_region 22 with (fail)
      refine it_22 (s := s) ?_ h hs hw hok hC hE hP _ _ ?_ ?_
      · unfold LiveU; rw [hsg, hug]; exact frame_u rfl rfl rfl rfl rfl rfl rfl rfl rfl rfl rfl rfl rfl rfl rfl
      all_goals assumption
  · by_cases hn : 32767 < x.data
    · have z1 : (x.size == 1) = false := by rw [hz]; rfl
      have z2 : (x.size == 2) = true := by rw [hz]; rfl
      have z4 : (x.size == 4) = false := by rw [hz]; rfl
      have y1 : decide (x.size = 1) = false := by rw [hz]; rfl
      have y2 : decide (x.size = 2) = true := by rw [hz]; rfl
      have y4 : decide (x.size = 4) = false := by rw [hz]; rfl
      have y5 : decide (x.size < 4) = true := by rw [hz]; rfl
      have n1 : decide (32767 < x.data) = true := decide_eq_true hn
      have hsg : signS x = x.data - 65536 := by unfold signS; rw [if_neg (by omega), if_pos hz, if_pos hn]
      have hug : usageS s x = s.g.page * 65536 + x.data := by unfold usageS; rw [if_neg (by omega)]
      have wn : IntKind.i64.wrap (x.data - 65536) = x.data - 65536 := by rw [IntKind.wrap_i64]; omega
      clear hz
      go_upto_region 22 with (fail)
      refine it_22 (s := s) ?_ h hs hw hok hC hE hP _ _ ?_ ?_
      · unfold LiveU; rw [hsg, hug]; exact frame_u rfl rfl rfl rfl rfl rfl rfl rfl rfl rfl rfl rfl rfl rfl rfl
      all_goals assumption
    · have z1 : (x.size == 1) = false := by rw [hz]; rfl
      have z2 : (x.size == 2) = true := by rw [hz]; rfl
      have z4 : (x.size == 4) = false := by rw [hz]; rfl
      have y1 : decide (x.size = 1) = false := by rw [hz]; rfl
      have y2 : decide (x.size = 2) = true := by rw [hz]; rfl
      have y4 : decide (x.size = 4) = false := by rw [hz]; rfl
      have y5 : decide (x.size < 4) = true := by rw [hz]; rfl
      have n1 : decide (32767 < x.data) = false := decide_eq_false hn
      have hsg : signS x = x.data := by unfold signS; rw [if_neg (by omega), if_pos hz, if_neg hn]
      have hug : usageS s x = s.g.page * 65536 + x.data := by unfold usageS; rw [if_neg (by omega)]
      clear hz
      go_upto_region 22 with (fail)
      refine it_22 (s := s) ?_ h hs hw hok hC hE hP _ _ ?_ ?_
      · unfold LiveU; rw [hsg, hug]; exact frame_u rfl rfl rfl rfl rfl rfl rfl rfl rfl rfl rfl rfl rfl rfl rfl
      all_goals assumption
  · by_cases hn : 2147483647 < x.data
    · have z1 : (x.size == 1) = false := by rw [hz]; rfl
      have z2 : (x.size == 2) = false := by rw [hz]; rfl
      have z4 : (x.size == 4) = true := by rw [hz]; rfl
      have y1 : decide (x.size = 1) = false := by rw [hz]; rfl
      have y2 : decide (x.size = 2) = false := by rw [hz]; rfl
      have y4 : decide (x.size = 4) = true := by rw [hz]; rfl
      have y5 : decide (x.size < 4) = false := by rw [hz]; rfl
      have n1 : decide (2147483647 < x.data) = true := decide_eq_true hn
      have hsg : signS x = x.data - 4294967296 := by unfold signS; rw [if_neg (by omega), if_neg (by omega), if_pos hz, if_pos hn]
      have hug : usageS s x = x.data := by unfold usageS; rw [if_pos hz]
      have wn : IntKind.i64.wrap (x.data - 4294967296) = x.data - 4294967296 := by rw [IntKind.wrap_i64]; omega
      clear hz
      go_upto_region 22 with (fail)
      refine it_22 (s := s) ?_ h hs hw hok hC hE hP _ _ ?_ ?_
      · unfold LiveU; rw [hsg, hug]; exact frame_u rfl rfl rfl rfl rfl rfl rfl rfl rfl rfl rfl rfl rfl rfl rfl
      all_goals assumption
    · have z1 : (x.size == 1) = false := by rw [hz]; rfl
      have z2 : (x.size == 2) = false := by rw [hz]; rfl
      have z4 : (x.size == 4) = true := by rw [hz]; rfl
      have y1 : decide (x.size = 1) = false := by rw [hz]; rfl
      have y2 : decide (x.size = 2) = false := by rw [hz]; rfl
      have y4 : decide (x.size = 4) = true := by rw [hz]; rfl
      have y5 : decide (x.size < 4) = false := by rw [hz]; rfl
      have n1 : decide (2147483647 < x.data) = false := decide_eq_false hn
      have hsg : signS x = x.data := by unfold signS; rw [if_neg (by omega), if_neg (by omega), if_pos hz, if_neg hn]
      have hug : usageS s x = x.data := by unfold usageS; rw [if_pos hz]
      clear hz
      go_upto_region 22 with (fail)
      refine it_22 (s := s) ?_ h hs hw hok hC hE hP _ _ ?_ ?_
      · unfold LiveU; rw [hsg, hug]; exact frame_u rfl rfl rfl rfl rfl rfl rfl rfl rfl rfl rfl rfl rfl rfl rfl
      all_goals assumption
end Go.Proofs.Ytegdigfcgeoboaa
/- The definition of Parse, whole. Printed by gen_mi.py. -/
namespace Go.Proofs.Ytegdigfcgeoboaa
open Go.RowKit Go.Maps
attribute [local go_sem ↓] Go.wp_at_zero Go.wp_at_succ

def ModelPost (w : World) (E : Int) (s : RS) (e : Ending) (w' : World) : Prop := Kept w w' ∧
  ((E ≠ 0 ∧ e = .returned (.tuple #[.agg #[.slice none 0 0, .slice none 0 0, .bool false], .int .i64 E])) ∨
   (E = 0 ∧ ∃ Af nf Ac nc, e = .returned (.tuple #[.agg #[.slice Af s.fields.length nf, .slice Ac s.colls.length nc, .bool s.numbered], .int .i64 0]) ∧ Sl fdM w' (low w'.heap.size) Af s.fields.length s.fields ∧ Sl coT w' (low w'.heap.size) Ac s.colls.length s.colls))
theorem FrM.toBelow {base M S B : Nat} {w w' : World} (h : FrM base M S w w') (h1 : B ≤ base) (h2 : B ≤ M) (h3 : B ≤ S) : Below B w w' := ⟨h.os, h.tape, h.output, h.size, fun k hk => h.block k (by omega) (by omega) (by omega)⟩
theorem run_stepS {l : List It} {i : Nat} {x : It} {s s' : RS} (hx : l[i]? = some x) (hr : runS (l.take i) rs0 = (0, s)) (he : effS s x = (0, s')) : runS (l.take (i + 1)) rs0 = (0, clearS s' x) := by
  obtain ⟨h1, h2⟩ := List.getElem?_eq_some_iff.1 hx
  rw [List.take_succ_eq_append_getElem h1, h2, runS_snoc _ _ _ (by rw [hr]), hr, he]
  rfl
theorem parse_bad {l : List It} {i : Nat} {x : It} {s : RS} {E : Int} (hx : l[i]? = some x) (hr : runS (l.take i) rs0 = (0, s)) (he : (effS s x).1 = E) (hne : E ≠ 0) : (parseS l).1 = E := by
  obtain ⟨h1, h2⟩ := List.getElem?_eq_some_iff.1 hx
  have h3 : runS (l.take (i + 1)) rs0 = effS s x := by
    rw [List.take_succ_eq_append_getElem h1, h2, runS_snoc _ _ _ (by rw [hr]), hr, if_pos (by rw [he]; exact hne)]
  have h4 : runS l rs0 = effS s x := by
    have := runS_stop (l.take (i + 1)) rs0 (l.drop (i + 1)) (by rw [h3, he]; exact hne)
    rw [List.take_append_drop, h3] at this
    exact this
  unfold parseS
  rw [h4, if_pos (by rw [he]; exact hne), he]
theorem sl_unon {α : Type} {t : Ty α} {X : Nat → Prop} {w : World} {F : Nat → Prop} {A : Option Addr} {n : Nat} {xs : List α} (h : Sl (t.on X) w F A n xs) : Sl t w F A n xs := by
  refine ⟨h.1, fun i x hx => ?_⟩
  obtain ⟨b, off, cs, e, hb, hr, hc⟩ := h.2 i x hx
  exact ⟨b, off, cs, e, hb, t.keep hr (fun b hb => hb.1) (fun _ _ _ => rfl), hc⟩
/-- a block that holds no number is none of a row's -/
def NoInt (w : World) (R : Nat) : Prop := ∀ o k z, w.cell? ⟨R, o, none⟩ ≠ some (.int k z)
theorem sl_noi {α : Type} {t : Ty α} {w : World} {F F' : Nat → Prop} {A : Option Addr} {n R : Nat} {xs : List α} (hn : NoInt w R) (hF : ∀ b, F b → b ≠ R → F' b) (hcs : ∀ x cs, t.rel w F x cs → (∃ k z r, cs = Value.int k z :: r) ∧ t.rel w F' x cs) (h : Sl t w F A n xs) : Sl t w F' A n xs := by
  refine ⟨h.1, fun i x hx => ?_⟩
  obtain ⟨b, off, cs, e, hb, hr, hc⟩ := h.2 i x hx
  obtain ⟨⟨k, z, r, rfl⟩, hr'⟩ := hcs x cs hr
  refine ⟨b, off, _, e, hF b hb ?_, hr', hc⟩
  rintro rfl
  exact hn _ _ _ (hc 0 _ rfl)
theorem sl_ne32 {w : World} {F F' : Nat → Prop} {A : Option Addr} {n R : Nat} {xs : List Int} (hn : NoInt w R) (hF : ∀ b, F b → b ≠ R → F' b) (h : Sl u32T w F A n xs) : Sl u32T w F' A n xs :=
  sl_noi hn hF (fun x cs hr => ⟨⟨_, _, _, hr.1⟩, hr⟩) h
theorem sl_neCo {w : World} {F F' : Nat → Prop} {A : Option Addr} {n R : Nat} {xs : List Co} (hn : NoInt w R) (hF : ∀ b, F b → b ≠ R → F' b) (h : Sl coT w F A n xs) : Sl coT w F' A n xs :=
  sl_noi hn hF (fun x cs hr => ⟨⟨_, _, _, hr.1⟩, hr⟩) h
theorem sl_neFd {w : World} {F F' : Nat → Prop} {A : Option Addr} {n R : Nat} {xs : List Fd} (hn : NoInt w R) (hF : ∀ b, F b → b ≠ R → F' b) (h : Sl fdM w F A n xs) : Sl fdM w F' A n xs :=
  sl_noi hn hF (fun x cs hr => by
    obtain ⟨A, c, e, h1, h2, h3⟩ := hr
    exact ⟨⟨_, _, _, e⟩, A, c, e, h1, h2, sl_ne32 hn hF h3⟩) h
theorem noInt_zero {w : World} {R : Nat} (h : w.heap[R]? = some zero40) : NoInt w R := by
  intro o k z hc
  unfold zero40 at h
  match o, hc with
  | 0, hc => cases (cell_heap h (o := 0) rfl).symm.trans hc
  | 1, hc => cases (cell_heap h (o := 1) rfl).symm.trans hc
  | 2, hc => cases (cell_heap h (o := 2) rfl).symm.trans hc
  | o + 3, hc =>
    unfold World.cell? at hc
    simp [h] at hc
theorem ret13 {tm : Array Value} {w : World} {R : Nat} {a b c : Value} {E : Int} (h2 : tm[2]? = some (.pointer (some ⟨R, 0, none⟩))) (h3 : tm[3]? = some (.int .i64 E)) (h : w.heap[R]? = some (.cells #[a, b, c] 40 (0, 0))) : (results Try.f13 tm).run Try.prog w = .ok (.tuple #[.agg #[a, b, c], .int .i64 E]) w := by
  have c0 : w.cell? ⟨R, 0, none⟩ = some a := cell_heap h (o := 0) rfl
  have c1 : w.cell? ⟨R, 1, none⟩ = some b := cell_heap h (o := 1) rfl
  have c2 : w.cell? ⟨R, 2, none⟩ = some c := cell_heap h (o := 2) rfl
  simp [results, Try.results13, go_sem, Array.getD_eq_getD_getElem?, h2, h3, c0, c1, c2]
def LoopE (W : World) (A : Option Addr) (n c : Nat) (R M S : Nat) (vs vu : Value) (s : RS) (i : Int) (k : Nat) (a : Act) (wr : World) : Prop :=
  ∃ (us : Nat → Value) (m : Nat) (j : Int), a = ⟨#[.slice A n c, us 1, .pointer (some ⟨R, 0, none⟩), us 3, .pointer (some ⟨M, 0, none⟩), .pointer (some ⟨S, 0, none⟩), vs, vu, .int .i64 (keptI s), .int .i64 s.opn, .int .i64 i, us 11, us 12, us 13, us 14, us 15, us 16, us 17, us 18, us 19, us 20, .int .i64 j, us 22, us 23, us 24, us 25, us 26, us 27, us 28, us 29, us 30, us 31, us 32, us 33, us 34, us 35, us 36, us 37, us 38, us 39, us 40, us 41, us 42, us 43, us 44, us 45, us 46, us 47, us 48, us 49, us 50, us 51, us 52, us 53, us 54, us 55, us 56, us 57, us 58, us 59, us 60, us 61, us 62, us 63, us 64, us 65, us 66, us 67, us 68, us 69, us 70, us 71, us 72, us 73, us 74, us 75, us 76, us 77, us 78, us 79, us 80, us 81, us 82, us 83, us 84, us 85, us 86, us 87, us 88, us 89, us 90, us 91, us 92, us 93, us 94, us 95, us 96, us 97, us 98, us 99, us 100, us 101, us 102, us 103, us 104, us 105, us 106, us 107, us 108, us 109, us 110, us 111, us 112, us 113, us 114, us 115, us 116, us 117, us 118, us 119, us 120, us 121, us 122, us 123, us 124, us 125, us 126, us 127, us 128, us 129, us 130, us 131, us 132, us 133, us 134, us 135, us 136, us 137, us 138, us 139, us 140, us 141, us 142, us 143, us 144, us 145, us 146, us 147, us 148, us 149, us 150, us 151, us 152, us 153, us 154, us 155, us 156, us 157, us 158, us 159, us 160, us 161, us 162, us 163, us 164, us 165, us 166, us 167, us 168, us 169, us 170, us 171, us 172, us 173, us 174, us 175, us 176, us 177, us 178, us 179, us 180, us 181, us 182, us 183, us 184, us 185, us 186, us 187, us 188, us 189, us 190, us 191, us 192, us 193, us 194, us 195, us 196, us 197, us 198, us 199, us 200, us 201, us 202, us 203, us 204, us 205, us 206, us 207, us 208, us 209, us 210, us 211, us 212, us 213, us 214, us 215, us 216, us 217, us 218, us 219, us 220, us 221, us 222, us 223, us 224, us 225, us 226, us 227, us 228, us 229, us 230, us 231, us 232, us 233, us 234, us 235, us 236, us 237, us 238, us 239, us 240, us 241, us 242, us 243, us 244, us 245, us 246, us 247, us 248, us 249, us 250, us 251, us 252, us 253, us 254, us 255, us 256, us 257, us 258, us 259, us 260, us 261, us 262, us 263, us 264, us 265, us 266, us 267, us 268, us 269, us 270, us 271, us 272, us 273, us 274, us 275, us 276, us 277, us 278, us 279, us 280, us 281, us 282, us 283, us 284, us 285, us 286, us 287, us 288, us 289, us 290, us 291, us 292, us 293, us 294, us 295, us 296, us 297, us 298, us 299, us 300, us 301, us 302, us 303, us 304, us 305, us 306, us 307, us 308, us 309, us 310, us 311, us 312, us 313, us 314, us 315, us 316, us 317, us 318, us 319, us 320, us 321, us 322, us 323, us 324, us 325, us 326, us 327, us 328, us 329, us 330, us 331, us 332, us 333, us 334, us 335, us 336, us 337, us 338, us 339, us 340, us 341, us 342, us 343, us 344, us 345, us 346, us 347, us 348, us 349, us 350, us 351, us 352, us 353, us 354, us 355, us 356, us 357, us 358, us 359, us 360, us 361, us 362, us 363, us 364, us 365, us 366, us 367, us 368, us 369, us 370, us 371, us 372, us 373, us 374, us 375, us 376, us 377, us 378, us 379, us 380, us 381, us 382, us 383, us 384, us 385, us 386, us 387, us 388, us 389, us 390, us 391, us 392, us 393, us 394, us 395, us 396, us 397, us 398, us 399, us 400, us 401, us 402, us 403, us 404, us 405, us 406, us 407, us 408, us 409, us 410, us 411, us 412, us 413, us 414, us 415, us 416, us 417, us 418, us 419, us 420, us 421, us 422, us 423, us 424, us 425, us 426, us 427, us 428, us 429, us 430, us 431, us 432, us 433, us 434, us 435, us 436, us 437, us 438, us 439, us 440, us 441, us 442, us 443, us 444, us 445], []⟩ ∧ j = (m : Int) ∧ m + k = s.fields.length ∧ (s.numbered = true → ∀ f ∈ s.fields.take m, f.report ≠ 0) ∧ wr = W
theorem LoopE.of {W : World} {A : Option Addr} {n c : Nat} {R M S : Nat} {vs vu : Value} {s : RS} {i : Int} {k : Nat} {a : Act} {wr : World} {m : Nat} {j : Int} (hf : ∃ us : Nat → Value, a = ⟨#[.slice A n c, us 1, .pointer (some ⟨R, 0, none⟩), us 3, .pointer (some ⟨M, 0, none⟩), .pointer (some ⟨S, 0, none⟩), vs, vu, .int .i64 (keptI s), .int .i64 s.opn, .int .i64 i, us 11, us 12, us 13, us 14, us 15, us 16, us 17, us 18, us 19, us 20, .int .i64 j, us 22, us 23, us 24, us 25, us 26, us 27, us 28, us 29, us 30, us 31, us 32, us 33, us 34, us 35, us 36, us 37, us 38, us 39, us 40, us 41, us 42, us 43, us 44, us 45, us 46, us 47, us 48, us 49, us 50, us 51, us 52, us 53, us 54, us 55, us 56, us 57, us 58, us 59, us 60, us 61, us 62, us 63, us 64, us 65, us 66, us 67, us 68, us 69, us 70, us 71, us 72, us 73, us 74, us 75, us 76, us 77, us 78, us 79, us 80, us 81, us 82, us 83, us 84, us 85, us 86, us 87, us 88, us 89, us 90, us 91, us 92, us 93, us 94, us 95, us 96, us 97, us 98, us 99, us 100, us 101, us 102, us 103, us 104, us 105, us 106, us 107, us 108, us 109, us 110, us 111, us 112, us 113, us 114, us 115, us 116, us 117, us 118, us 119, us 120, us 121, us 122, us 123, us 124, us 125, us 126, us 127, us 128, us 129, us 130, us 131, us 132, us 133, us 134, us 135, us 136, us 137, us 138, us 139, us 140, us 141, us 142, us 143, us 144, us 145, us 146, us 147, us 148, us 149, us 150, us 151, us 152, us 153, us 154, us 155, us 156, us 157, us 158, us 159, us 160, us 161, us 162, us 163, us 164, us 165, us 166, us 167, us 168, us 169, us 170, us 171, us 172, us 173, us 174, us 175, us 176, us 177, us 178, us 179, us 180, us 181, us 182, us 183, us 184, us 185, us 186, us 187, us 188, us 189, us 190, us 191, us 192, us 193, us 194, us 195, us 196, us 197, us 198, us 199, us 200, us 201, us 202, us 203, us 204, us 205, us 206, us 207, us 208, us 209, us 210, us 211, us 212, us 213, us 214, us 215, us 216, us 217, us 218, us 219, us 220, us 221, us 222, us 223, us 224, us 225, us 226, us 227, us 228, us 229, us 230, us 231, us 232, us 233, us 234, us 235, us 236, us 237, us 238, us 239, us 240, us 241, us 242, us 243, us 244, us 245, us 246, us 247, us 248, us 249, us 250, us 251, us 252, us 253, us 254, us 255, us 256, us 257, us 258, us 259, us 260, us 261, us 262, us 263, us 264, us 265, us 266, us 267, us 268, us 269, us 270, us 271, us 272, us 273, us 274, us 275, us 276, us 277, us 278, us 279, us 280, us 281, us 282, us 283, us 284, us 285, us 286, us 287, us 288, us 289, us 290, us 291, us 292, us 293, us 294, us 295, us 296, us 297, us 298, us 299, us 300, us 301, us 302, us 303, us 304, us 305, us 306, us 307, us 308, us 309, us 310, us 311, us 312, us 313, us 314, us 315, us 316, us 317, us 318, us 319, us 320, us 321, us 322, us 323, us 324, us 325, us 326, us 327, us 328, us 329, us 330, us 331, us 332, us 333, us 334, us 335, us 336, us 337, us 338, us 339, us 340, us 341, us 342, us 343, us 344, us 345, us 346, us 347, us 348, us 349, us 350, us 351, us 352, us 353, us 354, us 355, us 356, us 357, us 358, us 359, us 360, us 361, us 362, us 363, us 364, us 365, us 366, us 367, us 368, us 369, us 370, us 371, us 372, us 373, us 374, us 375, us 376, us 377, us 378, us 379, us 380, us 381, us 382, us 383, us 384, us 385, us 386, us 387, us 388, us 389, us 390, us 391, us 392, us 393, us 394, us 395, us 396, us 397, us 398, us 399, us 400, us 401, us 402, us 403, us 404, us 405, us 406, us 407, us 408, us 409, us 410, us 411, us 412, us 413, us 414, us 415, us 416, us 417, us 418, us 419, us 420, us 421, us 422, us 423, us 424, us 425, us 426, us 427, us 428, us 429, us 430, us 431, us 432, us 433, us 434, us 435, us 436, us 437, us 438, us 439, us 440, us 441, us 442, us 443, us 444, us 445], []⟩) (hj : j = (m : Int)) (hm : m + k = s.fields.length) (hn : s.numbered = true → ∀ f ∈ s.fields.take m, f.report ≠ 0) (hw : wr = W) : LoopE W A n c R M S vs vu s i k a wr :=
  hf.elim fun us e => ⟨us, m, j, e, hj, hm, hn, hw⟩
set_option maxRecDepth 100000 in
theorem frame_e {a : Act} {v0 v2 v4 v5 v6 v7 v8 v9 v10 v21 : Value} (hs : a.tmps.size = 446) (hm : a.defers = []) (h0 : a.tmps[0]? = some v0) (h2 : a.tmps[2]? = some v2) (h4 : a.tmps[4]? = some v4) (h5 : a.tmps[5]? = some v5) (h6 : a.tmps[6]? = some v6) (h7 : a.tmps[7]? = some v7) (h8 : a.tmps[8]? = some v8) (h9 : a.tmps[9]? = some v9) (h10 : a.tmps[10]? = some v10) (h21 : a.tmps[21]? = some v21) : ∃ us : Nat → Value, a = ⟨#[v0, us 1, v2, us 3, v4, v5, v6, v7, v8, v9, v10, us 11, us 12, us 13, us 14, us 15, us 16, us 17, us 18, us 19, us 20, v21, us 22, us 23, us 24, us 25, us 26, us 27, us 28, us 29, us 30, us 31, us 32, us 33, us 34, us 35, us 36, us 37, us 38, us 39, us 40, us 41, us 42, us 43, us 44, us 45, us 46, us 47, us 48, us 49, us 50, us 51, us 52, us 53, us 54, us 55, us 56, us 57, us 58, us 59, us 60, us 61, us 62, us 63, us 64, us 65, us 66, us 67, us 68, us 69, us 70, us 71, us 72, us 73, us 74, us 75, us 76, us 77, us 78, us 79, us 80, us 81, us 82, us 83, us 84, us 85, us 86, us 87, us 88, us 89, us 90, us 91, us 92, us 93, us 94, us 95, us 96, us 97, us 98, us 99, us 100, us 101, us 102, us 103, us 104, us 105, us 106, us 107, us 108, us 109, us 110, us 111, us 112, us 113, us 114, us 115, us 116, us 117, us 118, us 119, us 120, us 121, us 122, us 123, us 124, us 125, us 126, us 127, us 128, us 129, us 130, us 131, us 132, us 133, us 134, us 135, us 136, us 137, us 138, us 139, us 140, us 141, us 142, us 143, us 144, us 145, us 146, us 147, us 148, us 149, us 150, us 151, us 152, us 153, us 154, us 155, us 156, us 157, us 158, us 159, us 160, us 161, us 162, us 163, us 164, us 165, us 166, us 167, us 168, us 169, us 170, us 171, us 172, us 173, us 174, us 175, us 176, us 177, us 178, us 179, us 180, us 181, us 182, us 183, us 184, us 185, us 186, us 187, us 188, us 189, us 190, us 191, us 192, us 193, us 194, us 195, us 196, us 197, us 198, us 199, us 200, us 201, us 202, us 203, us 204, us 205, us 206, us 207, us 208, us 209, us 210, us 211, us 212, us 213, us 214, us 215, us 216, us 217, us 218, us 219, us 220, us 221, us 222, us 223, us 224, us 225, us 226, us 227, us 228, us 229, us 230, us 231, us 232, us 233, us 234, us 235, us 236, us 237, us 238, us 239, us 240, us 241, us 242, us 243, us 244, us 245, us 246, us 247, us 248, us 249, us 250, us 251, us 252, us 253, us 254, us 255, us 256, us 257, us 258, us 259, us 260, us 261, us 262, us 263, us 264, us 265, us 266, us 267, us 268, us 269, us 270, us 271, us 272, us 273, us 274, us 275, us 276, us 277, us 278, us 279, us 280, us 281, us 282, us 283, us 284, us 285, us 286, us 287, us 288, us 289, us 290, us 291, us 292, us 293, us 294, us 295, us 296, us 297, us 298, us 299, us 300, us 301, us 302, us 303, us 304, us 305, us 306, us 307, us 308, us 309, us 310, us 311, us 312, us 313, us 314, us 315, us 316, us 317, us 318, us 319, us 320, us 321, us 322, us 323, us 324, us 325, us 326, us 327, us 328, us 329, us 330, us 331, us 332, us 333, us 334, us 335, us 336, us 337, us 338, us 339, us 340, us 341, us 342, us 343, us 344, us 345, us 346, us 347, us 348, us 349, us 350, us 351, us 352, us 353, us 354, us 355, us 356, us 357, us 358, us 359, us 360, us 361, us 362, us 363, us 364, us 365, us 366, us 367, us 368, us 369, us 370, us 371, us 372, us 373, us 374, us 375, us 376, us 377, us 378, us 379, us 380, us 381, us 382, us 383, us 384, us 385, us 386, us 387, us 388, us 389, us 390, us 391, us 392, us 393, us 394, us 395, us 396, us 397, us 398, us 399, us 400, us 401, us 402, us 403, us 404, us 405, us 406, us 407, us 408, us 409, us 410, us 411, us 412, us 413, us 414, us 415, us 416, us 417, us 418, us 419, us 420, us 421, us 422, us 423, us 424, us 425, us 426, us 427, us 428, us 429, us 430, us 431, us 432, us 433, us 434, us 435, us 436, us 437, us 438, us 439, us 440, us 441, us 442, us 443, us 444, us 445], []⟩ := by
  obtain ⟨⟨l⟩, m⟩ := a
  have hm' : m = [] := hm
  subst hm'
  obtain ⟨f, hf, hl⟩ := list_fn l 446 hs
  have e0 := hf 0 (by omega)
  have k0 : l[0]? = some v0 := by rw [← h0]; exact List.getElem?_toArray.symm
  rw [k0] at e0
  injection e0 with e0
  have e2 := hf 2 (by omega)
  have k2 : l[2]? = some v2 := by rw [← h2]; exact List.getElem?_toArray.symm
  rw [k2] at e2
  injection e2 with e2
  have e4 := hf 4 (by omega)
  have k4 : l[4]? = some v4 := by rw [← h4]; exact List.getElem?_toArray.symm
  rw [k4] at e4
  injection e4 with e4
  have e5 := hf 5 (by omega)
  have k5 : l[5]? = some v5 := by rw [← h5]; exact List.getElem?_toArray.symm
  rw [k5] at e5
  injection e5 with e5
  have e6 := hf 6 (by omega)
  have k6 : l[6]? = some v6 := by rw [← h6]; exact List.getElem?_toArray.symm
  rw [k6] at e6
  injection e6 with e6
  have e7 := hf 7 (by omega)
  have k7 : l[7]? = some v7 := by rw [← h7]; exact List.getElem?_toArray.symm
  rw [k7] at e7
  injection e7 with e7
  have e8 := hf 8 (by omega)
  have k8 : l[8]? = some v8 := by rw [← h8]; exact List.getElem?_toArray.symm
  rw [k8] at e8
  injection e8 with e8
  have e9 := hf 9 (by omega)
  have k9 : l[9]? = some v9 := by rw [← h9]; exact List.getElem?_toArray.symm
  rw [k9] at e9
  injection e9 with e9
  have e10 := hf 10 (by omega)
  have k10 : l[10]? = some v10 := by rw [← h10]; exact List.getElem?_toArray.symm
  rw [k10] at e10
  injection e10 with e10
  have e21 := hf 21 (by omega)
  have k21 : l[21]? = some v21 := by rw [← h21]; exact List.getElem?_toArray.symm
  rw [k21] at e21
  injection e21 with e21

  clear h0 k0
  subst e0
  clear h2 k2
  subst e2
  clear h4 k4
  subst e4
  clear h5 k5
  subst e5
  clear h6 k6
  subst e6
  clear h7 k7
  subst e7
  clear h8 k8
  subst e8
  clear h9 k9
  subst e9
  clear h10 k10
  subst e10
  clear h21 k21
  subst e21

  exact ⟨f, by rw [hl]; rfl⟩

/-- what holds at the head of the loop -/
def LoopI (W : World) (A : Option Addr) (n c : Nat) (R M S : Nat) (l : List It) (k : Nat) (a : Act) (wr : World) : Prop :=
  ∃ (us : Nat → Value) (i : Nat) (j : Int) (vs vu vf vc : Value) (s : RS), a = ⟨#[.slice A n c, us 1, .pointer (some ⟨R, 0, none⟩), us 3, .pointer (some ⟨M, 0, none⟩), .pointer (some ⟨S, 0, none⟩), vs, vu, .int .i64 (keptI s), .int .i64 s.opn, .int .i64 j, us 11, us 12, us 13, us 14, us 15, us 16, us 17, us 18, us 19, us 20, us 21, us 22, us 23, us 24, us 25, us 26, us 27, us 28, us 29, us 30, us 31, us 32, us 33, us 34, us 35, us 36, us 37, us 38, us 39, us 40, us 41, us 42, us 43, us 44, us 45, us 46, us 47, us 48, us 49, us 50, us 51, us 52, us 53, us 54, us 55, us 56, us 57, us 58, us 59, us 60, us 61, us 62, us 63, us 64, us 65, us 66, us 67, us 68, us 69, us 70, us 71, us 72, us 73, us 74, us 75, us 76, us 77, us 78, us 79, us 80, us 81, us 82, us 83, us 84, us 85, us 86, us 87, us 88, us 89, us 90, us 91, us 92, us 93, us 94, us 95, us 96, us 97, us 98, us 99, us 100, us 101, us 102, us 103, us 104, us 105, us 106, us 107, us 108, us 109, us 110, us 111, us 112, us 113, us 114, us 115, us 116, us 117, us 118, us 119, us 120, us 121, us 122, us 123, us 124, us 125, us 126, us 127, us 128, us 129, us 130, us 131, us 132, us 133, us 134, us 135, us 136, us 137, us 138, us 139, us 140, us 141, us 142, us 143, us 144, us 145, us 146, us 147, us 148, us 149, us 150, us 151, us 152, us 153, us 154, us 155, us 156, us 157, us 158, us 159, us 160, us 161, us 162, us 163, us 164, us 165, us 166, us 167, us 168, us 169, us 170, us 171, us 172, us 173, us 174, us 175, us 176, us 177, us 178, us 179, us 180, us 181, us 182, us 183, us 184, us 185, us 186, us 187, us 188, us 189, us 190, us 191, us 192, us 193, us 194, us 195, us 196, us 197, us 198, us 199, us 200, us 201, us 202, us 203, us 204, us 205, us 206, us 207, us 208, us 209, us 210, us 211, us 212, us 213, us 214, us 215, us 216, us 217, us 218, us 219, us 220, us 221, us 222, us 223, us 224, us 225, us 226, us 227, us 228, us 229, us 230, us 231, us 232, us 233, us 234, us 235, us 236, us 237, us 238, us 239, us 240, us 241, us 242, us 243, us 244, us 245, us 246, us 247, us 248, us 249, us 250, us 251, us 252, us 253, us 254, us 255, us 256, us 257, us 258, us 259, us 260, us 261, us 262, us 263, us 264, us 265, us 266, us 267, us 268, us 269, us 270, us 271, us 272, us 273, us 274, us 275, us 276, us 277, us 278, us 279, us 280, us 281, us 282, us 283, us 284, us 285, us 286, us 287, us 288, us 289, us 290, us 291, us 292, us 293, us 294, us 295, us 296, us 297, us 298, us 299, us 300, us 301, us 302, us 303, us 304, us 305, us 306, us 307, us 308, us 309, us 310, us 311, us 312, us 313, us 314, us 315, us 316, us 317, us 318, us 319, us 320, us 321, us 322, us 323, us 324, us 325, us 326, us 327, us 328, us 329, us 330, us 331, us 332, us 333, us 334, us 335, us 336, us 337, us 338, us 339, us 340, us 341, us 342, us 343, us 344, us 345, us 346, us 347, us 348, us 349, us 350, us 351, us 352, us 353, us 354, us 355, us 356, us 357, us 358, us 359, us 360, us 361, us 362, us 363, us 364, us 365, us 366, us 367, us 368, us 369, us 370, us 371, us 372, us 373, us 374, us 375, us 376, us 377, us 378, us 379, us 380, us 381, us 382, us 383, us 384, us 385, us 386, us 387, us 388, us 389, us 390, us 391, us 392, us 393, us 394, us 395, us 396, us 397, us 398, us 399, us 400, us 401, us 402, us 403, us 404, us 405, us 406, us 407, us 408, us 409, us 410, us 411, us 412, us 413, us 414, us 415, us 416, us 417, us 418, us 419, us 420, us 421, us 422, us 423, us 424, us 425, us 426, us 427, us 428, us 429, us 430, us 431, us 432, us 433, us 434, us 435, us 436, us 437, us 438, us 439, us 440, us 441, us 442, us 443, us 444, us 445], []⟩ ∧ j = (i : Int) ∧ i + k = n ∧ runS (l.take i) rs0 = (0, s) ∧ Md wr W.heap.size M S vs vu vf vc s ∧ FrM W.heap.size M S W wr
theorem LoopI.of {W : World} {A : Option Addr} {n c : Nat} {R M S : Nat} {l : List It} {k : Nat} {a : Act} {wr : World} {i : Nat} {j : Int} {vs vu vf vc : Value} {s : RS} (hf : ∃ us : Nat → Value, a = ⟨#[.slice A n c, us 1, .pointer (some ⟨R, 0, none⟩), us 3, .pointer (some ⟨M, 0, none⟩), .pointer (some ⟨S, 0, none⟩), vs, vu, .int .i64 (keptI s), .int .i64 s.opn, .int .i64 j, us 11, us 12, us 13, us 14, us 15, us 16, us 17, us 18, us 19, us 20, us 21, us 22, us 23, us 24, us 25, us 26, us 27, us 28, us 29, us 30, us 31, us 32, us 33, us 34, us 35, us 36, us 37, us 38, us 39, us 40, us 41, us 42, us 43, us 44, us 45, us 46, us 47, us 48, us 49, us 50, us 51, us 52, us 53, us 54, us 55, us 56, us 57, us 58, us 59, us 60, us 61, us 62, us 63, us 64, us 65, us 66, us 67, us 68, us 69, us 70, us 71, us 72, us 73, us 74, us 75, us 76, us 77, us 78, us 79, us 80, us 81, us 82, us 83, us 84, us 85, us 86, us 87, us 88, us 89, us 90, us 91, us 92, us 93, us 94, us 95, us 96, us 97, us 98, us 99, us 100, us 101, us 102, us 103, us 104, us 105, us 106, us 107, us 108, us 109, us 110, us 111, us 112, us 113, us 114, us 115, us 116, us 117, us 118, us 119, us 120, us 121, us 122, us 123, us 124, us 125, us 126, us 127, us 128, us 129, us 130, us 131, us 132, us 133, us 134, us 135, us 136, us 137, us 138, us 139, us 140, us 141, us 142, us 143, us 144, us 145, us 146, us 147, us 148, us 149, us 150, us 151, us 152, us 153, us 154, us 155, us 156, us 157, us 158, us 159, us 160, us 161, us 162, us 163, us 164, us 165, us 166, us 167, us 168, us 169, us 170, us 171, us 172, us 173, us 174, us 175, us 176, us 177, us 178, us 179, us 180, us 181, us 182, us 183, us 184, us 185, us 186, us 187, us 188, us 189, us 190, us 191, us 192, us 193, us 194, us 195, us 196, us 197, us 198, us 199, us 200, us 201, us 202, us 203, us 204, us 205, us 206, us 207, us 208, us 209, us 210, us 211, us 212, us 213, us 214, us 215, us 216, us 217, us 218, us 219, us 220, us 221, us 222, us 223, us 224, us 225, us 226, us 227, us 228, us 229, us 230, us 231, us 232, us 233, us 234, us 235, us 236, us 237, us 238, us 239, us 240, us 241, us 242, us 243, us 244, us 245, us 246, us 247, us 248, us 249, us 250, us 251, us 252, us 253, us 254, us 255, us 256, us 257, us 258, us 259, us 260, us 261, us 262, us 263, us 264, us 265, us 266, us 267, us 268, us 269, us 270, us 271, us 272, us 273, us 274, us 275, us 276, us 277, us 278, us 279, us 280, us 281, us 282, us 283, us 284, us 285, us 286, us 287, us 288, us 289, us 290, us 291, us 292, us 293, us 294, us 295, us 296, us 297, us 298, us 299, us 300, us 301, us 302, us 303, us 304, us 305, us 306, us 307, us 308, us 309, us 310, us 311, us 312, us 313, us 314, us 315, us 316, us 317, us 318, us 319, us 320, us 321, us 322, us 323, us 324, us 325, us 326, us 327, us 328, us 329, us 330, us 331, us 332, us 333, us 334, us 335, us 336, us 337, us 338, us 339, us 340, us 341, us 342, us 343, us 344, us 345, us 346, us 347, us 348, us 349, us 350, us 351, us 352, us 353, us 354, us 355, us 356, us 357, us 358, us 359, us 360, us 361, us 362, us 363, us 364, us 365, us 366, us 367, us 368, us 369, us 370, us 371, us 372, us 373, us 374, us 375, us 376, us 377, us 378, us 379, us 380, us 381, us 382, us 383, us 384, us 385, us 386, us 387, us 388, us 389, us 390, us 391, us 392, us 393, us 394, us 395, us 396, us 397, us 398, us 399, us 400, us 401, us 402, us 403, us 404, us 405, us 406, us 407, us 408, us 409, us 410, us 411, us 412, us 413, us 414, us 415, us 416, us 417, us 418, us 419, us 420, us 421, us 422, us 423, us 424, us 425, us 426, us 427, us 428, us 429, us 430, us 431, us 432, us 433, us 434, us 435, us 436, us 437, us 438, us 439, us 440, us 441, us 442, us 443, us 444, us 445], []⟩) (hj : j = (i : Int)) (hi : i + k = n) (hr : runS (l.take i) rs0 = (0, s)) (hm : Md wr W.heap.size M S vs vu vf vc s) (hw : FrM W.heap.size M S W wr) : LoopI W A n c R M S l k a wr :=
  hf.elim fun us e => ⟨us, i, j, vs, vu, vf, vc, s, e, hj, hi, hr, hm, hw⟩
set_option maxRecDepth 1000000 in
set_option maxHeartbeats 8000000 in
theorem model_any (A : Option Addr) (n c : Nat) (l : List It) (w : World) (hnc : n ≤ c) (hc : c ≤ maxLen) (hl : Sl itT w (low w.heap.size) A n l) (hw : ∀ x ∈ l, x.wide = true ∧ x.ok) (h60 : n ≤ 60) :
    Calls Try.prog 13 #[.slice A n c] w (ModelPost w (parseS l).1 (parseS l).2) := by
  have hln := hl.1
  go_enter Try.func13, Try.ntmps13
  go_wp2_with fail
  refine wp_at (fun W => Kept w W ∧ W.heap[w.heap.size]? = some zero40 ∧ Md W W.heap.size (w.heap.size + 1) (w.heap.size + 2) (.slice none 0 0) (.slice none 0 0) (.slice none 0 0) (.slice none 0 0) rs0 ∧ W.heap.size = w.heap.size + 3) ?_ (fun W hW => ?_)
  · exact ⟨by go_grown, heap_past (heap_past (heap_at _ rfl)), ⟨heap_past (heap_at _ (by simp)), heap_at _ (by simp), Own.nil _ _ _ _, Own.nil _ _ _ _, Own.nil _ _ _ _, Own.nil _ _ _ _, by simp⟩, by simp⟩
  obtain ⟨hkW, hR, hM, hz⟩ := hW
  refine wp_loop_ghost_k (LoopI W A n c w.heap.size (w.heap.size + 1) (w.heap.size + 2) l) n ?_ ?_
  · exact LoopI.of (frame_loop rfl rfl rfl rfl rfl rfl rfl rfl rfl rfl rfl) (i := 0) rfl (by omega) rfl hM FrM.refl
  intro gk a wr hI J K hJ hK
  obtain ⟨us, i, j, vs, vu, vf, vc, s, rfl, rfl, hi, hrun, hm, hfr⟩ := hI
  have hfine : s.Fine := by
    have := run_fine (l.take i) rs0 fine0 (fun x hx => hw x (List.mem_of_mem_take hx)) (by rw [hrun])
    rw [hrun] at this
    exact this
  have hRr : wr.heap[w.heap.size]? = some zero40 := (hfr.block _ (by omega) (by omega) (by omega)).trans hR
  have hkwr : Kept w wr := hkW.trans (hfr.toBelow (by omega) (by omega) (by omega))
  have hzr := hfr.size
  by_cases hlt : i < n
  · have hl2 : Sl itT wr (low wr.heap.size) A n l := hl.kept hkwr
    obtain ⟨x, b, off, cs, hx, rfl, hbb, ⟨rfl, hxo⟩, hcs⟩ := hl2.at hlt
    obtain ⟨hxw, hxok⟩ := hw x (List.mem_of_getElem? hx)
    have hcs' : ∀ (o : Nat) v, (x.cells)[o]? = some v → wr.cell? ⟨b, off + i * 4 + o, none⟩ = some v := fun o v h => hcs o v h
    have x0 : wr.cell? ⟨b, off + i * 4, none⟩ = _ := hcs' 0 _ rfl
    have x1 := hcs' 1 _ rfl
    have x2 := hcs' 2 _ rfl
    have x3 := hcs' 3 _ rfl
    have hbl : b < wr.heap.size := hbb
    have hi0 : (0 : Int) ≤ (i : Int) := by omega
    have hlt' : (i : Int) < (n : Int) := by omega
    have Hcs := hide hcs
    have Hl := hide hl
    clear hcs hcs' hl2 hl
    go_upto_region 11 with (fail)
    refine wp_at (fun W2 => W2.heap[wr.heap.size]? = some (.cells #[.int .u8 x.ty, .int .u8 x.tg, .int .i64 x.size, .int .u32 x.data] 29 (0, 0)) ∧ Kept wr W2) ⟨heap_at _ rfl, by go_grown⟩ (fun W2 hW2 => ?_)
    obtain ⟨hbx, hk2⟩ := hW2
    have hsit : Sit W2 W.heap.size w.heap.size (w.heap.size + 1) (w.heap.size + 2) wr.heap.size vs vu vf vc s x := ⟨hm.kept hk2, Nat.le_trans hzr hk2.size, hbx, hzr, heap_kept hk2 hRr, by omega, by omega, by omega⟩
    refine it_11 (A := some ⟨b, off, none⟩) (n := n) (c := c) (i := (i : Int)) (s := s) (x := x) ?_ hsit hfine hxw hxok ?_ ?_ ?_ _ ?_
    · exact frame_end rfl rfl rfl rfl rfl rfl rfl rfl rfl rfl rfl rfl
    · intro a' W' vs' vu' vf' vc' s' hF hL hS hfr2
      obtain ⟨us', rfl⟩ := hL
      dsimp only
      have hwi : IntKind.i64.wrap ((i : Int) + 1) = ((i + 1 : Nat) : Int) := by rw [IntKind.wrap_i64]; omega
      go_wp2_with fail
      refine Handed.intro (gk - 1) (by omega) (hJ _ _ _ ?_)
      exact LoopI.of (frame_loop rfl rfl rfl rfl rfl rfl rfl rfl rfl rfl rfl) (i := i + 1) rfl (by omega) (run_stepS hx hrun hF) hS.md ((hfr.trans (FrM.kept hk2 hzr)).trans hfr2)
    · intro a' W' E h1 h2 h3 h4 h5 h6 h7
      have hp := parse_bad hx hrun h1 h2
      have c0 : W'.cell? ⟨w.heap.size, 0, none⟩ = some (.slice none 0 0) := cell_heap h6 (o := 0) rfl
      have c1 : W'.cell? ⟨w.heap.size, 1, none⟩ = some (.slice none 0 0) := cell_heap h6 (o := 1) rfl
      have c2 : W'.cell? ⟨w.heap.size, 2, none⟩ = some (.bool false) := cell_heap h6 (o := 2) rfl
      have k1 : Kept w W' := (hkwr.trans' hk2).trans h7
      refine bodyPost_ret (v := .tuple #[.agg #[.slice none 0 0, .slice none 0 0, .bool false], .int .i64 E]) (ret13 h4 h5 h6) h3 ⟨k1, ?_⟩
      rw [hp]
      exact .inl ⟨h2, rfl⟩
    · intro c a d v w h
      cases d <;> exact h
    · assumption
  · have hin : i = n := by omega
    have htk : l.take i = l := by rw [hin, ← hln, List.take_length]
    rw [htk] at hrun
    have hparse : parseS l = (endS s, s) := by unfold parseS; rw [hrun]; rfl
    have hge : decide ((i : Int) < (n : Int)) = false := decide_eq_false (by omega)
    clear hin
    have hMl := heap_lt hm.bm
    have hRl := heap_lt hRr
    obtain ⟨A5, c5, rfl, hD1, hD2⟩ := hm.fs.isSlice
    obtain ⟨A6, c6, rfl, hE1, hE2⟩ := hm.st.isSlice
    obtain ⟨A8, c8, rfl, hF1, hF2⟩ := hm.cs.isSlice
    have m0 : wr.cell? ⟨w.heap.size + 1, 0, none⟩ = some (.slice A5 s.fields.length c5) := cell_heap hm.bm (o := 0) rfl
    have m1 : wr.cell? ⟨w.heap.size + 1, 1, none⟩ = some (.slice A8 s.colls.length c8) := cell_heap hm.bm (o := 1) rfl
    have m2 : wr.cell? ⟨w.heap.size + 1, 2, none⟩ = some (.bool s.numbered) := cell_heap hm.bm (o := 2) rfl
    have r0 : wr.cell? ⟨w.heap.size, 0, none⟩ = some (.slice none 0 0) := cell_heap hRr (o := 0) rfl
    have r1 : wr.cell? ⟨w.heap.size, 1, none⟩ = some (.slice none 0 0) := cell_heap hRr (o := 1) rfl
    have r2 : wr.cell? ⟨w.heap.size, 2, none⟩ = some (.bool false) := cell_heap hRr (o := 2) rfl
    have fr0 := frozen_heap hRr (o := 0)
    have fr1 := frozen_heap hRr (o := 1)
    have fr2 := frozen_heap hRr (o := 2)
    have hfl := hfine.fields.1
    have Hp := hide hparse
    have Hrun := hide hrun
    have Hl := hide hl
    clear hparse hrun hl
    go_wp2_with fail
    refine wp_loop_ghost_k (LoopE wr A n c w.heap.size (w.heap.size + 1) (w.heap.size + 2) (.slice A6 s.stack.length c6) vu s (i : Int)) s.fields.length ?_ ?_
    · exact LoopE.of (frame_e rfl rfl rfl rfl rfl rfl rfl rfl rfl rfl rfl rfl) (m := 0) rfl (by omega) (fun _ f hf => by simp at hf) rfl
    intro gk2 a wr2 hI J2 K2 hJ2 hK2
    obtain ⟨us, m, j, rfl, rfl, hm2, hnum, rfl⟩ := hI
    have Hnum := hide hnum
    clear hnum
    by_cases hlt2 : m < s.fields.length
    · obtain ⟨f, b, off, cs, hf, rfl, hbb, ⟨A9, c9, rfl, hul, hcl, _⟩, hcs⟩ := hm.fs.sl.at hlt2
      have hcs' : ∀ (o : Nat) v, (f.cellsC A9 c9)[o]? = some v → wr2.cell? ⟨b, off + m * 13 + o, none⟩ = some v := fun o v h => hcs o v h
      have x1 := hcs' 1 _ rfl
      have hbl : b < wr2.heap.size := hbb
      have hi0 : (0 : Int) ≤ (m : Int) := by omega
      have hltd : decide ((m : Int) < (s.fields.length : Int)) = true := decide_eq_true (by omega)
      have hlt' : (m : Int) < (s.fields.length : Int) := by omega
      have hwm : IntKind.i64.wrap ((m : Int) + 1) = ((m + 1 : Nat) : Int) := by rw [IntKind.wrap_i64]; omega
      have hsn : s.fields.take (m + 1) = s.fields.take m ++ [f] := by
        obtain ⟨h1, h2⟩ := List.getElem?_eq_some_iff.1 hf
        rw [List.take_succ_eq_append_getElem h1, h2]
      have Hf := hide hf
      have Hsn := hide hsn
      clear hcs hcs' hf hsn
      cases hnb : s.numbered with
      | false =>
        rw [hnb] at m2
        go_wp2_with fail
        refine Handed.intro (gk2 - 1) (by omega) (hJ2 _ _ _ ?_)
        exact LoopE.of (frame_e rfl rfl rfl rfl rfl rfl rfl rfl rfl rfl rfl rfl) (m := m + 1) rfl (by omega) (fun e => by rw [hnb] at e; cases e) rfl
      | true =>
        rw [hnb] at m2
        by_cases hr0 : f.report = 0
        · have d1 : (f.report == 0) = true := by rw [hr0]; rfl
          have hend : endS s = 4 := by
            unfold endS
            rw [if_pos (.inr (.inr ⟨hnb, List.any_eq_true.2 ⟨f, List.mem_of_getElem? Hf.out, by rw [hr0]; rfl⟩⟩))]
          clear hr0
          go_wp2_with fail
          refine bodyPost_ret (v := .tuple #[.agg #[.slice none 0 0, .slice none 0 0, .bool false], .int .i64 4]) (ret13 rfl rfl (zeroed hRr).1) rfl ?_
          refine ⟨hkwr.trans (zeroed hRr).2, ?_⟩
          rw [Hp.out]
          exact .inl ⟨by show endS s ≠ 0; rw [hend]; decide, by show _ = Ending.returned (.tuple #[_, .int .i64 (endS s)]); rw [hend]⟩
        · have d1 : (f.report == 0) = false := beq_false_of_ne hr0
          go_wp2_with fail
          refine Handed.intro (gk2 - 1) (by omega) (hJ2 _ _ _ ?_)
          refine LoopE.of (frame_e rfl rfl rfl rfl rfl rfl rfl rfl rfl rfl rfl rfl) (m := m + 1) rfl (by omega) (fun e => ?_) rfl
          rw [Hsn.out]
          intro g hg
          rcases List.mem_append.1 hg with hg | hg
          · exact Hnum.out hnb g hg
          · rw [List.mem_singleton.1 hg]; exact hr0
    · have hltd : decide ((m : Int) < (s.fields.length : Int)) = false := decide_eq_false (by omega)
      have hmm : s.fields.take m = s.fields := List.take_of_length_le (by omega)
      by_cases ho : 0 ≤ s.opn
      · have hod : decide (0 ≤ s.opn) = true := decide_eq_true ho
        have hend : endS s = 4 := by unfold endS; rw [if_pos (.inl ho)]
        clear ho
        go_wp2_with fail
        refine bodyPost_ret (v := .tuple #[.agg #[.slice none 0 0, .slice none 0 0, .bool false], .int .i64 4]) (ret13 rfl rfl (zeroed hRr).1) rfl ?_
        refine ⟨hkwr.trans (zeroed hRr).2, ?_⟩
        rw [Hp.out]
        exact .inl ⟨by show endS s ≠ 0; rw [hend]; decide, by show _ = Ending.returned (.tuple #[_, .int .i64 (endS s)]); rw [hend]⟩
      · have hod : decide (0 ≤ s.opn) = false := decide_eq_false ho
        by_cases hst : 0 < s.stack.length
        · have hsd : decide (0 < (s.stack.length : Int)) = true := decide_eq_true (by omega)
          have hend : endS s = 4 := by
            unfold endS; rw [if_pos (.inr (.inl (fun e => by rw [e] at hst; simp at hst)))]
          clear ho
          go_wp2_with fail
          refine bodyPost_ret (v := .tuple #[.agg #[.slice none 0 0, .slice none 0 0, .bool false], .int .i64 4]) (ret13 rfl rfl (zeroed hRr).1) rfl ?_
          refine ⟨hkwr.trans (zeroed hRr).2, ?_⟩
          rw [Hp.out]
          exact .inl ⟨by show endS s ≠ 0; rw [hend]; decide, by show _ = Ending.returned (.tuple #[_, .int .i64 (endS s)]); rw [hend]⟩
        · have hsd : decide (0 < (s.stack.length : Int)) = false := decide_eq_false (by omega)
          have hend : endS s = 0 := by
            unfold endS
            rw [if_neg]
            rintro (e | e | ⟨e1, e2⟩)
            · exact ho e
            · exact e (List.eq_nil_of_length_eq_zero (by omega))
            · obtain ⟨f, hf, e3⟩ := List.any_eq_true.1 e2
              rw [← hmm] at hf
              exact Hnum.out e1 f hf (by simpa using e3)
          clear ho
          go_wp2_with fail
          refine bodyPost_ret (v := .tuple #[.agg #[.slice A5 s.fields.length c5, .slice A8 s.colls.length c8, .bool s.numbered], .int .i64 0]) (ret13 rfl rfl (heap_store (heap_store (heap_store hRr _) _) _)) rfl ?_
          refine ⟨hkwr.trans ((((Below.refl _ _).setCell (p := ⟨w.heap.size, 0, none⟩) (Nat.le_refl _) _).setCell (p := ⟨w.heap.size, 1, none⟩) (Nat.le_refl _) _).setCell (p := ⟨w.heap.size, 2, none⟩) (Nat.le_refl _) _), ?_⟩
          rw [Hp.out]
          have hno := noInt_zero hRr
          have hne : ∀ b o k, b ≠ w.heap.size → (⟨w.heap.size, k, none⟩ : Addr) ≠ ⟨b, o, none⟩ := fun b o k hb e => hb (congrArg Addr.block e).symm
          refine .inr ⟨hend, A5, c5, A8, c8, rfl, ?_, ?_⟩
          · exact (sl_neFd hno (F' := fun b => b < wr2.heap.size ∧ b ≠ w.heap.size) (fun b h1 h2 => ⟨h1, h2⟩) (sl_unon hm.fs.sl)).keep (fun b hb => by simpa [low] using hb.1) (fun b o hb => by rw [World.cell?_setCell_other _ _ _ _ (hne b o 2 hb.2), World.cell?_setCell_other _ _ _ _ (hne b o 1 hb.2), World.cell?_setCell_other _ _ _ _ (hne b o 0 hb.2)])
          · exact (sl_neCo hno (F' := fun b => b < wr2.heap.size ∧ b ≠ w.heap.size) (fun b h1 h2 => ⟨h1, h2⟩) hm.cs.sl).keep (fun b hb => by simpa [low] using hb.1) (fun b o hb => by rw [World.cell?_setCell_other _ _ _ _ (hne b o 2 hb.2), World.cell?_setCell_other _ _ _ _ (hne b o 1 hb.2), World.cell?_setCell_other _ _ _ _ (hne b o 0 hb.2)])
end Go.Proofs.Ytegdigfcgeoboaa
