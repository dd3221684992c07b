/- The definition's field: the loop over the fields that are there. Printed by gen_m.py. -/
import Derived.Test.YtegdigfcgeoboaaChecked
import Derived.Deep.RegionHeld3
import Derived.Deep.DrawnRows
import Derived.Deep.DeepCutAuto
import Derived.Deep.LoopGhost
import Derived.Outline
import Derived.Handy
import Derived.OwnWalk
import Derived.Test.YtegdigfcgeoboaaN2
import Derived.Test.YtegdigfcgeoboaaN19
import Derived.Test.YtegdigfcgeoboaaN20
import Derived.Test.YtegdigfcgeoboaaN11
set_option linter.unusedVariables false
set_option linter.unusedSimpArgs false
set_option linter.unusedSectionVars false
namespace Go.Proofs.Ytegdigfcgeoboaa
open Go.RowKit Go.Maps
attribute [local go_sem ↓] Go.wp_at_zero Go.wp_at_succ

def LoopB (W : World) (A : Option Addr) (n c : Nat) (R M S X F cap : Nat) (A' : Option Addr) (vs vu : Value) (s : RS) (i : Int) (x : It) (b1 b2 b4 : Bool) (k : Int) (g : Nat) (a : Act) (wr : World) : Prop :=
  ∃ (us : Nat → Value) (m : Nat) (j : Int), a = ⟨#[.slice A n c, us 1, .pointer (some ⟨R, 0, none⟩), us 3, .pointer (some ⟨M, 0, none⟩), .pointer (some ⟨S, 0, none⟩), vs, vu, .int .i64 (keptI s), .int .i64 s.opn, .int .i64 i, .pointer (some ⟨X, 0, none⟩), .int .i64 x.data, us 13, us 14, us 15, us 16, .pointer (some ⟨F, 0, none⟩), .int .i64 j, us 19, us 20, us 21, us 22, us 23, us 24, us 25, us 26, us 27, us 28, us 29, us 30, us 31, us 32, us 33, us 34, us 35, us 36, us 37, us 38, us 39, us 40, us 41, us 42, us 43, us 44, us 45, us 46, us 47, us 48, us 49, us 50, us 51, us 52, us 53, us 54, us 55, us 56, us 57, us 58, us 59, us 60, us 61, us 62, us 63, us 64, us 65, us 66, us 67, us 68, us 69, us 70, us 71, us 72, us 73, us 74, us 75, us 76, us 77, us 78, us 79, us 80, us 81, us 82, us 83, us 84, us 85, us 86, us 87, us 88, us 89, us 90, us 91, us 92, us 93, us 94, us 95, us 96, us 97, us 98, us 99, us 100, us 101, us 102, us 103, us 104, us 105, us 106, us 107, us 108, us 109, us 110, us 111, us 112, us 113, us 114, us 115, us 116, us 117, us 118, us 119, us 120, us 121, us 122, us 123, us 124, us 125, us 126, us 127, us 128, us 129, us 130, us 131, us 132, us 133, us 134, us 135, us 136, us 137, us 138, us 139, us 140, us 141, us 142, us 143, us 144, us 145, us 146, us 147, us 148, us 149, us 150, us 151, us 152, us 153, us 154, us 155, us 156, us 157, us 158, us 159, us 160, us 161, us 162, us 163, us 164, us 165, us 166, us 167, us 168, us 169, us 170, us 171, us 172, us 173, us 174, us 175, us 176, us 177, us 178, us 179, us 180, us 181, us 182, us 183, us 184, us 185, us 186, us 187, us 188, us 189, us 190, us 191, us 192, us 193, us 194, us 195, us 196, us 197, us 198, us 199, us 200, us 201, us 202, us 203, us 204, us 205, us 206, us 207, us 208, us 209, us 210, us 211, us 212, us 213, us 214, us 215, us 216, us 217, us 218, us 219, us 220, us 221, us 222, us 223, us 224, us 225, us 226, us 227, us 228, us 229, us 230, us 231, us 232, us 233, us 234, us 235, us 236, us 237, us 238, us 239, us 240, us 241, us 242, us 243, us 244, us 245, us 246, us 247, us 248, us 249, us 250, us 251, us 252, us 253, us 254, us 255, us 256, us 257, us 258, us 259, us 260, us 261, us 262, us 263, us 264, us 265, us 266, us 267, us 268, us 269, us 270, us 271, us 272, us 273, us 274, us 275, us 276, us 277, us 278, us 279, us 280, us 281, us 282, us 283, us 284, us 285, us 286, us 287, us 288, us 289, us 290, us 291, us 292, us 293, us 294, us 295, us 296, us 297, us 298, us 299, us 300, us 301, us 302, us 303, us 304, us 305, us 306, us 307, us 308, us 309, us 310, us 311, us 312, us 313, us 314, us 315, us 316, us 317, us 318, us 319, us 320, us 321, us 322, us 323, us 324, us 325, us 326, us 327, us 328, us 329, us 330, us 331, us 332, us 333, us 334, us 335, us 336, us 337, us 338, us 339, us 340, us 341, us 342, us 343, us 344, us 345, us 346, us 347, us 348, us 349, us 350, us 351, us 352, us 353, us 354, us 355, us 356, us 357, us 358, us 359, us 360, us 361, us 362, us 363, us 364, us 365, us 366, us 367, us 368, us 369, us 370, us 371, us 372, us 373, us 374, us 375, us 376, us 377, us 378, us 379, us 380, us 381, us 382, us 383, us 384, us 385, us 386, us 387, us 388, us 389, us 390, us 391, us 392, us 393, us 394, us 395, us 396, us 397, us 398, us 399, us 400, us 401, us 402, us 403, us 404, us 405, us 406, us 407, us 408, us 409, us 410, us 411, us 412, us 413, us 414, us 415, us 416, us 417, us 418, us 419, us 420, us 421, us 422, us 423, us 424, us 425, us 426, us 427, us 428, us 429, us 430, us 431, us 432, us 433, us 434, us 435, us 436, us 437, us 438, us 439, us 440, us 441, us 442, us 443, us 444, us 445], []⟩ ∧ j = (m : Int) ∧ m + g = s.fields.length ∧ Bxd W wr F A' cap s b1 b2 b4 k (bitsS (s.fields.take m) k s.g.report) 0 0
theorem LoopB.of {W : World} {A : Option Addr} {n c : Nat} {R M S X F cap : Nat} {A' : Option Addr} {vs vu : Value} {s : RS} {i : Int} {x : It} {b1 b2 b4 : Bool} {k : Int} {g : Nat} {a : Act} {wr : World} {m : Nat} {j p : Int} (hf : ∃ us : Nat → Value, a = ⟨#[.slice A n c, us 1, .pointer (some ⟨R, 0, none⟩), us 3, .pointer (some ⟨M, 0, none⟩), .pointer (some ⟨S, 0, none⟩), vs, vu, .int .i64 (keptI s), .int .i64 s.opn, .int .i64 i, .pointer (some ⟨X, 0, none⟩), .int .i64 x.data, us 13, us 14, us 15, us 16, .pointer (some ⟨F, 0, none⟩), .int .i64 j, us 19, us 20, us 21, us 22, us 23, us 24, us 25, us 26, us 27, us 28, us 29, us 30, us 31, us 32, us 33, us 34, us 35, us 36, us 37, us 38, us 39, us 40, us 41, us 42, us 43, us 44, us 45, us 46, us 47, us 48, us 49, us 50, us 51, us 52, us 53, us 54, us 55, us 56, us 57, us 58, us 59, us 60, us 61, us 62, us 63, us 64, us 65, us 66, us 67, us 68, us 69, us 70, us 71, us 72, us 73, us 74, us 75, us 76, us 77, us 78, us 79, us 80, us 81, us 82, us 83, us 84, us 85, us 86, us 87, us 88, us 89, us 90, us 91, us 92, us 93, us 94, us 95, us 96, us 97, us 98, us 99, us 100, us 101, us 102, us 103, us 104, us 105, us 106, us 107, us 108, us 109, us 110, us 111, us 112, us 113, us 114, us 115, us 116, us 117, us 118, us 119, us 120, us 121, us 122, us 123, us 124, us 125, us 126, us 127, us 128, us 129, us 130, us 131, us 132, us 133, us 134, us 135, us 136, us 137, us 138, us 139, us 140, us 141, us 142, us 143, us 144, us 145, us 146, us 147, us 148, us 149, us 150, us 151, us 152, us 153, us 154, us 155, us 156, us 157, us 158, us 159, us 160, us 161, us 162, us 163, us 164, us 165, us 166, us 167, us 168, us 169, us 170, us 171, us 172, us 173, us 174, us 175, us 176, us 177, us 178, us 179, us 180, us 181, us 182, us 183, us 184, us 185, us 186, us 187, us 188, us 189, us 190, us 191, us 192, us 193, us 194, us 195, us 196, us 197, us 198, us 199, us 200, us 201, us 202, us 203, us 204, us 205, us 206, us 207, us 208, us 209, us 210, us 211, us 212, us 213, us 214, us 215, us 216, us 217, us 218, us 219, us 220, us 221, us 222, us 223, us 224, us 225, us 226, us 227, us 228, us 229, us 230, us 231, us 232, us 233, us 234, us 235, us 236, us 237, us 238, us 239, us 240, us 241, us 242, us 243, us 244, us 245, us 246, us 247, us 248, us 249, us 250, us 251, us 252, us 253, us 254, us 255, us 256, us 257, us 258, us 259, us 260, us 261, us 262, us 263, us 264, us 265, us 266, us 267, us 268, us 269, us 270, us 271, us 272, us 273, us 274, us 275, us 276, us 277, us 278, us 279, us 280, us 281, us 282, us 283, us 284, us 285, us 286, us 287, us 288, us 289, us 290, us 291, us 292, us 293, us 294, us 295, us 296, us 297, us 298, us 299, us 300, us 301, us 302, us 303, us 304, us 305, us 306, us 307, us 308, us 309, us 310, us 311, us 312, us 313, us 314, us 315, us 316, us 317, us 318, us 319, us 320, us 321, us 322, us 323, us 324, us 325, us 326, us 327, us 328, us 329, us 330, us 331, us 332, us 333, us 334, us 335, us 336, us 337, us 338, us 339, us 340, us 341, us 342, us 343, us 344, us 345, us 346, us 347, us 348, us 349, us 350, us 351, us 352, us 353, us 354, us 355, us 356, us 357, us 358, us 359, us 360, us 361, us 362, us 363, us 364, us 365, us 366, us 367, us 368, us 369, us 370, us 371, us 372, us 373, us 374, us 375, us 376, us 377, us 378, us 379, us 380, us 381, us 382, us 383, us 384, us 385, us 386, us 387, us 388, us 389, us 390, us 391, us 392, us 393, us 394, us 395, us 396, us 397, us 398, us 399, us 400, us 401, us 402, us 403, us 404, us 405, us 406, us 407, us 408, us 409, us 410, us 411, us 412, us 413, us 414, us 415, us 416, us 417, us 418, us 419, us 420, us 421, us 422, us 423, us 424, us 425, us 426, us 427, us 428, us 429, us 430, us 431, us 432, us 433, us 434, us 435, us 436, us 437, us 438, us 439, us 440, us 441, us 442, us 443, us 444, us 445], []⟩) (hj : j = (m : Int)) (hm : m + g = s.fields.length) (hB : Bxd W wr F A' cap s b1 b2 b4 k p 0 0) (hp : bitsS (s.fields.take m) k s.g.report = p) : LoopB W A n c R M S X F cap A' vs vu s i x b1 b2 b4 k g a wr := by
  subst hp
  exact hf.elim fun us e => ⟨us, m, j, e, hj, hm, hB⟩
set_option maxRecDepth 100000 in
theorem frame_h {a : Act} {v0 v2 v4 v5 v6 v7 v8 v9 v10 v11 v12 v17 v18 : Value} (hs : a.tmps.size = 446) (hm : a.defers = []) (h0 : a.tmps[0]? = some v0) (h2 : a.tmps[2]? = some v2) (h4 : a.tmps[4]? = some v4) (h5 : a.tmps[5]? = some v5) (h6 : a.tmps[6]? = some v6) (h7 : a.tmps[7]? = some v7) (h8 : a.tmps[8]? = some v8) (h9 : a.tmps[9]? = some v9) (h10 : a.tmps[10]? = some v10) (h11 : a.tmps[11]? = some v11) (h12 : a.tmps[12]? = some v12) (h17 : a.tmps[17]? = some v17) (h18 : a.tmps[18]? = some v18) : ∃ us : Nat → Value, a = ⟨#[v0, us 1, v2, us 3, v4, v5, v6, v7, v8, v9, v10, v11, v12, us 13, us 14, us 15, us 16, v17, v18, us 19, us 20, us 21, us 22, us 23, us 24, us 25, us 26, us 27, us 28, us 29, us 30, us 31, us 32, us 33, us 34, us 35, us 36, us 37, us 38, us 39, us 40, us 41, us 42, us 43, us 44, us 45, us 46, us 47, us 48, us 49, us 50, us 51, us 52, us 53, us 54, us 55, us 56, us 57, us 58, us 59, us 60, us 61, us 62, us 63, us 64, us 65, us 66, us 67, us 68, us 69, us 70, us 71, us 72, us 73, us 74, us 75, us 76, us 77, us 78, us 79, us 80, us 81, us 82, us 83, us 84, us 85, us 86, us 87, us 88, us 89, us 90, us 91, us 92, us 93, us 94, us 95, us 96, us 97, us 98, us 99, us 100, us 101, us 102, us 103, us 104, us 105, us 106, us 107, us 108, us 109, us 110, us 111, us 112, us 113, us 114, us 115, us 116, us 117, us 118, us 119, us 120, us 121, us 122, us 123, us 124, us 125, us 126, us 127, us 128, us 129, us 130, us 131, us 132, us 133, us 134, us 135, us 136, us 137, us 138, us 139, us 140, us 141, us 142, us 143, us 144, us 145, us 146, us 147, us 148, us 149, us 150, us 151, us 152, us 153, us 154, us 155, us 156, us 157, us 158, us 159, us 160, us 161, us 162, us 163, us 164, us 165, us 166, us 167, us 168, us 169, us 170, us 171, us 172, us 173, us 174, us 175, us 176, us 177, us 178, us 179, us 180, us 181, us 182, us 183, us 184, us 185, us 186, us 187, us 188, us 189, us 190, us 191, us 192, us 193, us 194, us 195, us 196, us 197, us 198, us 199, us 200, us 201, us 202, us 203, us 204, us 205, us 206, us 207, us 208, us 209, us 210, us 211, us 212, us 213, us 214, us 215, us 216, us 217, us 218, us 219, us 220, us 221, us 222, us 223, us 224, us 225, us 226, us 227, us 228, us 229, us 230, us 231, us 232, us 233, us 234, us 235, us 236, us 237, us 238, us 239, us 240, us 241, us 242, us 243, us 244, us 245, us 246, us 247, us 248, us 249, us 250, us 251, us 252, us 253, us 254, us 255, us 256, us 257, us 258, us 259, us 260, us 261, us 262, us 263, us 264, us 265, us 266, us 267, us 268, us 269, us 270, us 271, us 272, us 273, us 274, us 275, us 276, us 277, us 278, us 279, us 280, us 281, us 282, us 283, us 284, us 285, us 286, us 287, us 288, us 289, us 290, us 291, us 292, us 293, us 294, us 295, us 296, us 297, us 298, us 299, us 300, us 301, us 302, us 303, us 304, us 305, us 306, us 307, us 308, us 309, us 310, us 311, us 312, us 313, us 314, us 315, us 316, us 317, us 318, us 319, us 320, us 321, us 322, us 323, us 324, us 325, us 326, us 327, us 328, us 329, us 330, us 331, us 332, us 333, us 334, us 335, us 336, us 337, us 338, us 339, us 340, us 341, us 342, us 343, us 344, us 345, us 346, us 347, us 348, us 349, us 350, us 351, us 352, us 353, us 354, us 355, us 356, us 357, us 358, us 359, us 360, us 361, us 362, us 363, us 364, us 365, us 366, us 367, us 368, us 369, us 370, us 371, us 372, us 373, us 374, us 375, us 376, us 377, us 378, us 379, us 380, us 381, us 382, us 383, us 384, us 385, us 386, us 387, us 388, us 389, us 390, us 391, us 392, us 393, us 394, us 395, us 396, us 397, us 398, us 399, us 400, us 401, us 402, us 403, us 404, us 405, us 406, us 407, us 408, us 409, us 410, us 411, us 412, us 413, us 414, us 415, us 416, us 417, us 418, us 419, us 420, us 421, us 422, us 423, us 424, us 425, us 426, us 427, us 428, us 429, us 430, us 431, us 432, us 433, us 434, us 435, us 436, us 437, us 438, us 439, us 440, us 441, us 442, us 443, us 444, us 445], []⟩ := by
  obtain ⟨⟨l⟩, m⟩ := a
  have hm' : m = [] := hm
  subst hm'
  obtain ⟨f, hf, hl⟩ := list_fn l 446 hs
  have e0 := hf 0 (by omega)
  have k0 : l[0]? = some v0 := by rw [← h0]; exact List.getElem?_toArray.symm
  rw [k0] at e0
  injection e0 with e0
  have e2 := hf 2 (by omega)
  have k2 : l[2]? = some v2 := by rw [← h2]; exact List.getElem?_toArray.symm
  rw [k2] at e2
  injection e2 with e2
  have e4 := hf 4 (by omega)
  have k4 : l[4]? = some v4 := by rw [← h4]; exact List.getElem?_toArray.symm
  rw [k4] at e4
  injection e4 with e4
  have e5 := hf 5 (by omega)
  have k5 : l[5]? = some v5 := by rw [← h5]; exact List.getElem?_toArray.symm
  rw [k5] at e5
  injection e5 with e5
  have e6 := hf 6 (by omega)
  have k6 : l[6]? = some v6 := by rw [← h6]; exact List.getElem?_toArray.symm
  rw [k6] at e6
  injection e6 with e6
  have e7 := hf 7 (by omega)
  have k7 : l[7]? = some v7 := by rw [← h7]; exact List.getElem?_toArray.symm
  rw [k7] at e7
  injection e7 with e7
  have e8 := hf 8 (by omega)
  have k8 : l[8]? = some v8 := by rw [← h8]; exact List.getElem?_toArray.symm
  rw [k8] at e8
  injection e8 with e8
  have e9 := hf 9 (by omega)
  have k9 : l[9]? = some v9 := by rw [← h9]; exact List.getElem?_toArray.symm
  rw [k9] at e9
  injection e9 with e9
  have e10 := hf 10 (by omega)
  have k10 : l[10]? = some v10 := by rw [← h10]; exact List.getElem?_toArray.symm
  rw [k10] at e10
  injection e10 with e10
  have e11 := hf 11 (by omega)
  have k11 : l[11]? = some v11 := by rw [← h11]; exact List.getElem?_toArray.symm
  rw [k11] at e11
  injection e11 with e11
  have e12 := hf 12 (by omega)
  have k12 : l[12]? = some v12 := by rw [← h12]; exact List.getElem?_toArray.symm
  rw [k12] at e12
  injection e12 with e12
  have e17 := hf 17 (by omega)
  have k17 : l[17]? = some v17 := by rw [← h17]; exact List.getElem?_toArray.symm
  rw [k17] at e17
  injection e17 with e17
  have e18 := hf 18 (by omega)
  have k18 : l[18]? = some v18 := by rw [← h18]; exact List.getElem?_toArray.symm
  rw [k18] at e18
  injection e18 with e18

  clear h0 k0
  subst e0
  clear h2 k2
  subst e2
  clear h4 k4
  subst e4
  clear h5 k5
  subst e5
  clear h6 k6
  subst e6
  clear h7 k7
  subst e7
  clear h8 k8
  subst e8
  clear h9 k9
  subst e9
  clear h10 k10
  subst e10
  clear h11 k11
  subst e11
  clear h12 k12
  subst e12
  clear h17 k17
  subst e17
  clear h18 k18
  subst e18

  exact ⟨f, by rw [hl]; rfl⟩
noncomputable def ops96 : Array Oper := opsOf (headC ((Try.f13.body.bind (findR 96)).getD .skip))
set_option maxRecDepth 1000000 in
set_option maxHeartbeats 8000000 in
theorem fld_92 {Q : Exit → Act → World → Prop} {W W1 : World} {base n c R M S X F cap : Nat} {A A' : Option Addr} {vs vu vf vc : Value} {s : RS} {i : Int} {x : It} {a : Act} {b1 b2 b4 : Bool} (k : Int) (ha : LiveF a A n c R M S X F vs vu s i x) (h : Sit W base R M S X vs vu vf vc s x) (hB : Bxd W W1 F A' cap s b1 b2 b4 k 0 0 0) (hs : s.Fine) (hw : x.wide = true) (hok : x.ok)
    (hfl : Flags x b1 b2 b4) (heff : effS s x = fieldS s k x) (ho : ¬ s.opn < 0)
    (hN : OkN Q W base A n c R M S X s i x) (hE : OkE Q W R s x) (hP : ∀ c a d v w, Q (.panic c) (a.put d v) w → Q (.panic c) a w) (K K2 : Act → World → Prop) (hK : ∀ a w', Code.wp Try.prog (restC (headC code92)) (Exit.then K2 Q) a w' → K a w') (hK2 : ∀ a w', Code.wp Try.prog (restC code92) Q a w' → K2 a w') : Code.wp Try.prog (headC (headC code92)) (Exit.then K (Exit.then K2 Q)) a W1 := by
  obtain ⟨us, rfl⟩ := ha
  conv => arg 2; whnf
  conv at hK => enter [a, w', 1, 2]; whnf
  conv at hK2 => enter [a, w', 1, 2]; whnf
  dsimp only
  have h' := h.kept hB.kept
  have hMl := heap_lt h'.md.bm
  have hSl := heap_lt h'.md.bs
  have hXl := heap_lt h'.bx
  have hRl := heap_lt h'.br
  have hFl := heap_lt hB.box
  have hMS := h.md.low.2.2
  obtain ⟨l1, l2, l3⟩ := h.low
  have hBn : R < W.heap.size := by have := h.hb; omega
  obtain ⟨A5, c5, rfl, hD1, hD2⟩ := h.md.fs.isSlice
  have hfl2 := hs.fields.1
  have Ho := hide ho
  clear ho
  go_wp2_with fail
  refine wp_loop_ghost_k (LoopB W A n c R M S X F cap A' vs vu s i x b1 b2 b4 k) s.fields.length ?_ ?_
  · exact LoopB.of (frame_h rfl rfl rfl rfl rfl rfl rfl rfl rfl rfl rfl rfl rfl rfl rfl) (m := 0) rfl (by omega) hB rfl
  clear hB h' hMl hSl hXl hRl hFl
  intro gk a wr hI J K3 hJ hK3
  obtain ⟨us, m, j, rfl, rfl, hm, hB⟩ := hI
  have h' := h.kept hB.kept
  have hMl := heap_lt h'.md.bm
  have hFl := heap_lt hB.box
  have m0 : wr.cell? ⟨M, 0, none⟩ = some (.slice A5 s.fields.length c5) := cell_heap h'.md.bm (o := 0) rfl
  have y0 : wr.cell? ⟨F, 0, none⟩ = some (.int .u8 k) := cell_heap hB.box (o := 0) rfl
  have y1 : wr.cell? ⟨F, 1, none⟩ = some (.int .u8 s.g.report) := cell_heap hB.box (o := 1) rfl
  have fr8 := frozen_heap hB.box (o := 8)
  have hMF : ¬ M = F := by have := hB.new; have := h.md.low.1; have := h.hb; omega
  by_cases hlt : m < s.fields.length
  · obtain ⟨f, b, off, cs, hf, rfl, hbb, ⟨A9, c9, rfl, hul, hcl, _⟩, hcs⟩ := h'.md.fs.sl.at hlt
    have hcs' : ∀ (o : Nat) v, (f.cellsC A9 c9)[o]? = some v → wr.cell? ⟨b, off + m * 13 + o, none⟩ = some v := fun o v h => hcs o v h
    have x0 : wr.cell? ⟨b, off + m * 13, none⟩ = _ := hcs' 0 _ rfl
    have x1 := hcs' 1 _ rfl
    have x6 := hcs' 6 _ rfl
    have x7 := hcs' 7 _ rfl
    have hbl : b < wr.heap.size := hbb
    have hsn : s.fields.take (m + 1) = s.fields.take m ++ [f] := by
      obtain ⟨h1, h2⟩ := List.getElem?_eq_some_iff.1 hf
      rw [List.take_succ_eq_append_getElem h1, h2]
    have hfs := fun f hf => hs.fields.2 f hf
    have hbd := bits_le (s.fields.take m) k s.g.report (fun f hf => by have := hfs f (List.mem_of_mem_take hf); omega)
    have hlm : ((s.fields.take m).length : Int) ≤ 256 := by have := List.length_take_le m s.fields; omega
    obtain ⟨a1, a2, a3, a4, _⟩ := hs.fields.2 f (List.mem_of_getElem? hf)
    obtain ⟨B, hBB⟩ : ∃ B, bitsS (s.fields.take m) k s.g.report = B := ⟨_, rfl⟩
    rw [hBB] at hB hbd
    have y8 : wr.cell? ⟨F, 8, none⟩ = some (.int .i64 B) := cell_heap hB.box (o := 8) rfl
    have hp1 : f.size * f.count ≤ 32 * f.count := Int.mul_le_mul_of_nonneg_right (by omega) (by omega)
    have hp2 : 1 * f.count ≤ f.size * f.count := Int.mul_le_mul_of_nonneg_right (by omega) (by omega)
    have hb1 : 0 ≤ B := hbd.1
    have hb2 : B ≤ 2097152 := by have := hbd.2; omega
    have hw1 : IntKind.i64.wrap (f.size * f.count) = f.size * f.count := by rw [IntKind.wrap_i64]; omega
    have hw2 : IntKind.i64.wrap (B + f.size * f.count) = B + f.size * f.count := by rw [IntKind.wrap_i64]; omega
    have hwm : IntKind.i64.wrap ((m : Int) + 1) = (m : Int) + 1 := by rw [IntKind.wrap_i64]; omega
    have hi0 : (0 : Int) ≤ (m : Int) := by omega
    have hlt' : (m : Int) < (s.fields.length : Int) := by omega
    have hltd : decide ((m : Int) < (s.fields.length : Int)) = true := decide_eq_true hlt'
    have Hb2 := hide hB
    have Hbw := hide (h.md.fs.lt (g := b) rfl).2
    clear hcs hcs' hf hbd hfs hB
    by_cases c1 : f.kind = k
    · by_cases c2 : f.report = s.g.report
      · have d1 : (f.kind == k) = true := by rw [beq_iff_eq]; exact c1
        have d2 : (f.report == s.g.report) = true := by rw [beq_iff_eq]; exact c2
        have hbs : bitsS (s.fields.take (m + 1)) k s.g.report = B + f.size * f.count := by
          rw [hsn, bitsS_snoc, hBB, d1, d2]; simp
        have Hbs := hide hbs
        clear hbs hsn
        go_upto_region 95 with (fail)
        go_quiet (fail)
        go_upto_region 96 with (fail)
        refine wp_at (fun W6 => Kept wr W6) (by repeat' first | exact Below.refl _ _ | refine below_drewN ?_ _) (fun W6 hk6 => ?_)
        obtain ⟨hc6, hf6⟩ := bcell hk6
        have hz6 := hk6.size
        have hbF : ¬ b = F := by have := Hbw.out; have := Hb2.out.new; omega
        have hMl6 : M < W6.heap.size := by omega
        have hFl6 : F < W6.heap.size := by omega
        refine wp_region_held_named (ops' := ops96) (n := 18) (S := fun w' => (∀ b o, b < wr.heap.size → ¬ b = F → w'.cell? ⟨b, o, none⟩ = wr.cell? ⟨b, o, none⟩) ∧ True) (by kernel_rfl) (by kernel_rfl) (by kernel_rfl) ⟨fun b o hb _ => hc6 b o hb, trivial⟩ (fun hS => ?_)
        have ho : ops96[0]? = some (opAt ops96 0) := by kernel_rfl
        conv at ho => rhs; arg 1; whnf
        refine wpAnyH_take (i := 0) (v := ?_) ho (by kernel_rfl) (by kernel_rfl) (by kernel_rfl) (fun c a w h => hP c a _ _ w h) (Or.inl ⟨by kernel_rfl, ?_⟩) hS ?_
        clear ho
        rotate_left
        · intro w' hS'
          have hq := hS'.1
          have hq2 := hS'.2
          clear hS'
          first | (go_simp; done) | (go_simp; with_reducible rfl)
        try clear ho
        try simp only [Act.put, List.getElem_toArray, List.getElem_cons_zero, List.getElem_cons_succ, List.setIfInBounds_toArray, List.set_cons_zero, List.set_cons_succ]
        have ho : ops96[2]? = some (opAt ops96 2) := by kernel_rfl
        conv at ho => rhs; arg 1; whnf
        refine wpAnyH_take (i := 2) (v := ?_) ho (by kernel_rfl) (by kernel_rfl) (by kernel_rfl) (fun c a w h => hP c a _ _ w h) (Or.inl ⟨by kernel_rfl, ?_⟩) hS ?_
        clear ho
        rotate_left
        · intro w' hS'
          have hq := hS'.1
          have hq2 := hS'.2
          clear hS'
          first | (go_simp; done) | (go_simp; with_reducible rfl)
        try clear ho
        try simp only [Act.put, List.getElem_toArray, List.getElem_cons_zero, List.getElem_cons_succ, List.setIfInBounds_toArray, List.set_cons_zero, List.set_cons_succ]
        have ho : ops96[3]? = some (opAt ops96 3) := by kernel_rfl
        conv at ho => rhs; arg 1; whnf
        refine wpAnyH_take (i := 3) (v := ?_) ho (by kernel_rfl) (by kernel_rfl) (by kernel_rfl) (fun c a w h => hP c a _ _ w h) (Or.inl ⟨by kernel_rfl, ?_⟩) hS ?_
        clear ho
        rotate_left
        · intro w' hS'
          have hq := hS'.1
          have hq2 := hS'.2
          clear hS'
          first | (go_simp; done) | (go_simp; with_reducible rfl)
        try clear ho
        try simp only [Act.put, List.getElem_toArray, List.getElem_cons_zero, List.getElem_cons_succ, List.setIfInBounds_toArray, List.set_cons_zero, List.set_cons_succ]
        have ho : ops96[4]? = some (opAt ops96 4) := by kernel_rfl
        conv at ho => rhs; arg 1; whnf
        refine wpAnyH_take (i := 4) (v := ?_) ho (by kernel_rfl) (by kernel_rfl) (by kernel_rfl) (fun c a w h => hP c a _ _ w h) (Or.inl ⟨by kernel_rfl, ?_⟩) hS ?_
        clear ho
        rotate_left
        · intro w' hS'
          have hq := hS'.1
          have hq2 := hS'.2
          clear hS'
          first | (go_simp; done) | (go_simp; with_reducible rfl)
        try clear ho
        try simp only [Act.put, List.getElem_toArray, List.getElem_cons_zero, List.getElem_cons_succ, List.setIfInBounds_toArray, List.set_cons_zero, List.set_cons_succ]
        have ho : ops96[5]? = some (opAt ops96 5) := by kernel_rfl
        conv at ho => rhs; arg 1; whnf
        refine wpAnyH_take (i := 5) (v := ?_) ho (by kernel_rfl) (by kernel_rfl) (by kernel_rfl) (fun c a w h => hP c a _ _ w h) (Or.inl ⟨by kernel_rfl, ?_⟩) hS ?_
        clear ho
        rotate_left
        · intro w' hS'
          have hq := hS'.1
          have hq2 := hS'.2
          clear hS'
          first | (go_simp; done) | (go_simp; with_reducible rfl)
        try clear ho
        try simp only [Act.put, List.getElem_toArray, List.getElem_cons_zero, List.getElem_cons_succ, List.setIfInBounds_toArray, List.set_cons_zero, List.set_cons_succ]
        have ho : ops96[6]? = some (opAt ops96 6) := by kernel_rfl
        conv at ho => rhs; arg 1; whnf
        refine wpAnyH_take (i := 6) (v := ?_) ho (by kernel_rfl) (by kernel_rfl) (by kernel_rfl) (fun c a w h => hP c a _ _ w h) (Or.inl ⟨by kernel_rfl, ?_⟩) hS ?_
        clear ho
        rotate_left
        · intro w' hS'
          have hq := hS'.1
          have hq2 := hS'.2
          clear hS'
          first | (go_simp; done) | (go_simp; with_reducible rfl)
        try clear ho
        try simp only [Act.put, List.getElem_toArray, List.getElem_cons_zero, List.getElem_cons_succ, List.setIfInBounds_toArray, List.set_cons_zero, List.set_cons_succ]
        have ho : ops96[7]? = some (opAt ops96 7) := by kernel_rfl
        conv at ho => rhs; arg 1; whnf
        refine wpAnyH_take (i := 7) (v := ?_) ho (by kernel_rfl) (by kernel_rfl) (by kernel_rfl) (fun c a w h => hP c a _ _ w h) (Or.inl ⟨by kernel_rfl, ?_⟩) hS ?_
        clear ho
        rotate_left
        · intro w' hS'
          have hq := hS'.1
          have hq2 := hS'.2
          clear hS'
          first | (go_simp; done) | (go_simp; with_reducible rfl)
        try clear ho
        try simp only [Act.put, List.getElem_toArray, List.getElem_cons_zero, List.getElem_cons_succ, List.setIfInBounds_toArray, List.set_cons_zero, List.set_cons_succ]
        have ho : ops96[8]? = some (opAt ops96 8) := by kernel_rfl
        conv at ho => rhs; arg 1; whnf
        refine wpAnyH_take (i := 8) (v := ?_) ho (by kernel_rfl) (by kernel_rfl) (by kernel_rfl) (fun c a w h => hP c a _ _ w h) (Or.inl ⟨by kernel_rfl, ?_⟩) hS ?_
        clear ho
        rotate_left
        · intro w' hS'
          have hq := hS'.1
          have hq2 := hS'.2
          clear hS'
          first | (go_simp; done) | (go_simp; with_reducible rfl)
        try clear ho
        try simp only [Act.put, List.getElem_toArray, List.getElem_cons_zero, List.getElem_cons_succ, List.setIfInBounds_toArray, List.set_cons_zero, List.set_cons_succ]
        have ho : ops96[9]? = some (opAt ops96 9) := by kernel_rfl
        conv at ho => rhs; arg 1; whnf
        refine wpAnyH_take (i := 9) (v := ?_) ho (by kernel_rfl) (by kernel_rfl) (by kernel_rfl) (fun c a w h => hP c a _ _ w h) (Or.inl ⟨by kernel_rfl, ?_⟩) hS ?_
        clear ho
        rotate_left
        · intro w' hS'
          have hq := hS'.1
          have hq2 := hS'.2
          clear hS'
          first | (go_simp; done) | (go_simp; with_reducible rfl)
        try clear ho
        try simp only [Act.put, List.getElem_toArray, List.getElem_cons_zero, List.getElem_cons_succ, List.setIfInBounds_toArray, List.set_cons_zero, List.set_cons_succ]
        have ho : ops96[10]? = some (opAt ops96 10) := by kernel_rfl
        conv at ho => rhs; arg 1; whnf
        refine wpAnyH_take (i := 10) (v := ?_) ho (by kernel_rfl) (by kernel_rfl) (by kernel_rfl) (fun c a w h => hP c a _ _ w h) (Or.inl ⟨by kernel_rfl, ?_⟩) hS ?_
        clear ho
        rotate_left
        · intro w' hS'
          have hq := hS'.1
          have hq2 := hS'.2
          clear hS'
          first | (go_simp; done) | (go_simp; with_reducible rfl)
        try clear ho
        try simp only [Act.put, List.getElem_toArray, List.getElem_cons_zero, List.getElem_cons_succ, List.setIfInBounds_toArray, List.set_cons_zero, List.set_cons_succ]
        have ho : ops96[11]? = some (opAt ops96 11) := by kernel_rfl
        conv at ho => rhs; arg 1; whnf
        refine wpAnyH_take (i := 11) (v := ?_) ho (by kernel_rfl) (by kernel_rfl) (by kernel_rfl) (fun c a w h => hP c a _ _ w h) (Or.inl ⟨by kernel_rfl, ?_⟩) hS ?_
        clear ho
        rotate_left
        · intro w' hS'
          have hq := hS'.1
          have hq2 := hS'.2
          clear hS'
          first | (go_simp; done) | (go_simp; with_reducible rfl)
        try clear ho
        try simp only [Act.put, List.getElem_toArray, List.getElem_cons_zero, List.getElem_cons_succ, List.setIfInBounds_toArray, List.set_cons_zero, List.set_cons_succ]
        have ho : ops96[12]? = some (opAt ops96 12) := by kernel_rfl
        conv at ho => rhs; arg 1; whnf
        refine wpAnyH_take (i := 12) (v := ?_) ho (by kernel_rfl) (by kernel_rfl) (by kernel_rfl) (fun c a w h => hP c a _ _ w h) (Or.inl ⟨by kernel_rfl, ?_⟩) hS ?_
        clear ho
        rotate_left
        · intro w' hS'
          have hq := hS'.1
          have hq2 := hS'.2
          clear hS'
          first | (go_simp; done) | (go_simp; with_reducible rfl)
        try clear ho
        try simp only [Act.put, List.getElem_toArray, List.getElem_cons_zero, List.getElem_cons_succ, List.setIfInBounds_toArray, List.set_cons_zero, List.set_cons_succ]
        have ho : ops96[13]? = some (opAt ops96 13) := by kernel_rfl
        conv at ho => rhs; arg 1; whnf
        refine wpAnyH_take (i := 13) (v := ?_) ho (by kernel_rfl) (by kernel_rfl) (by kernel_rfl) (fun c a w h => hP c a _ _ w h) (Or.inl ⟨by kernel_rfl, ?_⟩) hS ?_
        clear ho
        rotate_left
        · intro w' hS'
          have hq := hS'.1
          have hq2 := hS'.2
          clear hS'
          first | (go_simp; done) | (go_simp; with_reducible rfl)
        try clear ho
        try simp only [Act.put, List.getElem_toArray, List.getElem_cons_zero, List.getElem_cons_succ, List.setIfInBounds_toArray, List.set_cons_zero, List.set_cons_succ]
        have ho : ops96[14]? = some (opAt ops96 14) := by kernel_rfl
        conv at ho => rhs; arg 1; whnf
        refine wpAnyH_take (i := 14) (v := ?_) ho (by kernel_rfl) (by kernel_rfl) (by kernel_rfl) (fun c a w h => hP c a _ _ w h) (Or.inl ⟨by kernel_rfl, ?_⟩) hS ?_
        clear ho
        rotate_left
        · intro w' hS'
          have hq := hS'.1
          have hq2 := hS'.2
          clear hS'
          first | (go_simp; done) | (go_simp; with_reducible rfl)
        try clear ho
        try simp only [Act.put, List.getElem_toArray, List.getElem_cons_zero, List.getElem_cons_succ, List.setIfInBounds_toArray, List.set_cons_zero, List.set_cons_succ]
        have ho1 : ops96[1]? = some (opAt ops96 1) := by kernel_rfl
        conv at ho1 => rhs; arg 1; whnf
        refine wpAnyH_ready (rs := [1]) (by kernel_rfl) (by simp) ?_
        refine (AllReadyH.cons ho1 (fun K hK => ?_) AllReadyH.nil)
        all_goals clear ho1
        go_simp
        try dsimp only
        refine hK.out _ _ ?_ (fun hS => ?_)
        · exact hS
        clear hK K
        try simp only [Act.put, List.getElem_toArray, List.getElem_cons_zero, List.getElem_cons_succ, List.setIfInBounds_toArray, List.set_cons_zero, List.set_cons_succ]
        have ho : ops96[15]? = some (opAt ops96 15) := by kernel_rfl
        conv at ho => rhs; arg 1; whnf
        refine wpAnyH_take (i := 15) (v := ?_) ho (by kernel_rfl) (by kernel_rfl) (by kernel_rfl) (fun c a w h => hP c a _ _ w h) (Or.inl ⟨by kernel_rfl, ?_⟩) hS ?_
        clear ho
        rotate_left
        · intro w' hS'
          have hq := hS'.1
          have hq2 := hS'.2
          clear hS'
          first | (go_simp; done) | (go_simp; with_reducible rfl)
        try clear ho
        try simp only [Act.put, List.getElem_toArray, List.getElem_cons_zero, List.getElem_cons_succ, List.setIfInBounds_toArray, List.set_cons_zero, List.set_cons_succ]
        have ho : ops96[16]? = some (opAt ops96 16) := by kernel_rfl
        conv at ho => rhs; arg 1; whnf
        refine wpAnyH_take (i := 16) (v := ?_) ho (by kernel_rfl) (by kernel_rfl) (by kernel_rfl) (fun c a w h => hP c a _ _ w h) (Or.inl ⟨by kernel_rfl, ?_⟩) hS ?_
        clear ho
        rotate_left
        · intro w' hS'
          have hq := hS'.1
          have hq2 := hS'.2
          clear hS'
          first | (go_simp; done) | (go_simp; with_reducible rfl)
        try clear ho
        try simp only [Act.put, List.getElem_toArray, List.getElem_cons_zero, List.getElem_cons_succ, List.setIfInBounds_toArray, List.set_cons_zero, List.set_cons_succ]
        have ho17 : ops96[17]? = some (opAt ops96 17) := by kernel_rfl
        conv at ho17 => rhs; arg 1; whnf
        refine wpAnyH_ready (rs := [17]) (by kernel_rfl) (by simp) ?_
        refine (AllReadyH.cons ho17 (fun K hK => ?_) AllReadyH.nil)
        all_goals clear ho17
        go_simp
        try dsimp only
        refine hK.out _ _ ?_ (fun hS => ?_)
        · exact ⟨fun b o hb hne => (World.cell?_setCell_other _ _ _ _ (fun e => hne (congrArg Addr.block e).symm)).trans (hS.1 b o hb hne), trivial⟩
        clear hK K
        try simp only [Act.put, List.getElem_toArray, List.getElem_cons_zero, List.getElem_cons_succ, List.setIfInBounds_toArray, List.set_cons_zero, List.set_cons_succ]
        refine wpAnyH_done (by kernel_rfl) ?_ _
        go_wp2_with fail
        refine Handed.intro (gk - 1) (by omega) (hJ _ _ _ ?_)
        exact LoopB.of (frame_h rfl rfl rfl rfl rfl rfl rfl rfl rfl rfl rfl rfl rfl rfl rfl) (m := m + 1) (by omega) (by omega) ((Hb2.out.on (hk6.trans' ((Below.refl _ _).drew))).set 8 _ rfl) Hbs.out
      · have d1 : (f.kind == k) = true := by rw [beq_iff_eq]; exact c1
        have d2 : (f.report == s.g.report) = false := beq_false_of_ne c2
        have hbs : bitsS (s.fields.take (m + 1)) k s.g.report = B := by
          rw [hsn, bitsS_snoc, hBB, d1, d2]; simp
        have Hbs := hide hbs
        clear hbs hsn
        go_upto_region 95 with (fail)
        go_quiet (fail)
        go_wp2_with fail
        refine Handed.intro (gk - 1) (by omega) (hJ _ _ _ ?_)
        exact LoopB.of (frame_h rfl rfl rfl rfl rfl rfl rfl rfl rfl rfl rfl rfl rfl rfl rfl) (m := m + 1) (by omega) (by omega) (Hb2.out.on (by repeat' first | exact Below.refl _ _ | refine below_drewN ?_ _)) Hbs.out
    · have d1 : (f.kind == k) = false := beq_false_of_ne c1
      have hbs : bitsS (s.fields.take (m + 1)) k s.g.report = B := by
        rw [hsn, bitsS_snoc, hBB, d1]; simp
      have Hbs := hide hbs
      clear hbs hsn
      go_upto_region 95 with (fail)
      go_quiet (fail)
      go_wp2_with fail
      refine Handed.intro (gk - 1) (by omega) (hJ _ _ _ ?_)
      exact LoopB.of (frame_h rfl rfl rfl rfl rfl rfl rfl rfl rfl rfl rfl rfl rfl rfl rfl) (m := m + 1) (by omega) (by omega) (Hb2.out.on (by repeat' first | exact Below.refl _ _ | refine below_drewN ?_ _)) Hbs.out
  · have hltd : decide ((m : Int) < (s.fields.length : Int)) = false := decide_eq_false (by omega)
    have hmn : m = s.fields.length := by omega
    rw [hmn, List.take_length] at hB
    have Hb2 := hide hB
    clear hB
    go_upto_region 97 with (fail)
    refine fld_97 k (frame_f rfl rfl rfl rfl rfl rfl rfl rfl rfl rfl rfl rfl rfl rfl) h (Hb2.out.on (by repeat' first | exact Below.refl _ _ | refine below_drewN ?_ _)) hs hw hok hfl heff (by have := Ho.out; omega) hN hE hP _ _ ?_ ?_
    all_goals assumption
end Go.Proofs.Ytegdigfcgeoboaa
