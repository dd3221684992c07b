/- The law of the chapter on reports, part 35: Ie If. -/
import Derived.Test.YtegdigfcgeoboaaK34
set_option maxHeartbeats 16000000
set_option linter.unusedVariables false
set_option linter.unusedSimpArgs false
set_option linter.unusedSectionVars false
namespace Go.Proofs.Ytegdigfcgeoboaa
open Go.RowKit Go.Maps
attribute [local go_sem ↓] Go.wp_at_zero Go.wp_at_succ
def LoopB (W : World) (A : Option Addr) (n c : Nat) (R M S X F cap : Nat) (A' : Option Addr) (vs vu : Value) (s : RS) (i : Int) (x : It) (b1 b2 b4 : Bool) (k : Int) (g : Nat) (a : Act) (wr : World) : Prop :=
 ∃ (y : Nat → Value) (m : Nat) (j : Int), a = ⟨#[.slice A n c, y 1, .pointer (some ⟨R, 0, none⟩), y 3, .pointer (some ⟨M, 0, none⟩), .pointer (some ⟨S, 0, none⟩), vs, vu, .int .i64 (keptI s), .int .i64 s.opn, .int .i64 i, .pointer (some ⟨X, 0, none⟩), .int .i64 x.data, y 13, y 14, y 15, y 16, .pointer (some ⟨F, 0, none⟩), .int .i64 j, y 19, y 20, y 21, y 22, y 23, y 24, y 25, y 26, y 27, y 28, y 29, y 30, y 31, y 32, y 33, y 34, y 35, y 36, y 37, y 38, y 39, y 40, y 41, y 42, y 43, y 44, y 45, y 46, y 47, y 48, y 49, y 50, y 51, y 52, y 53, y 54, y 55, y 56, y 57, y 58, y 59, y 60, y 61, y 62, y 63, y 64, y 65, y 66, y 67, y 68, y 69, y 70, y 71, y 72, y 73, y 74, y 75, y 76, y 77, y 78, y 79, y 80, y 81, y 82, y 83, y 84, y 85, y 86, y 87, y 88, y 89, y 90, y 91, y 92, y 93, y 94, y 95, y 96, y 97, y 98, y 99, y 100, y 101, y 102, y 103, y 104, y 105, y 106, y 107, y 108, y 109, y 110, y 111, y 112, y 113, y 114, y 115, y 116, y 117, y 118, y 119, y 120, y 121, y 122, y 123, y 124, y 125, y 126, y 127, y 128, y 129, y 130, y 131, y 132, y 133, y 134, y 135, y 136, y 137, y 138, y 139, y 140, y 141, y 142, y 143, y 144, y 145, y 146, y 147, y 148, y 149, y 150, y 151, y 152, y 153, y 154, y 155, y 156, y 157, y 158, y 159, y 160, y 161, y 162, y 163, y 164, y 165, y 166, y 167, y 168, y 169, y 170, y 171, y 172, y 173, y 174, y 175, y 176, y 177, y 178, y 179, y 180, y 181, y 182, y 183, y 184, y 185, y 186, y 187, y 188, y 189, y 190, y 191, y 192, y 193, y 194, y 195, y 196, y 197, y 198, y 199, y 200, y 201, y 202, y 203, y 204, y 205, y 206, y 207, y 208, y 209, y 210, y 211, y 212, y 213, y 214, y 215, y 216, y 217, y 218, y 219, y 220, y 221, y 222, y 223, y 224, y 225, y 226, y 227, y 228, y 229, y 230, y 231, y 232, y 233, y 234, y 235, y 236, y 237, y 238, y 239, y 240, y 241, y 242, y 243, y 244, y 245, y 246, y 247, y 248, y 249, y 250, y 251, y 252, y 253, y 254, y 255, y 256, y 257, y 258, y 259, y 260, y 261, y 262, y 263, y 264, y 265, y 266, y 267, y 268, y 269, y 270, y 271, y 272, y 273, y 274, y 275, y 276, y 277, y 278, y 279, y 280, y 281, y 282, y 283, y 284, y 285, y 286, y 287, y 288, y 289, y 290, y 291, y 292, y 293, y 294, y 295, y 296, y 297, y 298, y 299, y 300, y 301, y 302, y 303, y 304, y 305, y 306, y 307, y 308, y 309, y 310, y 311, y 312, y 313, y 314, y 315, y 316, y 317, y 318, y 319, y 320, y 321, y 322, y 323, y 324, y 325, y 326, y 327, y 328, y 329, y 330, y 331, y 332, y 333, y 334, y 335, y 336, y 337, y 338, y 339, y 340, y 341, y 342, y 343, y 344, y 345, y 346, y 347, y 348, y 349, y 350, y 351, y 352, y 353, y 354, y 355, y 356, y 357, y 358, y 359, y 360, y 361, y 362, y 363, y 364, y 365, y 366, y 367, y 368, y 369, y 370, y 371, y 372, y 373, y 374, y 375, y 376, y 377, y 378, y 379, y 380, y 381, y 382, y 383, y 384, y 385, y 386, y 387, y 388, y 389, y 390, y 391, y 392, y 393, y 394, y 395, y 396, y 397, y 398, y 399, y 400, y 401, y 402, y 403, y 404, y 405, y 406, y 407, y 408, y 409, y 410, y 411, y 412, y 413, y 414, y 415, y 416, y 417, y 418, y 419, y 420, y 421, y 422, y 423, y 424, y 425, y 426, y 427, y 428, y 429, y 430, y 431, y 432, y 433, y 434, y 435, y 436, y 437, y 438, y 439, y 440, y 441, y 442, y 443, y 444, y 445], []⟩ ∧ j = (m : Int) ∧ m + g = s.fields.length ∧ Bxd W wr F A' cap s b1 b2 b4 k (bitsS (s.fields.take m) k s.g.report) 0 0
theorem LoopB.of {W : World} {A : Option Addr} {n c : Nat} {R M S X F cap : Nat} {A' : Option Addr} {vs vu : Value} {s : RS} {i : Int} {x : It} {b1 b2 b4 : Bool} {k : Int} {g : Nat} {a : Act} {wr : World} {m : Nat} {j p : Int} (hf : ∃ y : Nat → Value, a = ⟨#[.slice A n c, y 1, .pointer (some ⟨R, 0, none⟩), y 3, .pointer (some ⟨M, 0, none⟩), .pointer (some ⟨S, 0, none⟩), vs, vu, .int .i64 (keptI s), .int .i64 s.opn, .int .i64 i, .pointer (some ⟨X, 0, none⟩), .int .i64 x.data, y 13, y 14, y 15, y 16, .pointer (some ⟨F, 0, none⟩), .int .i64 j, y 19, y 20, y 21, y 22, y 23, y 24, y 25, y 26, y 27, y 28, y 29, y 30, y 31, y 32, y 33, y 34, y 35, y 36, y 37, y 38, y 39, y 40, y 41, y 42, y 43, y 44, y 45, y 46, y 47, y 48, y 49, y 50, y 51, y 52, y 53, y 54, y 55, y 56, y 57, y 58, y 59, y 60, y 61, y 62, y 63, y 64, y 65, y 66, y 67, y 68, y 69, y 70, y 71, y 72, y 73, y 74, y 75, y 76, y 77, y 78, y 79, y 80, y 81, y 82, y 83, y 84, y 85, y 86, y 87, y 88, y 89, y 90, y 91, y 92, y 93, y 94, y 95, y 96, y 97, y 98, y 99, y 100, y 101, y 102, y 103, y 104, y 105, y 106, y 107, y 108, y 109, y 110, y 111, y 112, y 113, y 114, y 115, y 116, y 117, y 118, y 119, y 120, y 121, y 122, y 123, y 124, y 125, y 126, y 127, y 128, y 129, y 130, y 131, y 132, y 133, y 134, y 135, y 136, y 137, y 138, y 139, y 140, y 141, y 142, y 143, y 144, y 145, y 146, y 147, y 148, y 149, y 150, y 151, y 152, y 153, y 154, y 155, y 156, y 157, y 158, y 159, y 160, y 161, y 162, y 163, y 164, y 165, y 166, y 167, y 168, y 169, y 170, y 171, y 172, y 173, y 174, y 175, y 176, y 177, y 178, y 179, y 180, y 181, y 182, y 183, y 184, y 185, y 186, y 187, y 188, y 189, y 190, y 191, y 192, y 193, y 194, y 195, y 196, y 197, y 198, y 199, y 200, y 201, y 202, y 203, y 204, y 205, y 206, y 207, y 208, y 209, y 210, y 211, y 212, y 213, y 214, y 215, y 216, y 217, y 218, y 219, y 220, y 221, y 222, y 223, y 224, y 225, y 226, y 227, y 228, y 229, y 230, y 231, y 232, y 233, y 234, y 235, y 236, y 237, y 238, y 239, y 240, y 241, y 242, y 243, y 244, y 245, y 246, y 247, y 248, y 249, y 250, y 251, y 252, y 253, y 254, y 255, y 256, y 257, y 258, y 259, y 260, y 261, y 262, y 263, y 264, y 265, y 266, y 267, y 268, y 269, y 270, y 271, y 272, y 273, y 274, y 275, y 276, y 277, y 278, y 279, y 280, y 281, y 282, y 283, y 284, y 285, y 286, y 287, y 288, y 289, y 290, y 291, y 292, y 293, y 294, y 295, y 296, y 297, y 298, y 299, y 300, y 301, y 302, y 303, y 304, y 305, y 306, y 307, y 308, y 309, y 310, y 311, y 312, y 313, y 314, y 315, y 316, y 317, y 318, y 319, y 320, y 321, y 322, y 323, y 324, y 325, y 326, y 327, y 328, y 329, y 330, y 331, y 332, y 333, y 334, y 335, y 336, y 337, y 338, y 339, y 340, y 341, y 342, y 343, y 344, y 345, y 346, y 347, y 348, y 349, y 350, y 351, y 352, y 353, y 354, y 355, y 356, y 357, y 358, y 359, y 360, y 361, y 362, y 363, y 364, y 365, y 366, y 367, y 368, y 369, y 370, y 371, y 372, y 373, y 374, y 375, y 376, y 377, y 378, y 379, y 380, y 381, y 382, y 383, y 384, y 385, y 386, y 387, y 388, y 389, y 390, y 391, y 392, y 393, y 394, y 395, y 396, y 397, y 398, y 399, y 400, y 401, y 402, y 403, y 404, y 405, y 406, y 407, y 408, y 409, y 410, y 411, y 412, y 413, y 414, y 415, y 416, y 417, y 418, y 419, y 420, y 421, y 422, y 423, y 424, y 425, y 426, y 427, y 428, y 429, y 430, y 431, y 432, y 433, y 434, y 435, y 436, y 437, y 438, y 439, y 440, y 441, y 442, y 443, y 444, y 445], []⟩) (hj : j = (m : Int)) (hm : m + g = s.fields.length) (hB : Bxd W wr F A' cap s b1 b2 b4 k p 0 0) (hp : bitsS (s.fields.take m) k s.g.report = p) : LoopB W A n c R M S X F cap A' vs vu s i x b1 b2 b4 k g a wr := by
 subst hp
 exact hf.elim fun y e => ⟨y, m, j, e, hj, hm, hB⟩
set_option maxRecDepth 100000 in
theorem frame_h {a : Act} {v0 v2 v4 v5 v6 v7 v8 v9 v10 v11 v12 v17 v18 : Value} (hs : a.tmps.size = 446) (hm : a.defers = []) (h0 : a.tmps[0]? = some v0) (h2 : a.tmps[2]? = some v2) (h4 : a.tmps[4]? = some v4) (h5 : a.tmps[5]? = some v5) (h6 : a.tmps[6]? = some v6) (h7 : a.tmps[7]? = some v7) (h8 : a.tmps[8]? = some v8) (h9 : a.tmps[9]? = some v9) (h10 : a.tmps[10]? = some v10) (h11 : a.tmps[11]? = some v11) (h12 : a.tmps[12]? = some v12) (h17 : a.tmps[17]? = some v17) (h18 : a.tmps[18]? = some v18) : ∃ y : Nat → Value, a = ⟨#[v0, y 1, v2, y 3, v4, v5, v6, v7, v8, v9, v10, v11, v12, y 13, y 14, y 15, y 16, v17, v18, y 19, y 20, y 21, y 22, y 23, y 24, y 25, y 26, y 27, y 28, y 29, y 30, y 31, y 32, y 33, y 34, y 35, y 36, y 37, y 38, y 39, y 40, y 41, y 42, y 43, y 44, y 45, y 46, y 47, y 48, y 49, y 50, y 51, y 52, y 53, y 54, y 55, y 56, y 57, y 58, y 59, y 60, y 61, y 62, y 63, y 64, y 65, y 66, y 67, y 68, y 69, y 70, y 71, y 72, y 73, y 74, y 75, y 76, y 77, y 78, y 79, y 80, y 81, y 82, y 83, y 84, y 85, y 86, y 87, y 88, y 89, y 90, y 91, y 92, y 93, y 94, y 95, y 96, y 97, y 98, y 99, y 100, y 101, y 102, y 103, y 104, y 105, y 106, y 107, y 108, y 109, y 110, y 111, y 112, y 113, y 114, y 115, y 116, y 117, y 118, y 119, y 120, y 121, y 122, y 123, y 124, y 125, y 126, y 127, y 128, y 129, y 130, y 131, y 132, y 133, y 134, y 135, y 136, y 137, y 138, y 139, y 140, y 141, y 142, y 143, y 144, y 145, y 146, y 147, y 148, y 149, y 150, y 151, y 152, y 153, y 154, y 155, y 156, y 157, y 158, y 159, y 160, y 161, y 162, y 163, y 164, y 165, y 166, y 167, y 168, y 169, y 170, y 171, y 172, y 173, y 174, y 175, y 176, y 177, y 178, y 179, y 180, y 181, y 182, y 183, y 184, y 185, y 186, y 187, y 188, y 189, y 190, y 191, y 192, y 193, y 194, y 195, y 196, y 197, y 198, y 199, y 200, y 201, y 202, y 203, y 204, y 205, y 206, y 207, y 208, y 209, y 210, y 211, y 212, y 213, y 214, y 215, y 216, y 217, y 218, y 219, y 220, y 221, y 222, y 223, y 224, y 225, y 226, y 227, y 228, y 229, y 230, y 231, y 232, y 233, y 234, y 235, y 236, y 237, y 238, y 239, y 240, y 241, y 242, y 243, y 244, y 245, y 246, y 247, y 248, y 249, y 250, y 251, y 252, y 253, y 254, y 255, y 256, y 257, y 258, y 259, y 260, y 261, y 262, y 263, y 264, y 265, y 266, y 267, y 268, y 269, y 270, y 271, y 272, y 273, y 274, y 275, y 276, y 277, y 278, y 279, y 280, y 281, y 282, y 283, y 284, y 285, y 286, y 287, y 288, y 289, y 290, y 291, y 292, y 293, y 294, y 295, y 296, y 297, y 298, y 299, y 300, y 301, y 302, y 303, y 304, y 305, y 306, y 307, y 308, y 309, y 310, y 311, y 312, y 313, y 314, y 315, y 316, y 317, y 318, y 319, y 320, y 321, y 322, y 323, y 324, y 325, y 326, y 327, y 328, y 329, y 330, y 331, y 332, y 333, y 334, y 335, y 336, y 337, y 338, y 339, y 340, y 341, y 342, y 343, y 344, y 345, y 346, y 347, y 348, y 349, y 350, y 351, y 352, y 353, y 354, y 355, y 356, y 357, y 358, y 359, y 360, y 361, y 362, y 363, y 364, y 365, y 366, y 367, y 368, y 369, y 370, y 371, y 372, y 373, y 374, y 375, y 376, y 377, y 378, y 379, y 380, y 381, y 382, y 383, y 384, y 385, y 386, y 387, y 388, y 389, y 390, y 391, y 392, y 393, y 394, y 395, y 396, y 397, y 398, y 399, y 400, y 401, y 402, y 403, y 404, y 405, y 406, y 407, y 408, y 409, y 410, y 411, y 412, y 413, y 414, y 415, y 416, y 417, y 418, y 419, y 420, y 421, y 422, y 423, y 424, y 425, y 426, y 427, y 428, y 429, y 430, y 431, y 432, y 433, y 434, y 435, y 436, y 437, y 438, y 439, y 440, y 441, y 442, y 443, y 444, y 445], []⟩ := by
 obtain ⟨⟨l⟩, m⟩ := a
 have hm' : m = [] := hm
 subst hm'
 obtain ⟨f, hf, hl⟩ := list_fn l 446 hs
 have e0 := hf 0 (by omega)
 have k0 : l[0]? = some v0 := by rw [← h0]; exact List.getElem?_toArray.symm
 rw [k0] at e0
 injection e0 with e0
 have e2 := hf 2 (by omega)
 have k2 : l[2]? = some v2 := by rw [← h2]; exact List.getElem?_toArray.symm
 rw [k2] at e2
 injection e2 with e2
 have e4 := hf 4 (by omega)
 have k4 : l[4]? = some v4 := by rw [← h4]; exact List.getElem?_toArray.symm
 rw [k4] at e4
 injection e4 with e4
 have e5 := hf 5 (by omega)
 have k5 : l[5]? = some v5 := by rw [← h5]; exact List.getElem?_toArray.symm
 rw [k5] at e5
 injection e5 with e5
 have e6 := hf 6 (by omega)
 have k6 : l[6]? = some v6 := by rw [← h6]; exact List.getElem?_toArray.symm
 rw [k6] at e6
 injection e6 with e6
 have e7 := hf 7 (by omega)
 have k7 : l[7]? = some v7 := by rw [← h7]; exact List.getElem?_toArray.symm
 rw [k7] at e7
 injection e7 with e7
 have e8 := hf 8 (by omega)
 have k8 : l[8]? = some v8 := by rw [← h8]; exact List.getElem?_toArray.symm
 rw [k8] at e8
 injection e8 with e8
 have e9 := hf 9 (by omega)
 have k9 : l[9]? = some v9 := by rw [← h9]; exact List.getElem?_toArray.symm
 rw [k9] at e9
 injection e9 with e9
 have e10 := hf 10 (by omega)
 have k10 : l[10]? = some v10 := by rw [← h10]; exact List.getElem?_toArray.symm
 rw [k10] at e10
 injection e10 with e10
 have e11 := hf 11 (by omega)
 have k11 : l[11]? = some v11 := by rw [← h11]; exact List.getElem?_toArray.symm
 rw [k11] at e11
 injection e11 with e11
 have e12 := hf 12 (by omega)
 have k12 : l[12]? = some v12 := by rw [← h12]; exact List.getElem?_toArray.symm
 rw [k12] at e12
 injection e12 with e12
 have e17 := hf 17 (by omega)
 have k17 : l[17]? = some v17 := by rw [← h17]; exact List.getElem?_toArray.symm
 rw [k17] at e17
 injection e17 with e17
 have e18 := hf 18 (by omega)
 have k18 : l[18]? = some v18 := by rw [← h18]; exact List.getElem?_toArray.symm
 rw [k18] at e18
 injection e18 with e18
 clear h0 k0
 subst e0
 clear h2 k2
 subst e2
 clear h4 k4
 subst e4
 clear h5 k5
 subst e5
 clear h6 k6
 subst e6
 clear h7 k7
 subst e7
 clear h8 k8
 subst e8
 clear h9 k9
 subst e9
 clear h10 k10
 subst e10
 clear h11 k11
 subst e11
 clear h12 k12
 subst e12
 clear h17 k17
 subst e17
 clear h18 k18
 subst e18
 exact ⟨f, by rw [hl]; rfl⟩
noncomputable def ops96 : Array Oper := opsOf (headC ((Try.f13.body.bind (findR 96)).getD .skip))
set_option maxRecDepth 1000000 in
theorem fld_92 {Q : Exit → Act → World → Prop} {W W1 : World} {base n c R M S X F cap : Nat} {A A' : Option Addr} {vs vu vf vc : Value} {s : RS} {i : Int} {x : It} {a : Act} {b1 b2 b4 : Bool} (k : Int) (ha : LiveF a A n c R M S X F vs vu s i x) (h : Sit W base R M S X vs vu vf vc s x) (hB : Bxd W W1 F A' cap s b1 b2 b4 k 0 0 0) (hs : s.Fine) (hw : x.wide = true) (hok : x.ok)
  (hfl : Flags x b1 b2 b4) (heff : effS s x = fieldS s k x) (ho : ¬ s.opn < 0)
  (hN : OkN Q W base A n c R M S X s i x) (hE : OkE Q W R s x) (hP : ∀ c a d v w, Q (.panic c) (a.put d v) w → Q (.panic c) a w) (K K2 : Act → World → Prop) (hK : ∀ a w', Code.wp Try.prog (restC (headC code92)) (Exit.then K2 Q) a w' → K a w') (hK2 : ∀ a w', Code.wp Try.prog (restC code92) Q a w' → K2 a w') : Code.wp Try.prog (headC (headC code92)) (Exit.then K (Exit.then K2 Q)) a W1 := by
 obtain ⟨y, rfl⟩ := ha
 conv => arg 2; whnf
 conv at hK => enter [a, w', 1, 2]; whnf
 conv at hK2 => enter [a, w', 1, 2]; whnf
 dsimp only
 have h' := h.kept hB.kept
 have hMl := heap_lt h'.md.bm
 have hSl := heap_lt h'.md.bs
 have hXl := heap_lt h'.bx
 have hRl := heap_lt h'.br
 have hFl := heap_lt hB.box
 have hMS := h.md.low.2.2
 obtain ⟨l1, l2, l3⟩ := h.low
 have hBn : R < W.heap.size := by have := h.hb; omega
 obtain ⟨A5, c5, rfl, hD1, hD2⟩ := h.md.fs.isSlice
 have hfl2 := hs.fields.1
 have Ho := hide ho
 clear ho
 go_wp2_with fail
 refine wp_loop_ghost_k (LoopB W A n c R M S X F cap A' vs vu s i x b1 b2 b4 k) s.fields.length ?_ ?_
 ·exact LoopB.of (frame_h rfl rfl rfl rfl rfl rfl rfl rfl rfl rfl rfl rfl rfl rfl rfl) (m := 0) rfl (by omega) hB rfl
 clear hB h' hMl hSl hXl hRl hFl
 intro gk a wr hI J K3 hJ hK3
 obtain ⟨y, m, j, rfl, rfl, hm, hB⟩ := hI
 have h' := h.kept hB.kept
 have hMl := heap_lt h'.md.bm
 have hFl := heap_lt hB.box
 have m0 : wr.cell? ⟨M, 0, none⟩ = some (.slice A5 s.fields.length c5) := cell_heap h'.md.bm (o := 0) rfl
 have y0 : wr.cell? ⟨F, 0, none⟩ = some (.int .u8 k) := cell_heap hB.box (o := 0) rfl
 have y1 : wr.cell? ⟨F, 1, none⟩ = some (.int .u8 s.g.report) := cell_heap hB.box (o := 1) rfl
 have fr8 := frozen_heap hB.box (o := 8)
 have hMF : ¬ M = F := by have := hB.new; have := h.md.low.1; have := h.hb; omega
 by_cases hlt : m < s.fields.length
 ·obtain ⟨f, b, off, cs, hf, rfl, hbb, ⟨A9, c9, rfl, hul, hcl, _⟩, hcs⟩ := h'.md.fs.sl.at hlt
  have hcs' : ∀ (o : Nat) v, (f.cellsC A9 c9)[o]? = some v → wr.cell? ⟨b, off + m * 13 + o, none⟩ = some v := fun o v h => hcs o v h
  have x0 : wr.cell? ⟨b, off + m * 13, none⟩ = _ := hcs' 0 _ rfl
  have x1 := hcs' 1 _ rfl
  have x6 := hcs' 6 _ rfl
  have x7 := hcs' 7 _ rfl
  have hbl : b < wr.heap.size := hbb
  have hsn : s.fields.take (m + 1) = s.fields.take m ++ [f] := by
   obtain ⟨h1, h2⟩ := List.getElem?_eq_some_iff.1 hf
   rw [List.take_succ_eq_append_getElem h1, h2]
  have hfs := fun f hf => hs.fields.2 f hf
  have hbd := bits_le (s.fields.take m) k s.g.report (fun f hf => by have := hfs f (List.mem_of_mem_take hf); omega)
  have hlm : ((s.fields.take m).length : Int) ≤ 256 := by have := List.length_take_le m s.fields; omega
  obtain ⟨a1, a2, a3, a4, _⟩ := hs.fields.2 f (List.mem_of_getElem? hf)
  obtain ⟨B, hBB⟩ : ∃ B, bitsS (s.fields.take m) k s.g.report = B := ⟨_, rfl⟩
  rw [hBB] at hB hbd
  have y8 : wr.cell? ⟨F, 8, none⟩ = some (.int .i64 B) := cell_heap hB.box (o := 8) rfl
  have hp1 : f.size * f.count ≤ 32 * f.count := Int.mul_le_mul_of_nonneg_right (by omega) (by omega)
  have hp2 : 1 * f.count ≤ f.size * f.count := Int.mul_le_mul_of_nonneg_right (by omega) (by omega)
  have hb1 : 0 ≤ B := hbd.1
  have hb2 : B ≤ 2097152 := by have := hbd.2; omega
  have hw1 : IntKind.i64.wrap (f.size * f.count) = f.size * f.count := by rw [IntKind.wrap_i64]; omega
  have hw2 : IntKind.i64.wrap (B + f.size * f.count) = B + f.size * f.count := by rw [IntKind.wrap_i64]; omega
  have hwm : IntKind.i64.wrap ((m : Int) + 1) = (m : Int) + 1 := by rw [IntKind.wrap_i64]; omega
  have hi0 : (0 : Int) ≤ (m : Int) := by omega
  have hlt' : (m : Int) < (s.fields.length : Int) := by omega
  have hltd : decide ((m : Int) < (s.fields.length : Int)) = true := decide_eq_true hlt'
  have Hb2 := hide hB
  have Hbw := hide (h.md.fs.lt (g := b) rfl).2
  clear hcs hcs' hf hbd hfs hB
  by_cases c1 : f.kind = k
  ·by_cases c2 : f.report = s.g.report
   ·have d1 : (f.kind == k) = true := by rw [beq_iff_eq]; exact c1
    have d2 : (f.report == s.g.report) = true := by rw [beq_iff_eq]; exact c2
    have hbs : bitsS (s.fields.take (m + 1)) k s.g.report = B + f.size * f.count := by
     rw [hsn, bitsS_snoc, hBB, d1, d2]; simp
    have Hbs := hide hbs
    clear hbs hsn
    go_upto_region 95 with (fail)
    go_quiet (fail)
    go_upto_region 96 with (fail)
    refine wp_at (fun W6 => Kept wr W6) (by repeat' first | exact Below.refl _ _ | refine below_drewN ?_ _) (fun W6 hk6 => ?_)
    obtain ⟨hc6, hf6⟩ := bcell hk6
    have hz6 := hk6.size
    have hbF : ¬ b = F := by have := Hbw.out; have := Hb2.out.new; omega
    have hMl6 : M < W6.heap.size := by omega
    have hFl6 : F < W6.heap.size := by omega
    refine wp_region_held_named (ops' := ops96) (n := 18) (S := fun w' => (∀ b o, b < wr.heap.size → ¬ b = F → w'.cell? ⟨b, o, none⟩ = wr.cell? ⟨b, o, none⟩) ∧ True) (by kernel_rfl) (by kernel_rfl) (by kernel_rfl) ⟨fun b o hb _ => hc6 b o hb, trivial⟩ (fun hS => ?_)
    have ho := opE ops96 0 (by kernel_rfl)
    conv at ho => rhs; arg 1; whnf
    refine tkE (v := ?_) ho (by kernel_rfl) (fun c a w h => hP c a _ _ w h) hS ?_ ?_ <;> clear ho
    rotate_left
    ·intro w' hq hq2; first | (go_simp; done) | (go_simp; with_reducible rfl)
    try simp only [Act.put, zp1, zp2, zp3, zp4, zp5, zp6]
    have ho := opE ops96 2 (by kernel_rfl)
    conv at ho => rhs; arg 1; whnf
    refine tkE (v := ?_) ho (by kernel_rfl) (fun c a w h => hP c a _ _ w h) hS ?_ ?_ <;> clear ho
    rotate_left
    ·intro w' hq hq2; first | (go_simp; done) | (go_simp; with_reducible rfl)
    try simp only [Act.put, zp1, zp2, zp3, zp4, zp5, zp6]
    have ho := opE ops96 3 (by kernel_rfl)
    conv at ho => rhs; arg 1; whnf
    refine tkE (v := ?_) ho (by kernel_rfl) (fun c a w h => hP c a _ _ w h) hS ?_ ?_ <;> clear ho
    rotate_left
    ·intro w' hq hq2; first | (go_simp; done) | (go_simp; with_reducible rfl)
    try simp only [Act.put, zp1, zp2, zp3, zp4, zp5, zp6]
    have ho := opE ops96 4 (by kernel_rfl)
    conv at ho => rhs; arg 1; whnf
    refine tkE (v := ?_) ho (by kernel_rfl) (fun c a w h => hP c a _ _ w h) hS ?_ ?_ <;> clear ho
    rotate_left
    ·intro w' hq hq2; first | (go_simp; done) | (go_simp; with_reducible rfl)
    try simp only [Act.put, zp1, zp2, zp3, zp4, zp5, zp6]
    have ho := opE ops96 5 (by kernel_rfl)
    conv at ho => rhs; arg 1; whnf
    refine tkE (v := ?_) ho (by kernel_rfl) (fun c a w h => hP c a _ _ w h) hS ?_ ?_ <;> clear ho
    rotate_left
    ·intro w' hq hq2; first | (go_simp; done) | (go_simp; with_reducible rfl)
    try simp only [Act.put, zp1, zp2, zp3, zp4, zp5, zp6]
    have ho := opE ops96 6 (by kernel_rfl)
    conv at ho => rhs; arg 1; whnf
    refine tkE (v := ?_) ho (by kernel_rfl) (fun c a w h => hP c a _ _ w h) hS ?_ ?_ <;> clear ho
    rotate_left
    ·intro w' hq hq2; first | (go_simp; done) | (go_simp; with_reducible rfl)
    try simp only [Act.put, zp1, zp2, zp3, zp4, zp5, zp6]
    have ho := opE ops96 7 (by kernel_rfl)
    conv at ho => rhs; arg 1; whnf
    refine tkE (v := ?_) ho (by kernel_rfl) (fun c a w h => hP c a _ _ w h) hS ?_ ?_ <;> clear ho
    rotate_left
    ·intro w' hq hq2; first | (go_simp; done) | (go_simp; with_reducible rfl)
    try simp only [Act.put, zp1, zp2, zp3, zp4, zp5, zp6]
    have ho := opE ops96 8 (by kernel_rfl)
    conv at ho => rhs; arg 1; whnf
    refine tkE (v := ?_) ho (by kernel_rfl) (fun c a w h => hP c a _ _ w h) hS ?_ ?_ <;> clear ho
    rotate_left
    ·intro w' hq hq2; first | (go_simp; done) | (go_simp; with_reducible rfl)
    try simp only [Act.put, zp1, zp2, zp3, zp4, zp5, zp6]
    have ho := opE ops96 9 (by kernel_rfl)
    conv at ho => rhs; arg 1; whnf
    refine tkE (v := ?_) ho (by kernel_rfl) (fun c a w h => hP c a _ _ w h) hS ?_ ?_ <;> clear ho
    rotate_left
    ·intro w' hq hq2; first | (go_simp; done) | (go_simp; with_reducible rfl)
    try simp only [Act.put, zp1, zp2, zp3, zp4, zp5, zp6]
    have ho := opE ops96 10 (by kernel_rfl)
    conv at ho => rhs; arg 1; whnf
    refine tkE (v := ?_) ho (by kernel_rfl) (fun c a w h => hP c a _ _ w h) hS ?_ ?_ <;> clear ho
    rotate_left
    ·intro w' hq hq2; first | (go_simp; done) | (go_simp; with_reducible rfl)
    try simp only [Act.put, zp1, zp2, zp3, zp4, zp5, zp6]
    have ho := opE ops96 11 (by kernel_rfl)
    conv at ho => rhs; arg 1; whnf
    refine tkE (v := ?_) ho (by kernel_rfl) (fun c a w h => hP c a _ _ w h) hS ?_ ?_ <;> clear ho
    rotate_left
    ·intro w' hq hq2; first | (go_simp; done) | (go_simp; with_reducible rfl)
    try simp only [Act.put, zp1, zp2, zp3, zp4, zp5, zp6]
    have ho := opE ops96 12 (by kernel_rfl)
    conv at ho => rhs; arg 1; whnf
    refine tkE (v := ?_) ho (by kernel_rfl) (fun c a w h => hP c a _ _ w h) hS ?_ ?_ <;> clear ho
    rotate_left
    ·intro w' hq hq2; first | (go_simp; done) | (go_simp; with_reducible rfl)
    try simp only [Act.put, zp1, zp2, zp3, zp4, zp5, zp6]
    have ho := opE ops96 13 (by kernel_rfl)
    conv at ho => rhs; arg 1; whnf
    refine tkE (v := ?_) ho (by kernel_rfl) (fun c a w h => hP c a _ _ w h) hS ?_ ?_ <;> clear ho
    rotate_left
    ·intro w' hq hq2; first | (go_simp; done) | (go_simp; with_reducible rfl)
    try simp only [Act.put, zp1, zp2, zp3, zp4, zp5, zp6]
    have ho := opE ops96 14 (by kernel_rfl)
    conv at ho => rhs; arg 1; whnf
    refine tkE (v := ?_) ho (by kernel_rfl) (fun c a w h => hP c a _ _ w h) hS ?_ ?_ <;> clear ho
    rotate_left
    ·intro w' hq hq2; first | (go_simp; done) | (go_simp; with_reducible rfl)
    try simp only [Act.put, zp1, zp2, zp3, zp4, zp5, zp6]
    have ho1 := opE ops96 1 (by kernel_rfl)
    conv at ho1 => rhs; arg 1; whnf
    refine wpAnyH_ready (rs := [1]) (by kernel_rfl) (by simp) ?_
    refine (AllReadyH.cons ho1 (fun K hK => ?_) AllReadyH.nil)
    all_goals clear ho1
    go_simp
    try dsimp only
    refine hK.out _ _ ?_ (fun hS => ?_)
    ·exact hS
    clear hK K
    try simp only [Act.put, zp1, zp2, zp3, zp4, zp5, zp6]
    have ho := opE ops96 15 (by kernel_rfl)
    conv at ho => rhs; arg 1; whnf
    refine tkE (v := ?_) ho (by kernel_rfl) (fun c a w h => hP c a _ _ w h) hS ?_ ?_ <;> clear ho
    rotate_left
    ·intro w' hq hq2; first | (go_simp; done) | (go_simp; with_reducible rfl)
    try simp only [Act.put, zp1, zp2, zp3, zp4, zp5, zp6]
    have ho := opE ops96 16 (by kernel_rfl)
    conv at ho => rhs; arg 1; whnf
    refine tkE (v := ?_) ho (by kernel_rfl) (fun c a w h => hP c a _ _ w h) hS ?_ ?_ <;> clear ho
    rotate_left
    ·intro w' hq hq2; first | (go_simp; done) | (go_simp; with_reducible rfl)
    try simp only [Act.put, zp1, zp2, zp3, zp4, zp5, zp6]
    have ho17 := opE ops96 17 (by kernel_rfl)
    conv at ho17 => rhs; arg 1; whnf
    refine wpAnyH_ready (rs := [17]) (by kernel_rfl) (by simp) ?_
    refine (AllReadyH.cons ho17 (fun K hK => ?_) AllReadyH.nil)
    all_goals clear ho17
    go_simp
    try dsimp only
    refine hK.out _ _ ?_ (fun hS => ?_)
    ·exact ⟨fun b o hb hne => (World.cell?_setCell_other _ _ _ _ (fun e => hne (congrArg Addr.block e).symm)).trans (hS.1 b o hb hne), trivial⟩
    clear hK K
    try simp only [Act.put, zp1, zp2, zp3, zp4, zp5, zp6]
    refine wpAnyH_done (by kernel_rfl) ?_ _
    go_wp2_with fail
    refine Handed.intro (gk - 1) (by omega) (hJ _ _ _ ?_)
    exact LoopB.of (frame_h rfl rfl rfl rfl rfl rfl rfl rfl rfl rfl rfl rfl rfl rfl rfl) (m := m + 1) (by omega) (by omega) ((Hb2.out.on (hk6.trans' ((Below.refl _ _).drew))).set 8 _ rfl) Hbs.out
   ·have d1 : (f.kind == k) = true := by rw [beq_iff_eq]; exact c1
    have d2 : (f.report == s.g.report) = false := beq_false_of_ne c2
    have hbs : bitsS (s.fields.take (m + 1)) k s.g.report = B := by
     rw [hsn, bitsS_snoc, hBB, d1, d2]; simp
    have Hbs := hide hbs
    clear hbs hsn
    go_upto_region 95 with (fail)
    go_quiet (fail)
    go_wp2_with fail
    refine Handed.intro (gk - 1) (by omega) (hJ _ _ _ ?_)
    exact LoopB.of (frame_h rfl rfl rfl rfl rfl rfl rfl rfl rfl rfl rfl rfl rfl rfl rfl) (m := m + 1) (by omega) (by omega) (Hb2.out.on (by repeat' first | exact Below.refl _ _ | refine below_drewN ?_ _)) Hbs.out
  ·have d1 : (f.kind == k) = false := beq_false_of_ne c1
   have hbs : bitsS (s.fields.take (m + 1)) k s.g.report = B := by
    rw [hsn, bitsS_snoc, hBB, d1]; simp
   have Hbs := hide hbs
   clear hbs hsn
   go_upto_region 95 with (fail)
   go_quiet (fail)
   go_wp2_with fail
   refine Handed.intro (gk - 1) (by omega) (hJ _ _ _ ?_)
   exact LoopB.of (frame_h rfl rfl rfl rfl rfl rfl rfl rfl rfl rfl rfl rfl rfl rfl rfl) (m := m + 1) (by omega) (by omega) (Hb2.out.on (by repeat' first | exact Below.refl _ _ | refine below_drewN ?_ _)) Hbs.out
 ·have hltd : decide ((m : Int) < (s.fields.length : Int)) = false := decide_eq_false (by omega)
  have hmn : m = s.fields.length := by omega
  rw [hmn, List.take_length] at hB
  have Hb2 := hide hB
  clear hB
  go_upto_region 97 with (fail)
  refine fld_97 k (frame_f rfl rfl rfl rfl rfl rfl rfl rfl rfl rfl rfl rfl rfl rfl) h (Hb2.out.on (by repeat' first | exact Below.refl _ _ | refine below_drewN ?_ _)) hs hw hok hfl heff (by have := Ho.out; omega) hN hE hP _ _ ?_ ?_
  all_goals assumption
set_option maxRecDepth 1000000 in
theorem fld_88 {Q : Exit → Act → World → Prop} {W W1 : World} {base n c R M S X F cap : Nat} {A A' : Option Addr} {vs vu vf vc : Value} {s : RS} {i : Int} {x : It} {a : Act} {b1 b2 b4 : Bool} (k : Int) (hk : (x.tg = 8 ∧ k = 1) ∨ (x.tg = 9 ∧ k = 2) ∨ (x.tg = 11 ∧ k = 3)) (ha : LiveF a A n c R M S X F vs vu s i x) (h : Sit W base R M S X vs vu vf vc s x) (hB : Bxd W W1 F A' cap s b1 b2 b4 1 0 0 0) (hs : s.Fine) (hw : x.wide = true) (hok : x.ok)
  (hfl : Flags x b1 b2 b4) (heff : effS s x = fieldS s k x) (ho : ¬ s.opn < 0)
  (hN : OkN Q W base A n c R M S X s i x) (hE : OkE Q W R s x) (hP : ∀ c a d v w, Q (.panic c) (a.put d v) w → Q (.panic c) a w) (K K2 : Act → World → Prop) (hK : ∀ a w', Code.wp Try.prog (restC (headC code88)) (Exit.then K2 Q) a w' → K a w') (hK2 : ∀ a w', Code.wp Try.prog (restC code88) Q a w' → K2 a w') : Code.wp Try.prog (headC (headC code88)) (Exit.then K (Exit.then K2 Q)) a W1 := by
 obtain ⟨us, rfl⟩ := ha
 conv => arg 2; whnf
 conv at hK => enter [a, w', 1, 2]; whnf
 conv at hK2 => enter [a, w', 1, 2]; whnf
 dsimp only
 have h' := h.kept hB.kept
 have hMl := heap_lt h'.md.bm
 have hSl := heap_lt h'.md.bs
 have hXl := heap_lt h'.bx
 have hRl := heap_lt h'.br
 have hFl := heap_lt hB.box
 have hMS := h.md.low.2.2
 obtain ⟨l1, l2, l3⟩ := h.low
 have hBn : R < W.heap.size := by have := h.hb; omega
 have t1 : W1.cell? ⟨X, 1, none⟩ = some (.int .u8 x.tg) := cell_heap h'.bx (o := 1) rfl
 have y0 : W1.cell? ⟨F, 0, none⟩ = some (.int .u8 1) := cell_heap hB.box (o := 0) rfl
 have fr0 := frozen_heap hB.box (o := 0)
 have hXF : ¬ X = F := by have := heap_lt h.bx; have := hB.new; omega
 rcases hk with ⟨h1, rfl⟩ | ⟨h1, rfl⟩ | ⟨h1, rfl⟩
 ·have d1 : (x.tg == 9) = false := by rw [h1]; rfl
  have d2 : (x.tg == 11) = false := by rw [h1]; rfl
  have d3 : decide (x.tg = 9) = false := by rw [h1]; rfl
  have d4 : decide (x.tg = 11) = false := by rw [h1]; rfl
  go_upto_region 92 with (fail)
  refine fld_92 _ (frame_f rfl rfl rfl rfl rfl rfl rfl rfl rfl rfl rfl rfl rfl rfl) h (hB) hs hw hok hfl heff ho hN hE hP _ _ ?_ ?_
  all_goals assumption
 ·have d1 : (x.tg == 9) = true := by rw [h1]; rfl
  have d2 : (x.tg == 11) = false := by rw [h1]; rfl
  have d3 : decide (x.tg = 9) = true := by rw [h1]; rfl
  have d4 : decide (x.tg = 11) = false := by rw [h1]; rfl
  go_upto_region 92 with (fail)
  refine fld_92 _ (frame_f rfl rfl rfl rfl rfl rfl rfl rfl rfl rfl rfl rfl rfl rfl) h (hB.set 0 _ rfl) hs hw hok hfl heff ho hN hE hP _ _ ?_ ?_
  all_goals assumption
 ·have d1 : (x.tg == 9) = false := by rw [h1]; rfl
  have d2 : (x.tg == 11) = true := by rw [h1]; rfl
  have d3 : decide (x.tg = 9) = false := by rw [h1]; rfl
  have d4 : decide (x.tg = 11) = true := by rw [h1]; rfl
  go_upto_region 92 with (fail)
  refine fld_92 _ (frame_f rfl rfl rfl rfl rfl rfl rfl rfl rfl rfl rfl rfl rfl rfl) h (hB.set 0 _ rfl) hs hw hok hfl heff ho hN hE hP _ _ ?_ ?_
  all_goals assumption
end Go.Proofs.Ytegdigfcgeoboaa
