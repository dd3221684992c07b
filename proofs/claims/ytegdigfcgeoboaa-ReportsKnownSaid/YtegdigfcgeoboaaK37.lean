/- The law of the chapter on reports, part 37: Nl Nk Nj Ni Nh. -/
import Derived.Test.YtegdigfcgeoboaaK36
set_option maxHeartbeats 16000000
set_option linter.unusedVariables false
set_option linter.unusedSimpArgs false
set_option linter.unusedSectionVars false
namespace Go.Proofs.Ytegdigfcgeoboaa
open Go.RowKit Go.Maps
attribute [local go_sem ↓] Go.wp_at_zero Go.wp_at_succ
def LoopU (W : World) (A : Option Addr) (n c : Nat) (R M S X base : Nat) (vs vf vc : Value) (s : RS) (i : Int) (x : It) (u : Int) (N k : Nat) (a : Act) (wr : World) : Prop :=
 ∃ (j : Nat → Value) (vu : Value) (m : Nat) (v : Int), a = ⟨#[.slice A n c, j 1, .pointer (some ⟨R, 0, none⟩), j 3, .pointer (some ⟨M, 0, none⟩), .pointer (some ⟨S, 0, none⟩), vs, vu, .int .i64 s.kept, .int .i64 s.opn, .int .i64 i, .pointer (some ⟨X, 0, none⟩), j 12, j 13, .int .i64 u, .int .i64 v, j 16, j 17, j 18, j 19, j 20, j 21, j 22, j 23, j 24, j 25, j 26, j 27, j 28, j 29, j 30, j 31, j 32, j 33, j 34, j 35, j 36, j 37, j 38, j 39, j 40, j 41, j 42, j 43, j 44, j 45, j 46, j 47, j 48, j 49, j 50, j 51, j 52, j 53, j 54, j 55, j 56, j 57, j 58, j 59, j 60, j 61, j 62, j 63, j 64, j 65, j 66, j 67, j 68, j 69, j 70, j 71, j 72, j 73, j 74, j 75, j 76, j 77, j 78, j 79, j 80, j 81, j 82, j 83, j 84, j 85, j 86, j 87, j 88, j 89, j 90, j 91, j 92, j 93, j 94, j 95, j 96, j 97, j 98, j 99, j 100, j 101, j 102, j 103, j 104, j 105, j 106, j 107, j 108, j 109, j 110, j 111, j 112, j 113, j 114, j 115, j 116, j 117, j 118, j 119, j 120, j 121, j 122, j 123, j 124, j 125, j 126, j 127, j 128, j 129, j 130, j 131, j 132, j 133, j 134, j 135, j 136, j 137, j 138, j 139, j 140, j 141, j 142, j 143, j 144, j 145, j 146, j 147, j 148, j 149, j 150, j 151, j 152, j 153, j 154, j 155, j 156, j 157, j 158, j 159, j 160, j 161, j 162, j 163, j 164, j 165, j 166, j 167, j 168, j 169, j 170, j 171, j 172, j 173, j 174, j 175, j 176, j 177, j 178, j 179, j 180, j 181, j 182, j 183, j 184, j 185, j 186, j 187, j 188, j 189, j 190, j 191, j 192, j 193, j 194, j 195, j 196, j 197, j 198, j 199, j 200, j 201, j 202, j 203, j 204, j 205, j 206, j 207, j 208, j 209, j 210, j 211, j 212, j 213, j 214, j 215, j 216, j 217, j 218, j 219, j 220, j 221, j 222, j 223, j 224, j 225, j 226, j 227, j 228, j 229, j 230, j 231, j 232, j 233, j 234, j 235, j 236, j 237, j 238, j 239, j 240, j 241, j 242, j 243, j 244, j 245, j 246, j 247, j 248, j 249, j 250, j 251, j 252, j 253, j 254, j 255, j 256, j 257, j 258, j 259, j 260, j 261, j 262, j 263, j 264, j 265, j 266, j 267, j 268, j 269, j 270, j 271, j 272, j 273, j 274, j 275, j 276, j 277, j 278, j 279, j 280, j 281, j 282, j 283, j 284, j 285, j 286, j 287, j 288, j 289, j 290, j 291, j 292, j 293, j 294, j 295, j 296, j 297, j 298, j 299, j 300, j 301, j 302, j 303, j 304, j 305, j 306, j 307, j 308, j 309, j 310, j 311, j 312, j 313, j 314, j 315, j 316, j 317, j 318, j 319, j 320, j 321, j 322, j 323, j 324, j 325, j 326, j 327, j 328, j 329, j 330, j 331, j 332, j 333, j 334, j 335, j 336, j 337, j 338, j 339, j 340, j 341, j 342, j 343, j 344, j 345, j 346, j 347, j 348, j 349, j 350, j 351, j 352, j 353, j 354, j 355, j 356, j 357, j 358, j 359, j 360, j 361, j 362, j 363, j 364, j 365, j 366, j 367, j 368, j 369, j 370, j 371, j 372, j 373, j 374, j 375, j 376, j 377, j 378, j 379, j 380, j 381, j 382, j 383, j 384, j 385, j 386, j 387, j 388, j 389, j 390, j 391, j 392, j 393, j 394, j 395, j 396, j 397, j 398, j 399, j 400, j 401, j 402, j 403, j 404, j 405, j 406, j 407, j 408, j 409, j 410, j 411, j 412, j 413, j 414, j 415, j 416, j 417, j 418, j 419, j 420, j 421, j 422, j 423, j 424, j 425, j 426, j 427, j 428, j 429, j 430, j 431, j 432, j 433, j 434, j 435, j 436, j 437, j 438, j 439, j 440, j 441, j 442, j 443, j 444, j 445], []⟩ ∧ v = s.kept + (m : Int) ∧ m + k = N ∧ Sit wr base R M S X vs vu vf vc (rowU s s.kept m) x ∧ FrM base M S W wr
theorem LoopU.of {W : World} {A : Option Addr} {n c : Nat} {R M S X base : Nat} {vs vf vc : Value} {s : RS} {i : Int} {x : It} {u : Int} {N k : Nat} {a : Act} {wr : World} {vu : Value} {m : Nat} {v : Int} (hf : ∃ j : Nat → Value, a = ⟨#[.slice A n c, j 1, .pointer (some ⟨R, 0, none⟩), j 3, .pointer (some ⟨M, 0, none⟩), .pointer (some ⟨S, 0, none⟩), vs, vu, .int .i64 s.kept, .int .i64 s.opn, .int .i64 i, .pointer (some ⟨X, 0, none⟩), j 12, j 13, .int .i64 u, .int .i64 v, j 16, j 17, j 18, j 19, j 20, j 21, j 22, j 23, j 24, j 25, j 26, j 27, j 28, j 29, j 30, j 31, j 32, j 33, j 34, j 35, j 36, j 37, j 38, j 39, j 40, j 41, j 42, j 43, j 44, j 45, j 46, j 47, j 48, j 49, j 50, j 51, j 52, j 53, j 54, j 55, j 56, j 57, j 58, j 59, j 60, j 61, j 62, j 63, j 64, j 65, j 66, j 67, j 68, j 69, j 70, j 71, j 72, j 73, j 74, j 75, j 76, j 77, j 78, j 79, j 80, j 81, j 82, j 83, j 84, j 85, j 86, j 87, j 88, j 89, j 90, j 91, j 92, j 93, j 94, j 95, j 96, j 97, j 98, j 99, j 100, j 101, j 102, j 103, j 104, j 105, j 106, j 107, j 108, j 109, j 110, j 111, j 112, j 113, j 114, j 115, j 116, j 117, j 118, j 119, j 120, j 121, j 122, j 123, j 124, j 125, j 126, j 127, j 128, j 129, j 130, j 131, j 132, j 133, j 134, j 135, j 136, j 137, j 138, j 139, j 140, j 141, j 142, j 143, j 144, j 145, j 146, j 147, j 148, j 149, j 150, j 151, j 152, j 153, j 154, j 155, j 156, j 157, j 158, j 159, j 160, j 161, j 162, j 163, j 164, j 165, j 166, j 167, j 168, j 169, j 170, j 171, j 172, j 173, j 174, j 175, j 176, j 177, j 178, j 179, j 180, j 181, j 182, j 183, j 184, j 185, j 186, j 187, j 188, j 189, j 190, j 191, j 192, j 193, j 194, j 195, j 196, j 197, j 198, j 199, j 200, j 201, j 202, j 203, j 204, j 205, j 206, j 207, j 208, j 209, j 210, j 211, j 212, j 213, j 214, j 215, j 216, j 217, j 218, j 219, j 220, j 221, j 222, j 223, j 224, j 225, j 226, j 227, j 228, j 229, j 230, j 231, j 232, j 233, j 234, j 235, j 236, j 237, j 238, j 239, j 240, j 241, j 242, j 243, j 244, j 245, j 246, j 247, j 248, j 249, j 250, j 251, j 252, j 253, j 254, j 255, j 256, j 257, j 258, j 259, j 260, j 261, j 262, j 263, j 264, j 265, j 266, j 267, j 268, j 269, j 270, j 271, j 272, j 273, j 274, j 275, j 276, j 277, j 278, j 279, j 280, j 281, j 282, j 283, j 284, j 285, j 286, j 287, j 288, j 289, j 290, j 291, j 292, j 293, j 294, j 295, j 296, j 297, j 298, j 299, j 300, j 301, j 302, j 303, j 304, j 305, j 306, j 307, j 308, j 309, j 310, j 311, j 312, j 313, j 314, j 315, j 316, j 317, j 318, j 319, j 320, j 321, j 322, j 323, j 324, j 325, j 326, j 327, j 328, j 329, j 330, j 331, j 332, j 333, j 334, j 335, j 336, j 337, j 338, j 339, j 340, j 341, j 342, j 343, j 344, j 345, j 346, j 347, j 348, j 349, j 350, j 351, j 352, j 353, j 354, j 355, j 356, j 357, j 358, j 359, j 360, j 361, j 362, j 363, j 364, j 365, j 366, j 367, j 368, j 369, j 370, j 371, j 372, j 373, j 374, j 375, j 376, j 377, j 378, j 379, j 380, j 381, j 382, j 383, j 384, j 385, j 386, j 387, j 388, j 389, j 390, j 391, j 392, j 393, j 394, j 395, j 396, j 397, j 398, j 399, j 400, j 401, j 402, j 403, j 404, j 405, j 406, j 407, j 408, j 409, j 410, j 411, j 412, j 413, j 414, j 415, j 416, j 417, j 418, j 419, j 420, j 421, j 422, j 423, j 424, j 425, j 426, j 427, j 428, j 429, j 430, j 431, j 432, j 433, j 434, j 435, j 436, j 437, j 438, j 439, j 440, j 441, j 442, j 443, j 444, j 445], []⟩) (hv : v = s.kept + (m : Int)) (hm : m + k = N) (hs : Sit wr base R M S X vs vu vf vc (rowU s s.kept m) x) (hr : FrM base M S W wr) : LoopU W A n c R M S X base vs vf vc s i x u N k a wr := hf.elim fun j e => ⟨j, vu, m, v, e, hv, hm, hs, hr⟩
set_option maxRecDepth 100000 in
theorem frame_row {a : Act} {v0 v2 v4 v5 v6 v7 v8 v9 v10 v11 v14 v15 : Value} (hs : a.tmps.size = 446) (hm : a.defers = []) (h0 : a.tmps[0]? = some v0) (h2 : a.tmps[2]? = some v2) (h4 : a.tmps[4]? = some v4) (h5 : a.tmps[5]? = some v5) (h6 : a.tmps[6]? = some v6) (h7 : a.tmps[7]? = some v7) (h8 : a.tmps[8]? = some v8) (h9 : a.tmps[9]? = some v9) (h10 : a.tmps[10]? = some v10) (h11 : a.tmps[11]? = some v11) (h14 : a.tmps[14]? = some v14) (h15 : a.tmps[15]? = some v15) : ∃ j : Nat → Value, a = ⟨#[v0, j 1, v2, j 3, v4, v5, v6, v7, v8, v9, v10, v11, j 12, j 13, v14, v15, j 16, j 17, j 18, j 19, j 20, j 21, j 22, j 23, j 24, j 25, j 26, j 27, j 28, j 29, j 30, j 31, j 32, j 33, j 34, j 35, j 36, j 37, j 38, j 39, j 40, j 41, j 42, j 43, j 44, j 45, j 46, j 47, j 48, j 49, j 50, j 51, j 52, j 53, j 54, j 55, j 56, j 57, j 58, j 59, j 60, j 61, j 62, j 63, j 64, j 65, j 66, j 67, j 68, j 69, j 70, j 71, j 72, j 73, j 74, j 75, j 76, j 77, j 78, j 79, j 80, j 81, j 82, j 83, j 84, j 85, j 86, j 87, j 88, j 89, j 90, j 91, j 92, j 93, j 94, j 95, j 96, j 97, j 98, j 99, j 100, j 101, j 102, j 103, j 104, j 105, j 106, j 107, j 108, j 109, j 110, j 111, j 112, j 113, j 114, j 115, j 116, j 117, j 118, j 119, j 120, j 121, j 122, j 123, j 124, j 125, j 126, j 127, j 128, j 129, j 130, j 131, j 132, j 133, j 134, j 135, j 136, j 137, j 138, j 139, j 140, j 141, j 142, j 143, j 144, j 145, j 146, j 147, j 148, j 149, j 150, j 151, j 152, j 153, j 154, j 155, j 156, j 157, j 158, j 159, j 160, j 161, j 162, j 163, j 164, j 165, j 166, j 167, j 168, j 169, j 170, j 171, j 172, j 173, j 174, j 175, j 176, j 177, j 178, j 179, j 180, j 181, j 182, j 183, j 184, j 185, j 186, j 187, j 188, j 189, j 190, j 191, j 192, j 193, j 194, j 195, j 196, j 197, j 198, j 199, j 200, j 201, j 202, j 203, j 204, j 205, j 206, j 207, j 208, j 209, j 210, j 211, j 212, j 213, j 214, j 215, j 216, j 217, j 218, j 219, j 220, j 221, j 222, j 223, j 224, j 225, j 226, j 227, j 228, j 229, j 230, j 231, j 232, j 233, j 234, j 235, j 236, j 237, j 238, j 239, j 240, j 241, j 242, j 243, j 244, j 245, j 246, j 247, j 248, j 249, j 250, j 251, j 252, j 253, j 254, j 255, j 256, j 257, j 258, j 259, j 260, j 261, j 262, j 263, j 264, j 265, j 266, j 267, j 268, j 269, j 270, j 271, j 272, j 273, j 274, j 275, j 276, j 277, j 278, j 279, j 280, j 281, j 282, j 283, j 284, j 285, j 286, j 287, j 288, j 289, j 290, j 291, j 292, j 293, j 294, j 295, j 296, j 297, j 298, j 299, j 300, j 301, j 302, j 303, j 304, j 305, j 306, j 307, j 308, j 309, j 310, j 311, j 312, j 313, j 314, j 315, j 316, j 317, j 318, j 319, j 320, j 321, j 322, j 323, j 324, j 325, j 326, j 327, j 328, j 329, j 330, j 331, j 332, j 333, j 334, j 335, j 336, j 337, j 338, j 339, j 340, j 341, j 342, j 343, j 344, j 345, j 346, j 347, j 348, j 349, j 350, j 351, j 352, j 353, j 354, j 355, j 356, j 357, j 358, j 359, j 360, j 361, j 362, j 363, j 364, j 365, j 366, j 367, j 368, j 369, j 370, j 371, j 372, j 373, j 374, j 375, j 376, j 377, j 378, j 379, j 380, j 381, j 382, j 383, j 384, j 385, j 386, j 387, j 388, j 389, j 390, j 391, j 392, j 393, j 394, j 395, j 396, j 397, j 398, j 399, j 400, j 401, j 402, j 403, j 404, j 405, j 406, j 407, j 408, j 409, j 410, j 411, j 412, j 413, j 414, j 415, j 416, j 417, j 418, j 419, j 420, j 421, j 422, j 423, j 424, j 425, j 426, j 427, j 428, j 429, j 430, j 431, j 432, j 433, j 434, j 435, j 436, j 437, j 438, j 439, j 440, j 441, j 442, j 443, j 444, j 445], []⟩ := by
 obtain ⟨⟨l⟩, m⟩ := a
 have hm' : m = [] := hm
 subst hm'
 obtain ⟨f, hf, hl⟩ := list_fn l 446 hs
 have e0 := hf 0 (by omega)
 have k0 : l[0]? = some v0 := by rw [← h0]; exact List.getElem?_toArray.symm
 rw [k0] at e0
 injection e0 with e0
 have e2 := hf 2 (by omega)
 have k2 : l[2]? = some v2 := by rw [← h2]; exact List.getElem?_toArray.symm
 rw [k2] at e2
 injection e2 with e2
 have e4 := hf 4 (by omega)
 have k4 : l[4]? = some v4 := by rw [← h4]; exact List.getElem?_toArray.symm
 rw [k4] at e4
 injection e4 with e4
 have e5 := hf 5 (by omega)
 have k5 : l[5]? = some v5 := by rw [← h5]; exact List.getElem?_toArray.symm
 rw [k5] at e5
 injection e5 with e5
 have e6 := hf 6 (by omega)
 have k6 : l[6]? = some v6 := by rw [← h6]; exact List.getElem?_toArray.symm
 rw [k6] at e6
 injection e6 with e6
 have e7 := hf 7 (by omega)
 have k7 : l[7]? = some v7 := by rw [← h7]; exact List.getElem?_toArray.symm
 rw [k7] at e7
 injection e7 with e7
 have e8 := hf 8 (by omega)
 have k8 : l[8]? = some v8 := by rw [← h8]; exact List.getElem?_toArray.symm
 rw [k8] at e8
 injection e8 with e8
 have e9 := hf 9 (by omega)
 have k9 : l[9]? = some v9 := by rw [← h9]; exact List.getElem?_toArray.symm
 rw [k9] at e9
 injection e9 with e9
 have e10 := hf 10 (by omega)
 have k10 : l[10]? = some v10 := by rw [← h10]; exact List.getElem?_toArray.symm
 rw [k10] at e10
 injection e10 with e10
 have e11 := hf 11 (by omega)
 have k11 : l[11]? = some v11 := by rw [← h11]; exact List.getElem?_toArray.symm
 rw [k11] at e11
 injection e11 with e11
 have e14 := hf 14 (by omega)
 have k14 : l[14]? = some v14 := by rw [← h14]; exact List.getElem?_toArray.symm
 rw [k14] at e14
 injection e14 with e14
 have e15 := hf 15 (by omega)
 have k15 : l[15]? = some v15 := by rw [← h15]; exact List.getElem?_toArray.symm
 rw [k15] at e15
 injection e15 with e15
 clear h0 k0
 subst e0
 clear h2 k2
 subst e2
 clear h4 k4
 subst e4
 clear h5 k5
 subst e5
 clear h6 k6
 subst e6
 clear h7 k7
 subst e7
 clear h8 k8
 subst e8
 clear h9 k9
 subst e9
 clear h10 k10
 subst e10
 clear h11 k11
 subst e11
 clear h14 k14
 subst e14
 clear h15 k15
 subst e15
 exact ⟨f, by rw [hl]; rfl⟩
noncomputable def codeM60 : Code := (Try.f13.body.bind (findR 60)).getD .skip
set_option maxRecDepth 1000000 in
theorem sw_60 {Q : Exit → Act → World → Prop} {W : World} {base n c R M S X : Nat} {A : Option Addr} {vs vu vf vc : Value} {s : RS} {i : Int} {x : It} {a : Act} {cc : Int} (hcc : x.ty * 16 + x.tg = cc) (ha : Live a A n c R M S X vs vu s s i x cc) (h : Sit W base R M S X vs vu vf vc s x)
  (hs : s.Fine) (hw : x.wide = true) (hok : x.ok) (hN : OkN Q W base A n c R M S X s i x) (hE : OkE Q W R s x) (hP : ∀ c a d v w, Q (.panic c) (a.put d v) w → Q (.panic c) a w) (hne : ∀ v ∈ ([33, 32, 27, 26, 25, 24, 23, 22, 21, 20, 19, 18, 17, 16] : List Int), cc ≠ v) (K : Act → World → Prop) (hK : ∀ a w', Code.wp Try.prog (restC codeM60) Q a w' → K a w') : Code.wp Try.prog (headC codeM60) (Exit.then K Q) a W := by
 obtain ⟨j, rfl⟩ := ha
 conv => arg 2; whnf
 conv at hK => enter [a, w', 1, 2]; whnf
 dsimp only
 obtain ⟨w1, w2, w3, w4, _⟩ := wide_iff hw hok
 have hMl := heap_lt h.md.bm
 have hSl := heap_lt h.md.bs
 have hXl := heap_lt h.bx
 have hRl := heap_lt h.br
 have hMS := h.md.low.2.2
 obtain ⟨l1, l2, l3⟩ := h.low
 have r0 : W.cell? ⟨R, 0, none⟩ = some (.slice none 0 0) := cell_heap h.br (o := 0) rfl
 have r1 : W.cell? ⟨R, 1, none⟩ = some (.slice none 0 0) := cell_heap h.br (o := 1) rfl
 have r2 : W.cell? ⟨R, 2, none⟩ = some (.bool false) := cell_heap h.br (o := 2) rfl
 have g0 := frozen_heap h.br (o := 0)
 have g1 := frozen_heap h.br (o := 1)
 have g2 := frozen_heap h.br (o := 2)
 by_cases hv : cc = 34
 ·subst hv
  have h1 : x.ty = 2 := by omega
  have h2 : x.tg = 2 := by omega
  have hE' : effS s x = if s.keeps = false ∨ usageS s x / 65536 ≠ s.kept / 65536 ∨ usageS s x < s.kept then (4, s) else addS { s with keeps := false } s.kept (usageS s x) := by simp [effS, h1, h2]
  have hu := usage_range hs hw hok
  have hkp := hs.kept
  have hul := hs.usages.1
  unfold u32k at hu hkp
  obtain ⟨u, hue⟩ : ∃ u, usageS s x = u := ⟨_, rfl⟩
  rw [hue] at hE' hu ⊢
  cases hkk : s.keeps with
  | false =>
   have hF : effS s x = (4, s) := by rw [hE', if_pos (.inl hkk)]
   have hk : keptI s = -1 := by unfold keptI; rw [hkk]; rfl
   rw [hk]
   go_wp2_with fail
   refine hE _ _ 4 (by rw [hF]) (by decide) rfl rfl rfl ?_ ?_
   ·exact (zeroed h.br).1
   ·exact (zeroed h.br).2
  | true =>
   have hk : keptI s = s.kept := by unfold keptI; rw [hkk]; rfl
   rw [hk]
   have hq1 : s.kept.tdiv 65536 = s.kept / 65536 := Int.tdiv_eq_ediv_of_nonneg hkp.1
   have hq2 : u.tdiv 65536 = u / 65536 := Int.tdiv_eq_ediv_of_nonneg hu.1
   have hwq1 : IntKind.i64.wrap (s.kept / 65536) = s.kept / 65536 := by rw [IntKind.wrap_i64]; omega
   have hwq2 : IntKind.i64.wrap (u / 65536) = u / 65536 := by rw [IntKind.wrap_i64]; omega
   have hn0 : decide (s.kept < 0) = false := decide_eq_false (by omega)
   by_cases ca : u / 65536 = s.kept / 65536
   ·have ca1 : (s.kept / 65536 == u / 65536) = true := by rw [beq_iff_eq]; exact ca.symm
    have ca2 : decide (s.kept / 65536 = u / 65536) = true := decide_eq_true ca.symm
    by_cases cb : u < s.kept
    ·have hF : effS s x = (4, s) := by rw [hE', if_pos (.inr (.inr cb))]
     have cb1 : decide (u < s.kept) = true := decide_eq_true cb
     rw [ca] at hq2 hwq2
     go_wp2_with fail
     refine hE _ _ 4 (by rw [hF]) (by decide) rfl rfl rfl ?_ ?_
     ·exact (zeroed h.br).1
     ·exact (zeroed h.br).2
    ·have cb1 : decide (u < s.kept) = false := decide_eq_false cb
     have hA : effS s x = addS { s with keeps := false } s.kept u := by
      rw [hE', if_neg]
      rintro (e | e | e)
      ·rw [hkk] at e; cases e
      ·exact e ca
      ·exact cb e
     rw [ca] at hq2 hwq2
     have ws1 : IntKind.i64.wrap ((s.usages.length : Int) + u) = (s.usages.length : Int) + u := by rw [IntKind.wrap_i64]; omega
     have ws2 : IntKind.i64.wrap ((s.usages.length : Int) + u - s.kept) = (s.usages.length : Int) + u - s.kept := by rw [IntKind.wrap_i64]; omega
     have ws3 : IntKind.i64.wrap ((s.usages.length : Int) + u - s.kept + 1) = (s.usages.length : Int) + u - s.kept + 1 := by rw [IntKind.wrap_i64]; omega
     obtain ⟨A7, c7, hvu, hB1, hB2⟩ := h.md.us.isSlice
     by_cases cd : 512 < (s.usages.length : Int) + (u - s.kept + 1)
     ·have hF : effS s x = (3, { s with keeps := false }) := by rw [hA]; unfold addS; rw [if_pos cd]
      have cd1 : decide (512 < (s.usages.length : Int) + u - s.kept + 1) = true := decide_eq_true (by omega)
      rw [hvu]
      go_wp2_with fail
      refine hE _ _ 3 (by rw [hF]) (by decide) rfl rfl rfl ?_ ?_
      ·exact (zeroed h.br).1
      ·exact (zeroed h.br).2
     ·obtain ⟨NN, hNN⟩ : ∃ NN : Nat, (u - s.kept + 1).toNat = NN := ⟨_, rfl⟩
      have hF : effS s x = (0, { rowU s s.kept NN with keeps := false }) := by rw [hA]; unfold addS; rw [if_neg cd, hNN]; rfl
      have cd1 : decide (512 < (s.usages.length : Int) + u - s.kept + 1) = false := decide_eq_false (by omega)
      obtain ⟨i1, hi1, hz0, hz1, hz2⟩ := info_parts info27
      have h' := h
      rw [hvu] at h'
      rw [hvu]
      go_wp2_with fail
      refine wp_loop_ghost_k (LoopU W A n c R M S X base vs vf vc s i x u NN) NN ?_ ?_
      ·exact LoopU.of (frame_row rfl rfl rfl rfl rfl rfl rfl rfl rfl rfl rfl rfl rfl rfl) (m := 0) (by omega) (by omega) (h'.same rfl rfl (by simp [rowU]) rfl rfl rfl) FrM.refl
      intro gk a wr hI J K2 hJ hK2
      obtain ⟨j, vu, m, v, rfl, rfl, hm, hsit, hfr⟩ := hI
      obtain ⟨A9, c9, rfl, hD1, hD2⟩ := hsit.md.us.isSlice
      have hL : (rowU s s.kept m).usages.length = s.usages.length + m := by unfold rowU; simp
      have HL := hide hL
      clear hL
      by_cases hlt : s.kept + (m : Int) ≤ u
      ·have hl1 : decide (s.kept + (m : Int) ≤ u) = true := decide_eq_true hlt
       have hw32 : IntKind.u32.wrap (s.kept + (m : Int)) = s.kept + (m : Int) := by rw [IntKind.wrap_u32]; omega
       have hw64 : IntKind.i64.wrap (s.kept + (m : Int) + 1) = s.kept + (m : Int) + 1 := by rw [IntKind.wrap_i64]; omega
       have hL2 : (rowU s s.kept m).usages.length ≤ 1024 := by rw [HL.out]; omega
       go_wp2_with (at_builtin; go_must (refine wpList_append_el (T := u32T) rfl (.tmp 194) (.tmp 197) 57 rfl base 27 i1 _ 4 Try.underlying57 hi1 hz0 hz1 hz2 rfl (by decide) _ (rowU s s.kept m).usages.length (rowU s s.kept m).usages (by rfl) (hsit.md.us.alloc _) wr.heap.size _ _ (s.kept + (m : Int)) (by rfl) (heap_at _ rfl) ⟨rfl, by unfold u32k; omega⟩ (by simp [Value.oneCell']) (by unfold maxLen; omega) (by omega) (Nat.le_trans hsit.hb (by simp)) ?_); intro g cap w4 hown4 hg4 hb4 hat4 hlt4)
       refine Handed.intro (gk - 1) (by omega) (hJ _ _ _ ?_)
       have hkW : Kept wr (wr.alloc (.cells #[.int .u32 (s.kept + (m : Int))] 27)) := (Below.refl _ _).alloc (Nat.le_refl _) _
       have h9 := (hsit.kept hkW).usTo (v' := .slice (some ⟨g, 0, none⟩) ((rowU s s.kept m).usages.length + 1) cap) hg4 (by rw [List.length_append]; exact hown4) (hat4.elim (fun e => .inr (.inl e.symm)) (fun e => .inr (.inr (by rw [e]; rfl))))
       rw [← rowU_succ] at h9
       exact LoopU.of (frame_row rfl rfl rfl rfl rfl rfl rfl rfl rfl rfl rfl rfl rfl rfl) (m := m + 1) (by omega) (by omega) h9 ((hfr.trans (FrM.kept hkW hsit.hb)).trans (FrM.below hb4))
      ·have hl1 : decide (s.kept + (m : Int) ≤ u) = false := decide_eq_false hlt
       have hmN : m = NN := by omega
       subst hmN
       go_wp2_with fail
       refine hN _ _ vs _ vf vc _ hF (frame_end rfl rfl rfl rfl rfl rfl rfl rfl rfl rfl rfl rfl) (hsit.same rfl rfl rfl rfl rfl rfl) hfr
   ·have hF : effS s x = (4, s) := by rw [hE', if_pos (.inr (.inl ca))]
    have ca1 : (s.kept / 65536 == u / 65536) = false := beq_false_of_ne (fun e => ca e.symm)
    have ca2 : decide (s.kept / 65536 = u / 65536) = false := decide_eq_false (fun e => ca e.symm)
    go_wp2_with fail
    refine hE _ _ 4 (by rw [hF]) (by decide) rfl rfl rfl ?_ ?_
    ·exact (zeroed h.br).1
    ·exact (zeroed h.br).2
 ·have hv' : decide (cc = 34) = false := decide_eq_false hv
  go_upto_region 70 with (fail)
  refine sw_70 hcc (frame_item rfl rfl rfl rfl rfl rfl rfl rfl rfl rfl rfl rfl rfl rfl rfl rfl) h hs hw hok hN hE hP ?_ _ ?_
  ·intro u hu
   rcases List.mem_cons.1 hu with rfl | hu
   ·exact hv
   ·exact hne u hu
  all_goals assumption
noncomputable def codeM58 : Code := (Try.f13.body.bind (findR 58)).getD .skip
set_option maxRecDepth 1000000 in
theorem sw_58 {Q : Exit → Act → World → Prop} {W : World} {base n c R M S X : Nat} {A : Option Addr} {vs vu vf vc : Value} {s : RS} {i : Int} {x : It} {a : Act} {cc : Int} (hcc : x.ty * 16 + x.tg = cc) (ha : Live a A n c R M S X vs vu s s i x cc) (h : Sit W base R M S X vs vu vf vc s x)
  (hs : s.Fine) (hw : x.wide = true) (hok : x.ok) (hN : OkN Q W base A n c R M S X s i x) (hE : OkE Q W R s x) (hP : ∀ c a d v w, Q (.panic c) (a.put d v) w → Q (.panic c) a w) (hne : ∀ v ∈ ([32, 27, 26, 25, 24, 23, 22, 21, 20, 19, 18, 17, 16] : List Int), cc ≠ v) (K : Act → World → Prop) (hK : ∀ a w', Code.wp Try.prog (restC codeM58) Q a w' → K a w') : Code.wp Try.prog (headC codeM58) (Exit.then K Q) a W := by
 obtain ⟨us, rfl⟩ := ha
 conv => arg 2; whnf
 conv at hK => enter [a, w', 1, 2]; whnf
 dsimp only
 obtain ⟨w1, w2, w3, w4, _⟩ := wide_iff hw hok
 have hMl := heap_lt h.md.bm
 have hSl := heap_lt h.md.bs
 have hXl := heap_lt h.bx
 have hRl := heap_lt h.br
 have hMS := h.md.low.2.2
 obtain ⟨l1, l2, l3⟩ := h.low
 have r0 : W.cell? ⟨R, 0, none⟩ = some (.slice none 0 0) := cell_heap h.br (o := 0) rfl
 have r1 : W.cell? ⟨R, 1, none⟩ = some (.slice none 0 0) := cell_heap h.br (o := 1) rfl
 have r2 : W.cell? ⟨R, 2, none⟩ = some (.bool false) := cell_heap h.br (o := 2) rfl
 have g0 := frozen_heap h.br (o := 0)
 have g1 := frozen_heap h.br (o := 1)
 have g2 := frozen_heap h.br (o := 2)
 by_cases hv : cc = 33
 ·subst hv
  have h1 : x.ty = 2 := by omega
  have h2 : x.tg = 1 := by omega
  have hF : effS s x = (0, { s with kept := usageS s x, keeps := true }) := by simp [effS, h1, h2]
  go_wp2_with fail
  refine hN _ _ vs vu vf vc _ (hF) (frame_end rfl rfl rfl rfl rfl rfl rfl rfl rfl rfl rfl rfl) (h.same rfl rfl rfl rfl rfl rfl) (FrM.refl)
 ·have hv' : decide (cc = 33) = false := decide_eq_false hv
  go_upto_region 60 with (fail)
  refine sw_60 hcc (frame_item rfl rfl rfl rfl rfl rfl rfl rfl rfl rfl rfl rfl rfl rfl rfl rfl) h hs hw hok hN hE hP ?_ _ ?_
  ·intro u hu
   rcases List.mem_cons.1 hu with rfl | hu
   ·exact hv
   ·exact hne u hu
  all_goals assumption
noncomputable def codeM54 : Code := (Try.f13.body.bind (findR 54)).getD .skip
set_option maxRecDepth 1000000 in
theorem sw_54 {Q : Exit → Act → World → Prop} {W : World} {base n c R M S X : Nat} {A : Option Addr} {vs vu vf vc : Value} {s : RS} {i : Int} {x : It} {a : Act} {cc : Int} (hcc : x.ty * 16 + x.tg = cc) (ha : Live a A n c R M S X vs vu s s i x cc) (h : Sit W base R M S X vs vu vf vc s x)
  (hs : s.Fine) (hw : x.wide = true) (hok : x.ok) (hN : OkN Q W base A n c R M S X s i x) (hE : OkE Q W R s x) (hP : ∀ c a d v w, Q (.panic c) (a.put d v) w → Q (.panic c) a w) (hne : ∀ v ∈ ([27, 26, 25, 24, 23, 22, 21, 20, 19, 18, 17, 16] : List Int), cc ≠ v) (K : Act → World → Prop) (hK : ∀ a w', Code.wp Try.prog (restC codeM54) Q a w' → K a w') : Code.wp Try.prog (headC codeM54) (Exit.then K Q) a W := by
 obtain ⟨us, rfl⟩ := ha
 conv => arg 2; whnf
 conv at hK => enter [a, w', 1, 2]; whnf
 dsimp only
 obtain ⟨w1, w2, w3, w4, _⟩ := wide_iff hw hok
 have hMl := heap_lt h.md.bm
 have hSl := heap_lt h.md.bs
 have hXl := heap_lt h.bx
 have hRl := heap_lt h.br
 have hMS := h.md.low.2.2
 obtain ⟨l1, l2, l3⟩ := h.low
 have r0 : W.cell? ⟨R, 0, none⟩ = some (.slice none 0 0) := cell_heap h.br (o := 0) rfl
 have r1 : W.cell? ⟨R, 1, none⟩ = some (.slice none 0 0) := cell_heap h.br (o := 1) rfl
 have r2 : W.cell? ⟨R, 2, none⟩ = some (.bool false) := cell_heap h.br (o := 2) rfl
 have g0 := frozen_heap h.br (o := 0)
 have g1 := frozen_heap h.br (o := 1)
 have g2 := frozen_heap h.br (o := 2)
 by_cases hv : cc = 32
 ·subst hv
  have h1 : x.ty = 2 := by omega
  have h2 : x.tg = 0 := by omega
  have hF : effS s x = addS s (usageS s x) (usageS s x) := by simp [effS, h1, h2]
  have hu := usage_range hs hw hok
  have hul := hs.usages.1
  unfold u32k at hu
  obtain ⟨A7, c7, rfl, hB1, hB2⟩ := h.md.us.isSlice
  obtain ⟨i1, hi1, hz0, hz1, hz2⟩ := info_parts info27
  obtain ⟨u, hue⟩ : ∃ u, usageS s x = u := ⟨_, rfl⟩
  rw [hue] at hF hu ⊢
  by_cases hd : 512 ≤ s.usages.length
  ·have hd' : decide ((s.usages.length : Int) = 512) = true := decide_eq_true (by omega)
   have hd2 : ((s.usages.length : Int) == 512) = true := by rw [beq_iff_eq]; omega
   have hF3 : effS s x = (3, s) := by rw [hF]; unfold addS; rw [if_pos (by omega)]
   go_wp2_with fail
   refine hE _ _ 3 (by rw [hF3]) (by decide) rfl rfl rfl ?_ ?_
   ·exact (zeroed h.br).1
   ·exact (zeroed h.br).2
  ·have hd' : decide ((s.usages.length : Int) = 512) = false := decide_eq_false (by omega)
   have hd2 : ((s.usages.length : Int) == 512) = false := beq_false_of_ne (by omega)
   have hw32 : IntKind.u32.wrap u = u := by rw [IntKind.wrap_u32]; omega
   have hF0 : effS s x = (0, { s with usages := s.usages ++ [u] }) := by
    rw [hF]
    unfold addS
    rw [if_neg (by omega), show u - u + 1 = 1 by omega]
    have e : (List.range (1 : Int).toNat).map (fun (i : Nat) => u + (i : Int)) = [u] := by simp
    rw [e]
   go_wp2_with (at_builtin; go_must (refine wpList_append_el (T := u32T) rfl (.tmp 154) (.tmp 157) 57 rfl base 27 i1 _ 4 Try.underlying57 hi1 hz0 hz1 hz2 rfl (by decide) _ s.usages.length s.usages (by rfl) (h.md.us.alloc _) W.heap.size _ _ u (by rfl) (heap_at _ rfl) ⟨rfl, hu⟩ (by simp [Value.oneCell']) (by unfold maxLen; omega) (by omega) (Nat.le_trans h.hb (by simp)) ?_); intro g cap w4 hown4 hg4 hb4 hat4 hlt4)
   have hkW : Kept W (W.alloc (.cells #[.int .u32 u] 27)) := (Below.refl _ _).alloc (Nat.le_refl _) _
   refine hN _ _ vs _ vf vc _ (hF0) (frame_end rfl rfl rfl rfl rfl rfl rfl rfl rfl rfl rfl rfl) ((h.kept hkW).usTo (v' := .slice (some ⟨g, 0, none⟩) (s.usages.length + 1) cap) hg4 (by rw [List.length_append]; exact hown4) (hat4.elim (fun e => .inr (.inl e.symm)) (fun e => .inr (.inr (by rw [e]; rfl))))) ((FrM.kept hkW h.hb).trans (FrM.below hb4))
 ·have hv' : decide (cc = 32) = false := decide_eq_false hv
  go_upto_region 58 with (fail)
  refine sw_58 hcc (frame_item rfl rfl rfl rfl rfl rfl rfl rfl rfl rfl rfl rfl rfl rfl rfl rfl) h hs hw hok hN hE hP ?_ _ ?_
  ·intro u hu
   rcases List.mem_cons.1 hu with rfl | hu
   ·exact hv
   ·exact hne u hu
  all_goals assumption
noncomputable def codeM49 : Code := (Try.f13.body.bind (findR 49)).getD .skip
set_option maxRecDepth 1000000 in
theorem sw_49 {Q : Exit → Act → World → Prop} {W : World} {base n c R M S X : Nat} {A : Option Addr} {vs vu vf vc : Value} {s : RS} {i : Int} {x : It} {a : Act} {cc : Int} (hcc : x.ty * 16 + x.tg = cc) (ha : Live a A n c R M S X vs vu s s i x cc) (h : Sit W base R M S X vs vu vf vc s x)
  (hs : s.Fine) (hw : x.wide = true) (hok : x.ok) (hN : OkN Q W base A n c R M S X s i x) (hE : OkE Q W R s x) (hP : ∀ c a d v w, Q (.panic c) (a.put d v) w → Q (.panic c) a w) (hne : ∀ v ∈ ([26, 25, 24, 23, 22, 21, 20, 19, 18, 17, 16] : List Int), cc ≠ v) (K : Act → World → Prop) (hK : ∀ a w', Code.wp Try.prog (restC codeM49) Q a w' → K a w') : Code.wp Try.prog (headC codeM49) (Exit.then K Q) a W := by
 obtain ⟨us, rfl⟩ := ha
 conv => arg 2; whnf
 conv at hK => enter [a, w', 1, 2]; whnf
 dsimp only
 obtain ⟨w1, w2, w3, w4, _⟩ := wide_iff hw hok
 have hMl := heap_lt h.md.bm
 have hSl := heap_lt h.md.bs
 have hXl := heap_lt h.bx
 have hRl := heap_lt h.br
 have hMS := h.md.low.2.2
 obtain ⟨l1, l2, l3⟩ := h.low
 have r0 : W.cell? ⟨R, 0, none⟩ = some (.slice none 0 0) := cell_heap h.br (o := 0) rfl
 have r1 : W.cell? ⟨R, 1, none⟩ = some (.slice none 0 0) := cell_heap h.br (o := 1) rfl
 have r2 : W.cell? ⟨R, 2, none⟩ = some (.bool false) := cell_heap h.br (o := 2) rfl
 have g0 := frozen_heap h.br (o := 0)
 have g1 := frozen_heap h.br (o := 1)
 have g2 := frozen_heap h.br (o := 2)
 by_cases hv : cc = 27
 ·subst hv
  have h1 : x.ty = 1 := by omega
  have h2 : x.tg = 11 := by omega
  have hE' : effS s x = (match s.stack.getLast? with | none => (4, s) | some g => (0, { s with g := g, stack := s.stack.dropLast })) := by
   unfold effS
   rw [if_neg (by omega), if_pos h1, if_neg (by omega), if_neg (by omega), if_neg (by omega), if_neg (by omega), if_neg (by omega), if_neg (by omega), if_neg (by omega), if_neg (by omega), if_pos h2]
   cases s.stack.getLast? <;> rfl
  have hdp := hs.depth
  obtain ⟨A6, c6, rfl, hA1, hA2⟩ := h.md.st.isSlice
  have p0 : W.cell? ⟨S, 0, none⟩ = some (.int .i64 s.g.page) := cell_heap h.md.bs (o := 0) rfl
  have f0 := frozen_heap h.md.bs (o := 0)
  have p1 : W.cell? ⟨S, 1, none⟩ = some (.int .i64 s.g.lo) := cell_heap h.md.bs (o := 1) rfl
  have f1 := frozen_heap h.md.bs (o := 1)
  have p2 : W.cell? ⟨S, 2, none⟩ = some (.int .i64 s.g.hi) := cell_heap h.md.bs (o := 2) rfl
  have f2 := frozen_heap h.md.bs (o := 2)
  have p3 : W.cell? ⟨S, 3, none⟩ = some (.int .i64 s.g.size) := cell_heap h.md.bs (o := 3) rfl
  have f3 := frozen_heap h.md.bs (o := 3)
  have p4 : W.cell? ⟨S, 4, none⟩ = some (.int .i64 s.g.count) := cell_heap h.md.bs (o := 4) rfl
  have f4 := frozen_heap h.md.bs (o := 4)
  have p5 : W.cell? ⟨S, 5, none⟩ = some (.int .i64 s.g.report) := cell_heap h.md.bs (o := 5) rfl
  have f5 := frozen_heap h.md.bs (o := 5)
  by_cases hd : s.stack.length = 0
  ·have hF : effS s x = (4, s) := by rw [hE', List.eq_nil_of_length_eq_zero hd]; rfl
   have hd' : ((s.stack.length : Int) == 0) = true := by rw [hd]; rfl
   have hd2 : decide ((s.stack.length : Int) = 0) = true := decide_eq_true (by omega)
   go_wp2_with fail
   refine hE _ _ 4 (by rw [hF]) (by decide) rfl rfl rfl ?_ ?_
   ·exact (zeroed h.br).1
   ·exact (zeroed h.br).2
  ·obtain ⟨m, hm⟩ : ∃ m, s.stack.length = m + 1 := ⟨s.stack.length - 1, by omega⟩
   obtain ⟨y, b, off, cs, hy, rfl, hbb, ⟨rfl, _⟩, hcs⟩ := h.md.st.sl.at (show m < s.stack.length by omega)
   have hF : effS s x = (0, { s with g := y, stack := s.stack.dropLast }) := by
    rw [hE', show s.stack.getLast? = some y by rw [List.getLast?_eq_getElem?, hm]; exact hy]
   have hbl : b < W.heap.size := hbb
   have hoff : off = 0 := by
    rcases h.md.st.form with ⟨e, _⟩ | ⟨g, cap, e, _⟩
    ·cases e
    ·injection e with e; injection e with e; injection e
   subst hoff
   have y0 : W.cell? ⟨b, m * 6, none⟩ = some (.int .i64 y.page) := by simpa [show glM.size = 6 from rfl] using hcs 0 _ rfl
   have y1 : W.cell? ⟨b, m * 6 + 1, none⟩ = some (.int .i64 y.lo) := by simpa [show glM.size = 6 from rfl] using hcs 1 _ rfl
   have y2 : W.cell? ⟨b, m * 6 + 2, none⟩ = some (.int .i64 y.hi) := by simpa [show glM.size = 6 from rfl] using hcs 2 _ rfl
   have y3 : W.cell? ⟨b, m * 6 + 3, none⟩ = some (.int .i64 y.size) := by simpa [show glM.size = 6 from rfl] using hcs 3 _ rfl
   have y4 : W.cell? ⟨b, m * 6 + 4, none⟩ = some (.int .i64 y.count) := by simpa [show glM.size = 6 from rfl] using hcs 4 _ rfl
   have y5 : W.cell? ⟨b, m * 6 + 5, none⟩ = some (.int .i64 y.report) := by simpa [show glM.size = 6 from rfl] using hcs 5 _ rfl
   clear hcs
   have hst := h.md.st
   rw [hm] at hst hA1 ⊢
   have hd' : (((m + 1 : Nat) : Int) == 0) = false := beq_false_of_ne (by omega)
   have hd2 : decide (((m + 1 : Nat) : Int) = 0) = false := decide_eq_false (by omega)
   have hw6 : IntKind.i64.wrap (((m + 1 : Nat) : Int) - 1) = (m : Int) := by rw [IntKind.wrap_i64]; omega
   go_wp2_with fail
   have h6 := ((((((h.setS 0 (.int .i64 y.page) (s' := { s with g := { s.g with page := y.page } }) rfl rfl rfl rfl rfl rfl).setS 1 (.int .i64 y.lo) (s' := { s with g := { s.g with page := y.page, lo := y.lo } }) rfl rfl rfl rfl rfl rfl).setS 2 (.int .i64 y.hi) (s' := { s with g := { s.g with page := y.page, lo := y.lo, hi := y.hi } }) rfl rfl rfl rfl rfl rfl).setS 3 (.int .i64 y.size) (s' := { s with g := { s.g with page := y.page, lo := y.lo, hi := y.hi, size := y.size } }) rfl rfl rfl rfl rfl rfl).setS 4 (.int .i64 y.count) (s' := { s with g := { s.g with page := y.page, lo := y.lo, hi := y.hi, size := y.size, count := y.count } }) rfl rfl rfl rfl rfl rfl).setS 5 (.int .i64 y.report) (s' := { s with g := { s.g with page := y.page, lo := y.lo, hi := y.hi, size := y.size, count := y.count, report := y.report } }) rfl rfl rfl rfl rfl rfl)
   have ht := h6.md.st.take (k := m) (by show m ≤ s.stack.length; omega)
   have hdl : s.stack.take m = s.stack.dropLast := by rw [List.dropLast_eq_take, hm]; rfl
   have h7 := h6.stTo (v' := .slice (some ⟨b, 0, none⟩) m c6) (l := s.stack.dropLast) grown_self (by rw [← hdl, List.length_take, Nat.min_eq_left (by omega)]; exact ht) (.inr (.inl rfl))
   refine hN _ _ _ vu vf vc _ (hF) (frame_end rfl rfl rfl rfl rfl rfl rfl rfl rfl rfl rfl rfl) (h7) ((((((FrM.setS 0 _).trans (FrM.setS 1 _)).trans (FrM.setS 2 _)).trans (FrM.setS 3 _)).trans (FrM.setS 4 _)).trans (FrM.setS 5 _))
 ·have hv' : decide (cc = 27) = false := decide_eq_false hv
  go_upto_region 54 with (fail)
  refine sw_54 hcc (frame_item rfl rfl rfl rfl rfl rfl rfl rfl rfl rfl rfl rfl rfl rfl rfl rfl) h hs hw hok hN hE hP ?_ _ ?_
  ·intro u hu
   rcases List.mem_cons.1 hu with rfl | hu
   ·exact hv
   ·exact hne u hu
  all_goals assumption
noncomputable def codeM45 : Code := (Try.f13.body.bind (findR 45)).getD .skip
set_option maxRecDepth 1000000 in
theorem sw_45 {Q : Exit → Act → World → Prop} {W : World} {base n c R M S X : Nat} {A : Option Addr} {vs vu vf vc : Value} {s : RS} {i : Int} {x : It} {a : Act} {cc : Int} (hcc : x.ty * 16 + x.tg = cc) (ha : Live a A n c R M S X vs vu s s i x cc) (h : Sit W base R M S X vs vu vf vc s x)
  (hs : s.Fine) (hw : x.wide = true) (hok : x.ok) (hN : OkN Q W base A n c R M S X s i x) (hE : OkE Q W R s x) (hP : ∀ c a d v w, Q (.panic c) (a.put d v) w → Q (.panic c) a w) (hne : ∀ v ∈ ([25, 24, 23, 22, 21, 20, 19, 18, 17, 16] : List Int), cc ≠ v) (K : Act → World → Prop) (hK : ∀ a w', Code.wp Try.prog (restC codeM45) Q a w' → K a w') : Code.wp Try.prog (headC codeM45) (Exit.then K Q) a W := by
 obtain ⟨us, rfl⟩ := ha
 conv => arg 2; whnf
 conv at hK => enter [a, w', 1, 2]; whnf
 dsimp only
 obtain ⟨w1, w2, w3, w4, _⟩ := wide_iff hw hok
 have hMl := heap_lt h.md.bm
 have hSl := heap_lt h.md.bs
 have hXl := heap_lt h.bx
 have hRl := heap_lt h.br
 have hMS := h.md.low.2.2
 obtain ⟨l1, l2, l3⟩ := h.low
 have r0 : W.cell? ⟨R, 0, none⟩ = some (.slice none 0 0) := cell_heap h.br (o := 0) rfl
 have r1 : W.cell? ⟨R, 1, none⟩ = some (.slice none 0 0) := cell_heap h.br (o := 1) rfl
 have r2 : W.cell? ⟨R, 2, none⟩ = some (.bool false) := cell_heap h.br (o := 2) rfl
 have g0 := frozen_heap h.br (o := 0)
 have g1 := frozen_heap h.br (o := 1)
 have g2 := frozen_heap h.br (o := 2)
 by_cases hv : cc = 26
 ·subst hv
  have h1 : x.ty = 1 := by omega
  have h2 : x.tg = 10 := by omega
  have hF : effS s x = if 8 ≤ s.stack.length then (3, s) else (0, { s with stack := s.stack ++ [s.g] }) := by simp [effS, h1, h2]
  have hdp := hs.depth
  obtain ⟨A6, c6, rfl, hA1, hA2⟩ := h.md.st.isSlice
  have p0 : W.cell? ⟨S, 0, none⟩ = some (.int .i64 s.g.page) := cell_heap h.md.bs (o := 0) rfl
  have f0 := frozen_heap h.md.bs (o := 0)
  have p1 : W.cell? ⟨S, 1, none⟩ = some (.int .i64 s.g.lo) := cell_heap h.md.bs (o := 1) rfl
  have f1 := frozen_heap h.md.bs (o := 1)
  have p2 : W.cell? ⟨S, 2, none⟩ = some (.int .i64 s.g.hi) := cell_heap h.md.bs (o := 2) rfl
  have f2 := frozen_heap h.md.bs (o := 2)
  have p3 : W.cell? ⟨S, 3, none⟩ = some (.int .i64 s.g.size) := cell_heap h.md.bs (o := 3) rfl
  have f3 := frozen_heap h.md.bs (o := 3)
  have p4 : W.cell? ⟨S, 4, none⟩ = some (.int .i64 s.g.count) := cell_heap h.md.bs (o := 4) rfl
  have f4 := frozen_heap h.md.bs (o := 4)
  have p5 : W.cell? ⟨S, 5, none⟩ = some (.int .i64 s.g.report) := cell_heap h.md.bs (o := 5) rfl
  have f5 := frozen_heap h.md.bs (o := 5)
  obtain ⟨i1, hi1, hz0, hz1, hz2⟩ := info_parts info78
  by_cases hd : 8 ≤ s.stack.length
  ·have hd' : decide ((s.stack.length : Int) = 8) = true := decide_eq_true (by omega)
   go_wp2_with fail
   refine hE _ _ 3 (by rw [hF, if_pos hd]) (by decide) rfl rfl rfl ?_ ?_
   ·exact (zeroed h.br).1
   ·exact (zeroed h.br).2
  ·have hd' : decide ((s.stack.length : Int) = 8) = false := decide_eq_false (by omega)
   go_wp2_with (at_builtin; go_must (refine wpList_append_el (T := glM) rfl (.tmp 127) (.tmp 129) 79 rfl base 78 i1 _ 48 Try.underlying79 hi1 hz0 hz1 hz2 rfl (by decide) _ s.stack.length s.stack (by rfl) (h.md.st.alloc _) W.heap.size _ _ s.g (by rfl) (heap_at _ rfl) ⟨rfl, trivial⟩ (by simp [Value.oneCell']) (by unfold maxLen; omega) (by omega) (Nat.le_trans h.hb (by simp)) ?_); intro g cap w4 hown4 hg4 hb4 hat4 hlt4)
   have hkW : Kept W (W.alloc (.cells #[.int .i64 s.g.page, .int .i64 s.g.lo, .int .i64 s.g.hi, .int .i64 s.g.size, .int .i64 s.g.count, .int .i64 s.g.report] 78)) := (Below.refl _ _).alloc (Nat.le_refl _) _
   refine hN _ _ _ vu vf vc _ (hF.trans (if_neg hd)) (frame_end rfl rfl rfl rfl rfl rfl rfl rfl rfl rfl rfl rfl) ((h.kept hkW).stTo (v' := .slice (some ⟨g, 0, none⟩) (s.stack.length + 1) cap) hg4 (by rw [List.length_append]; exact hown4) (hat4.elim (fun e => .inr (.inl e.symm)) (fun e => .inr (.inr (by rw [e]; rfl))))) ((FrM.kept hkW h.hb).trans (FrM.below hb4))
 ·have hv' : decide (cc = 26) = false := decide_eq_false hv
  go_upto_region 49 with (fail)
  refine sw_49 hcc (frame_item rfl rfl rfl rfl rfl rfl rfl rfl rfl rfl rfl rfl rfl rfl rfl rfl) h hs hw hok hN hE hP ?_ _ ?_
  ·intro u hu
   rcases List.mem_cons.1 hu with rfl | hu
   ·exact hv
   ·exact hne u hu
  all_goals assumption
end Go.Proofs.Ytegdigfcgeoboaa
