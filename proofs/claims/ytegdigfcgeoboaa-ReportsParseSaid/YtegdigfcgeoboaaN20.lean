/- The definition's field, its end. -/
import Derived.Test.YtegdigfcgeoboaaChecked
import Derived.Deep.RegionHeld3
import Derived.Deep.DrawnRows
import Derived.Deep.DeepCutAuto
import Derived.Deep.LoopGhost
import Derived.Outline
import Derived.Handy
import Derived.OwnWalk
import Derived.Test.YtegdigfcgeoboaaN2
import Derived.Test.YtegdigfcgeoboaaN19
import Derived.Test.YtegdigfcgeoboaaN6
set_option linter.unusedVariables false
set_option linter.unusedSimpArgs false
set_option linter.unusedSectionVars false
/- The definition's field: its frame and its box. Printed by gen_mf.py. -/
namespace Go.Proofs.Ytegdigfcgeoboaa
open Go.RowKit Go.Maps

/-- the frame at a field -/
def LiveF (a : Act) (A : Option Addr) (n c : Nat) (R M S X F : Nat) (vs vu : Value) (s : RS) (i : Int) (x : It) : Prop := ∃ us : Nat → Value, a = ⟨#[.slice A n c, us 1, .pointer (some ⟨R, 0, none⟩), us 3, .pointer (some ⟨M, 0, none⟩), .pointer (some ⟨S, 0, none⟩), vs, vu, .int .i64 (keptI s), .int .i64 s.opn, .int .i64 i, .pointer (some ⟨X, 0, none⟩), .int .i64 x.data, us 13, us 14, us 15, us 16, .pointer (some ⟨F, 0, none⟩), us 18, us 19, us 20, us 21, us 22, us 23, us 24, us 25, us 26, us 27, us 28, us 29, us 30, us 31, us 32, us 33, us 34, us 35, us 36, us 37, us 38, us 39, us 40, us 41, us 42, us 43, us 44, us 45, us 46, us 47, us 48, us 49, us 50, us 51, us 52, us 53, us 54, us 55, us 56, us 57, us 58, us 59, us 60, us 61, us 62, us 63, us 64, us 65, us 66, us 67, us 68, us 69, us 70, us 71, us 72, us 73, us 74, us 75, us 76, us 77, us 78, us 79, us 80, us 81, us 82, us 83, us 84, us 85, us 86, us 87, us 88, us 89, us 90, us 91, us 92, us 93, us 94, us 95, us 96, us 97, us 98, us 99, us 100, us 101, us 102, us 103, us 104, us 105, us 106, us 107, us 108, us 109, us 110, us 111, us 112, us 113, us 114, us 115, us 116, us 117, us 118, us 119, us 120, us 121, us 122, us 123, us 124, us 125, us 126, us 127, us 128, us 129, us 130, us 131, us 132, us 133, us 134, us 135, us 136, us 137, us 138, us 139, us 140, us 141, us 142, us 143, us 144, us 145, us 146, us 147, us 148, us 149, us 150, us 151, us 152, us 153, us 154, us 155, us 156, us 157, us 158, us 159, us 160, us 161, us 162, us 163, us 164, us 165, us 166, us 167, us 168, us 169, us 170, us 171, us 172, us 173, us 174, us 175, us 176, us 177, us 178, us 179, us 180, us 181, us 182, us 183, us 184, us 185, us 186, us 187, us 188, us 189, us 190, us 191, us 192, us 193, us 194, us 195, us 196, us 197, us 198, us 199, us 200, us 201, us 202, us 203, us 204, us 205, us 206, us 207, us 208, us 209, us 210, us 211, us 212, us 213, us 214, us 215, us 216, us 217, us 218, us 219, us 220, us 221, us 222, us 223, us 224, us 225, us 226, us 227, us 228, us 229, us 230, us 231, us 232, us 233, us 234, us 235, us 236, us 237, us 238, us 239, us 240, us 241, us 242, us 243, us 244, us 245, us 246, us 247, us 248, us 249, us 250, us 251, us 252, us 253, us 254, us 255, us 256, us 257, us 258, us 259, us 260, us 261, us 262, us 263, us 264, us 265, us 266, us 267, us 268, us 269, us 270, us 271, us 272, us 273, us 274, us 275, us 276, us 277, us 278, us 279, us 280, us 281, us 282, us 283, us 284, us 285, us 286, us 287, us 288, us 289, us 290, us 291, us 292, us 293, us 294, us 295, us 296, us 297, us 298, us 299, us 300, us 301, us 302, us 303, us 304, us 305, us 306, us 307, us 308, us 309, us 310, us 311, us 312, us 313, us 314, us 315, us 316, us 317, us 318, us 319, us 320, us 321, us 322, us 323, us 324, us 325, us 326, us 327, us 328, us 329, us 330, us 331, us 332, us 333, us 334, us 335, us 336, us 337, us 338, us 339, us 340, us 341, us 342, us 343, us 344, us 345, us 346, us 347, us 348, us 349, us 350, us 351, us 352, us 353, us 354, us 355, us 356, us 357, us 358, us 359, us 360, us 361, us 362, us 363, us 364, us 365, us 366, us 367, us 368, us 369, us 370, us 371, us 372, us 373, us 374, us 375, us 376, us 377, us 378, us 379, us 380, us 381, us 382, us 383, us 384, us 385, us 386, us 387, us 388, us 389, us 390, us 391, us 392, us 393, us 394, us 395, us 396, us 397, us 398, us 399, us 400, us 401, us 402, us 403, us 404, us 405, us 406, us 407, us 408, us 409, us 410, us 411, us 412, us 413, us 414, us 415, us 416, us 417, us 418, us 419, us 420, us 421, us 422, us 423, us 424, us 425, us 426, us 427, us 428, us 429, us 430, us 431, us 432, us 433, us 434, us 435, us 436, us 437, us 438, us 439, us 440, us 441, us 442, us 443, us 444, us 445], []⟩
def LiveG (a : Act) (A : Option Addr) (n c : Nat) (R M S X F : Nat) (vs vu : Value) (s : RS) (i : Int) (x : It) (least most : Int) : Prop := ∃ us : Nat → Value, a = ⟨#[.slice A n c, us 1, .pointer (some ⟨R, 0, none⟩), us 3, .pointer (some ⟨M, 0, none⟩), .pointer (some ⟨S, 0, none⟩), vs, vu, .int .i64 (keptI s), .int .i64 s.opn, .int .i64 i, .pointer (some ⟨X, 0, none⟩), .int .i64 x.data, us 13, us 14, us 15, us 16, .pointer (some ⟨F, 0, none⟩), us 18, .int .i64 least, .int .i64 most, us 21, us 22, us 23, us 24, us 25, us 26, us 27, us 28, us 29, us 30, us 31, us 32, us 33, us 34, us 35, us 36, us 37, us 38, us 39, us 40, us 41, us 42, us 43, us 44, us 45, us 46, us 47, us 48, us 49, us 50, us 51, us 52, us 53, us 54, us 55, us 56, us 57, us 58, us 59, us 60, us 61, us 62, us 63, us 64, us 65, us 66, us 67, us 68, us 69, us 70, us 71, us 72, us 73, us 74, us 75, us 76, us 77, us 78, us 79, us 80, us 81, us 82, us 83, us 84, us 85, us 86, us 87, us 88, us 89, us 90, us 91, us 92, us 93, us 94, us 95, us 96, us 97, us 98, us 99, us 100, us 101, us 102, us 103, us 104, us 105, us 106, us 107, us 108, us 109, us 110, us 111, us 112, us 113, us 114, us 115, us 116, us 117, us 118, us 119, us 120, us 121, us 122, us 123, us 124, us 125, us 126, us 127, us 128, us 129, us 130, us 131, us 132, us 133, us 134, us 135, us 136, us 137, us 138, us 139, us 140, us 141, us 142, us 143, us 144, us 145, us 146, us 147, us 148, us 149, us 150, us 151, us 152, us 153, us 154, us 155, us 156, us 157, us 158, us 159, us 160, us 161, us 162, us 163, us 164, us 165, us 166, us 167, us 168, us 169, us 170, us 171, us 172, us 173, us 174, us 175, us 176, us 177, us 178, us 179, us 180, us 181, us 182, us 183, us 184, us 185, us 186, us 187, us 188, us 189, us 190, us 191, us 192, us 193, us 194, us 195, us 196, us 197, us 198, us 199, us 200, us 201, us 202, us 203, us 204, us 205, us 206, us 207, us 208, us 209, us 210, us 211, us 212, us 213, us 214, us 215, us 216, us 217, us 218, us 219, us 220, us 221, us 222, us 223, us 224, us 225, us 226, us 227, us 228, us 229, us 230, us 231, us 232, us 233, us 234, us 235, us 236, us 237, us 238, us 239, us 240, us 241, us 242, us 243, us 244, us 245, us 246, us 247, us 248, us 249, us 250, us 251, us 252, us 253, us 254, us 255, us 256, us 257, us 258, us 259, us 260, us 261, us 262, us 263, us 264, us 265, us 266, us 267, us 268, us 269, us 270, us 271, us 272, us 273, us 274, us 275, us 276, us 277, us 278, us 279, us 280, us 281, us 282, us 283, us 284, us 285, us 286, us 287, us 288, us 289, us 290, us 291, us 292, us 293, us 294, us 295, us 296, us 297, us 298, us 299, us 300, us 301, us 302, us 303, us 304, us 305, us 306, us 307, us 308, us 309, us 310, us 311, us 312, us 313, us 314, us 315, us 316, us 317, us 318, us 319, us 320, us 321, us 322, us 323, us 324, us 325, us 326, us 327, us 328, us 329, us 330, us 331, us 332, us 333, us 334, us 335, us 336, us 337, us 338, us 339, us 340, us 341, us 342, us 343, us 344, us 345, us 346, us 347, us 348, us 349, us 350, us 351, us 352, us 353, us 354, us 355, us 356, us 357, us 358, us 359, us 360, us 361, us 362, us 363, us 364, us 365, us 366, us 367, us 368, us 369, us 370, us 371, us 372, us 373, us 374, us 375, us 376, us 377, us 378, us 379, us 380, us 381, us 382, us 383, us 384, us 385, us 386, us 387, us 388, us 389, us 390, us 391, us 392, us 393, us 394, us 395, us 396, us 397, us 398, us 399, us 400, us 401, us 402, us 403, us 404, us 405, us 406, us 407, us 408, us 409, us 410, us 411, us 412, us 413, us 414, us 415, us 416, us 417, us 418, us 419, us 420, us 421, us 422, us 423, us 424, us 425, us 426, us 427, us 428, us 429, us 430, us 431, us 432, us 433, us 434, us 435, us 436, us 437, us 438, us 439, us 440, us 441, us 442, us 443, us 444, us 445], []⟩
/-- the field's box -/
structure Bxd (W W1 : World) (F : Nat) (A' : Option Addr) (cap : Nat) (s : RS) (b1 b2 b4 : Bool) (k pos sz ct : Int) : Prop where
  kept : Kept W W1
  box : W1.heap[F]? = some (.cells #[.int .u8 k, .int .u8 s.g.report, .int .i64 s.opn, .slice A' s.usages.length cap, .int .i64 s.g.lo, .int .i64 s.g.hi, .int .i64 sz, .int .i64 ct, .int .i64 pos, .bool b1, .bool b2, .bool (decide (s.g.lo < 0)), .bool b4] 59 (0, 0))
  new : W.heap.size ≤ F
  us : Own u32T 27 W.heap.size W1 (.slice A' s.usages.length cap) s.usages.length s.usages
/-- what the flags say -/
def Flags (x : It) (b1 b2 b4 : Bool) : Prop := b1 = (x.data % 2 == 1) ∧ b2 = (x.data / 2 % 2 == 0) ∧ b4 = (x.data / 4 % 2 == 1)
theorem own_not59 {α : Type} {W : World} {t : Ty α} {e : TypeId} {base n : Nat} {v : Value} {xs : List α} (ho : Own t e base W v n xs) {k : Nat} {cs : Array Value} {t2 : TypeId} (hk : W.heap[k]? = some (.cells cs t2 (0, 0))) (he : e ≠ t2) : v.ownBlock ≠ some k := own_not29 ho hk he
/-- the field that is built, as an element of the row of fields -/
theorem fd_rel {W W1 W4 : World} {base R M S X F cap : Nat} {A' : Option Addr} {vs vu vf vc : Value} {s : RS} {x : It} {b1 b2 b4 : Bool} {k pos sz ct : Int} {fd : Fd} {cs : List Value} (hF : fd.cellsC A' cap = cs)
    (h : Sit W base R M S X vs vu vf vc s x) (hB : Bxd W W1 F A' cap s b1 b2 b4 k pos sz ct) (hk : Kept W1 W4) (hu : fd.usages = s.usages) :
    (fdM.on (fun b => BusyM M S vs vu vf vc b ∧ b < W4.heap.size)).rel W4 (apart W4 vf) fd cs := by
  obtain ⟨A, c, e, hc1, hc2⟩ := hB.us.isSlice
  injection e with e1 e2 e3
  subst e1 e3
  have hm := heap_lt h.md.bm
  have hs := heap_lt h.md.bs
  have hS : Sl u32T W1 (fun g => W.heap.size ≤ g ∧ g < W1.heap.size) A' s.usages.length s.usages := hB.us.sl_of _ (fun g h1 h2 => ⟨h1, h2⟩) (fun _ _ hr => hr)
  refine ⟨A', cap, hF.symm, by rw [hu]; exact hc1, hc2, ?_⟩
  rw [hu]
  refine hS.keep (fun g hg => ?_) (fun b o hb => hk.cell (p := ⟨b, o, none⟩) hb.2)
  have hg1 := hg.1
  have hg2 := Nat.lt_of_lt_of_le hg.2 hk.size
  exact ⟨⟨hg2, fun e => absurd (h.md.fs.lt e).2 (by omega)⟩, ⟨by omega, by omega, fun e => absurd (h.md.st.lt e).2 (by omega), fun e => absurd (h.md.us.lt e).2 (by omega), fun e => absurd (h.md.fs.lt e).2 (by omega), fun e => absurd (h.md.cs.lt e).2 (by omega)⟩, hg2⟩
section
variable {W W1 W2 : World} {F cap : Nat} {A' : Option Addr} {s : RS} {b1 b2 b4 : Bool} {k pos sz ct : Int}
theorem Bxd.on (h : Bxd W W1 F A' cap s b1 b2 b4 k pos sz ct) (hk : Kept W1 W2) : Bxd W W2 F A' cap s b1 b2 b4 k pos sz ct := ⟨h.kept.trans' hk, heap_kept hk h.box, h.new, h.us.kept hk⟩
theorem Bxd.set (h : Bxd W W1 F A' cap s b1 b2 b4 k pos sz ct) (i : Nat) (u : Value) {k' pos' sz' ct' : Int} (hc : (#[.int .u8 k, .int .u8 s.g.report, .int .i64 s.opn, .slice A' s.usages.length cap, .int .i64 s.g.lo, .int .i64 s.g.hi, .int .i64 sz, .int .i64 ct, .int .i64 pos, .bool b1, .bool b2, .bool (decide (s.g.lo < 0)), .bool b4]).setIfInBounds i u = #[.int .u8 k', .int .u8 s.g.report, .int .i64 s.opn, .slice A' s.usages.length cap, .int .i64 s.g.lo, .int .i64 s.g.hi, .int .i64 sz', .int .i64 ct', .int .i64 pos', .bool b1, .bool b2, .bool (decide (s.g.lo < 0)), .bool b4]) : Bxd W (W1.setCell ⟨F, i, none⟩ u) F A' cap s b1 b2 b4 k' pos' sz' ct' := by
  have hg : W1.grownBy (W1.setCell ⟨F, i, none⟩ u) (some F) := grown_at grown_self i u
  exact ⟨h.kept.trans ((Below.refl _ _).setCell (p := ⟨F, i, none⟩) h.new _), by rw [← hc]; exact heap_store h.box u, h.new, h.us.grownF flat_u32 hg (.inr (own_not59 h.us h.box (by decide)))⟩
end
set_option maxRecDepth 100000 in
theorem frame_f {a : Act} {v0 v2 v4 v5 v6 v7 v8 v9 v10 v11 v12 v17 : Value} (hs : a.tmps.size = 446) (hm : a.defers = []) (h0 : a.tmps[0]? = some v0) (h2 : a.tmps[2]? = some v2) (h4 : a.tmps[4]? = some v4) (h5 : a.tmps[5]? = some v5) (h6 : a.tmps[6]? = some v6) (h7 : a.tmps[7]? = some v7) (h8 : a.tmps[8]? = some v8) (h9 : a.tmps[9]? = some v9) (h10 : a.tmps[10]? = some v10) (h11 : a.tmps[11]? = some v11) (h12 : a.tmps[12]? = some v12) (h17 : a.tmps[17]? = some v17) : ∃ us : Nat → Value, a = ⟨#[v0, us 1, v2, us 3, v4, v5, v6, v7, v8, v9, v10, v11, v12, us 13, us 14, us 15, us 16, v17, us 18, us 19, us 20, us 21, us 22, us 23, us 24, us 25, us 26, us 27, us 28, us 29, us 30, us 31, us 32, us 33, us 34, us 35, us 36, us 37, us 38, us 39, us 40, us 41, us 42, us 43, us 44, us 45, us 46, us 47, us 48, us 49, us 50, us 51, us 52, us 53, us 54, us 55, us 56, us 57, us 58, us 59, us 60, us 61, us 62, us 63, us 64, us 65, us 66, us 67, us 68, us 69, us 70, us 71, us 72, us 73, us 74, us 75, us 76, us 77, us 78, us 79, us 80, us 81, us 82, us 83, us 84, us 85, us 86, us 87, us 88, us 89, us 90, us 91, us 92, us 93, us 94, us 95, us 96, us 97, us 98, us 99, us 100, us 101, us 102, us 103, us 104, us 105, us 106, us 107, us 108, us 109, us 110, us 111, us 112, us 113, us 114, us 115, us 116, us 117, us 118, us 119, us 120, us 121, us 122, us 123, us 124, us 125, us 126, us 127, us 128, us 129, us 130, us 131, us 132, us 133, us 134, us 135, us 136, us 137, us 138, us 139, us 140, us 141, us 142, us 143, us 144, us 145, us 146, us 147, us 148, us 149, us 150, us 151, us 152, us 153, us 154, us 155, us 156, us 157, us 158, us 159, us 160, us 161, us 162, us 163, us 164, us 165, us 166, us 167, us 168, us 169, us 170, us 171, us 172, us 173, us 174, us 175, us 176, us 177, us 178, us 179, us 180, us 181, us 182, us 183, us 184, us 185, us 186, us 187, us 188, us 189, us 190, us 191, us 192, us 193, us 194, us 195, us 196, us 197, us 198, us 199, us 200, us 201, us 202, us 203, us 204, us 205, us 206, us 207, us 208, us 209, us 210, us 211, us 212, us 213, us 214, us 215, us 216, us 217, us 218, us 219, us 220, us 221, us 222, us 223, us 224, us 225, us 226, us 227, us 228, us 229, us 230, us 231, us 232, us 233, us 234, us 235, us 236, us 237, us 238, us 239, us 240, us 241, us 242, us 243, us 244, us 245, us 246, us 247, us 248, us 249, us 250, us 251, us 252, us 253, us 254, us 255, us 256, us 257, us 258, us 259, us 260, us 261, us 262, us 263, us 264, us 265, us 266, us 267, us 268, us 269, us 270, us 271, us 272, us 273, us 274, us 275, us 276, us 277, us 278, us 279, us 280, us 281, us 282, us 283, us 284, us 285, us 286, us 287, us 288, us 289, us 290, us 291, us 292, us 293, us 294, us 295, us 296, us 297, us 298, us 299, us 300, us 301, us 302, us 303, us 304, us 305, us 306, us 307, us 308, us 309, us 310, us 311, us 312, us 313, us 314, us 315, us 316, us 317, us 318, us 319, us 320, us 321, us 322, us 323, us 324, us 325, us 326, us 327, us 328, us 329, us 330, us 331, us 332, us 333, us 334, us 335, us 336, us 337, us 338, us 339, us 340, us 341, us 342, us 343, us 344, us 345, us 346, us 347, us 348, us 349, us 350, us 351, us 352, us 353, us 354, us 355, us 356, us 357, us 358, us 359, us 360, us 361, us 362, us 363, us 364, us 365, us 366, us 367, us 368, us 369, us 370, us 371, us 372, us 373, us 374, us 375, us 376, us 377, us 378, us 379, us 380, us 381, us 382, us 383, us 384, us 385, us 386, us 387, us 388, us 389, us 390, us 391, us 392, us 393, us 394, us 395, us 396, us 397, us 398, us 399, us 400, us 401, us 402, us 403, us 404, us 405, us 406, us 407, us 408, us 409, us 410, us 411, us 412, us 413, us 414, us 415, us 416, us 417, us 418, us 419, us 420, us 421, us 422, us 423, us 424, us 425, us 426, us 427, us 428, us 429, us 430, us 431, us 432, us 433, us 434, us 435, us 436, us 437, us 438, us 439, us 440, us 441, us 442, us 443, us 444, us 445], []⟩ := by
  obtain ⟨⟨l⟩, m⟩ := a
  have hm' : m = [] := hm
  subst hm'
  obtain ⟨f, hf, hl⟩ := list_fn l 446 hs
  have e0 := hf 0 (by omega)
  have k0 : l[0]? = some v0 := by rw [← h0]; exact List.getElem?_toArray.symm
  rw [k0] at e0
  injection e0 with e0
  have e2 := hf 2 (by omega)
  have k2 : l[2]? = some v2 := by rw [← h2]; exact List.getElem?_toArray.symm
  rw [k2] at e2
  injection e2 with e2
  have e4 := hf 4 (by omega)
  have k4 : l[4]? = some v4 := by rw [← h4]; exact List.getElem?_toArray.symm
  rw [k4] at e4
  injection e4 with e4
  have e5 := hf 5 (by omega)
  have k5 : l[5]? = some v5 := by rw [← h5]; exact List.getElem?_toArray.symm
  rw [k5] at e5
  injection e5 with e5
  have e6 := hf 6 (by omega)
  have k6 : l[6]? = some v6 := by rw [← h6]; exact List.getElem?_toArray.symm
  rw [k6] at e6
  injection e6 with e6
  have e7 := hf 7 (by omega)
  have k7 : l[7]? = some v7 := by rw [← h7]; exact List.getElem?_toArray.symm
  rw [k7] at e7
  injection e7 with e7
  have e8 := hf 8 (by omega)
  have k8 : l[8]? = some v8 := by rw [← h8]; exact List.getElem?_toArray.symm
  rw [k8] at e8
  injection e8 with e8
  have e9 := hf 9 (by omega)
  have k9 : l[9]? = some v9 := by rw [← h9]; exact List.getElem?_toArray.symm
  rw [k9] at e9
  injection e9 with e9
  have e10 := hf 10 (by omega)
  have k10 : l[10]? = some v10 := by rw [← h10]; exact List.getElem?_toArray.symm
  rw [k10] at e10
  injection e10 with e10
  have e11 := hf 11 (by omega)
  have k11 : l[11]? = some v11 := by rw [← h11]; exact List.getElem?_toArray.symm
  rw [k11] at e11
  injection e11 with e11
  have e12 := hf 12 (by omega)
  have k12 : l[12]? = some v12 := by rw [← h12]; exact List.getElem?_toArray.symm
  rw [k12] at e12
  injection e12 with e12
  have e17 := hf 17 (by omega)
  have k17 : l[17]? = some v17 := by rw [← h17]; exact List.getElem?_toArray.symm
  rw [k17] at e17
  injection e17 with e17

  clear h0 k0
  subst e0
  clear h2 k2
  subst e2
  clear h4 k4
  subst e4
  clear h5 k5
  subst e5
  clear h6 k6
  subst e6
  clear h7 k7
  subst e7
  clear h8 k8
  subst e8
  clear h9 k9
  subst e9
  clear h10 k10
  subst e10
  clear h11 k11
  subst e11
  clear h12 k12
  subst e12
  clear h17 k17
  subst e17

  exact ⟨f, by rw [hl]; rfl⟩
set_option maxRecDepth 100000 in
theorem frame_g {a : Act} {v0 v2 v4 v5 v6 v7 v8 v9 v10 v11 v12 v17 v19 v20 : Value} (hs : a.tmps.size = 446) (hm : a.defers = []) (h0 : a.tmps[0]? = some v0) (h2 : a.tmps[2]? = some v2) (h4 : a.tmps[4]? = some v4) (h5 : a.tmps[5]? = some v5) (h6 : a.tmps[6]? = some v6) (h7 : a.tmps[7]? = some v7) (h8 : a.tmps[8]? = some v8) (h9 : a.tmps[9]? = some v9) (h10 : a.tmps[10]? = some v10) (h11 : a.tmps[11]? = some v11) (h12 : a.tmps[12]? = some v12) (h17 : a.tmps[17]? = some v17) (h19 : a.tmps[19]? = some v19) (h20 : a.tmps[20]? = some v20) : ∃ us : Nat → Value, a = ⟨#[v0, us 1, v2, us 3, v4, v5, v6, v7, v8, v9, v10, v11, v12, us 13, us 14, us 15, us 16, v17, us 18, v19, v20, us 21, us 22, us 23, us 24, us 25, us 26, us 27, us 28, us 29, us 30, us 31, us 32, us 33, us 34, us 35, us 36, us 37, us 38, us 39, us 40, us 41, us 42, us 43, us 44, us 45, us 46, us 47, us 48, us 49, us 50, us 51, us 52, us 53, us 54, us 55, us 56, us 57, us 58, us 59, us 60, us 61, us 62, us 63, us 64, us 65, us 66, us 67, us 68, us 69, us 70, us 71, us 72, us 73, us 74, us 75, us 76, us 77, us 78, us 79, us 80, us 81, us 82, us 83, us 84, us 85, us 86, us 87, us 88, us 89, us 90, us 91, us 92, us 93, us 94, us 95, us 96, us 97, us 98, us 99, us 100, us 101, us 102, us 103, us 104, us 105, us 106, us 107, us 108, us 109, us 110, us 111, us 112, us 113, us 114, us 115, us 116, us 117, us 118, us 119, us 120, us 121, us 122, us 123, us 124, us 125, us 126, us 127, us 128, us 129, us 130, us 131, us 132, us 133, us 134, us 135, us 136, us 137, us 138, us 139, us 140, us 141, us 142, us 143, us 144, us 145, us 146, us 147, us 148, us 149, us 150, us 151, us 152, us 153, us 154, us 155, us 156, us 157, us 158, us 159, us 160, us 161, us 162, us 163, us 164, us 165, us 166, us 167, us 168, us 169, us 170, us 171, us 172, us 173, us 174, us 175, us 176, us 177, us 178, us 179, us 180, us 181, us 182, us 183, us 184, us 185, us 186, us 187, us 188, us 189, us 190, us 191, us 192, us 193, us 194, us 195, us 196, us 197, us 198, us 199, us 200, us 201, us 202, us 203, us 204, us 205, us 206, us 207, us 208, us 209, us 210, us 211, us 212, us 213, us 214, us 215, us 216, us 217, us 218, us 219, us 220, us 221, us 222, us 223, us 224, us 225, us 226, us 227, us 228, us 229, us 230, us 231, us 232, us 233, us 234, us 235, us 236, us 237, us 238, us 239, us 240, us 241, us 242, us 243, us 244, us 245, us 246, us 247, us 248, us 249, us 250, us 251, us 252, us 253, us 254, us 255, us 256, us 257, us 258, us 259, us 260, us 261, us 262, us 263, us 264, us 265, us 266, us 267, us 268, us 269, us 270, us 271, us 272, us 273, us 274, us 275, us 276, us 277, us 278, us 279, us 280, us 281, us 282, us 283, us 284, us 285, us 286, us 287, us 288, us 289, us 290, us 291, us 292, us 293, us 294, us 295, us 296, us 297, us 298, us 299, us 300, us 301, us 302, us 303, us 304, us 305, us 306, us 307, us 308, us 309, us 310, us 311, us 312, us 313, us 314, us 315, us 316, us 317, us 318, us 319, us 320, us 321, us 322, us 323, us 324, us 325, us 326, us 327, us 328, us 329, us 330, us 331, us 332, us 333, us 334, us 335, us 336, us 337, us 338, us 339, us 340, us 341, us 342, us 343, us 344, us 345, us 346, us 347, us 348, us 349, us 350, us 351, us 352, us 353, us 354, us 355, us 356, us 357, us 358, us 359, us 360, us 361, us 362, us 363, us 364, us 365, us 366, us 367, us 368, us 369, us 370, us 371, us 372, us 373, us 374, us 375, us 376, us 377, us 378, us 379, us 380, us 381, us 382, us 383, us 384, us 385, us 386, us 387, us 388, us 389, us 390, us 391, us 392, us 393, us 394, us 395, us 396, us 397, us 398, us 399, us 400, us 401, us 402, us 403, us 404, us 405, us 406, us 407, us 408, us 409, us 410, us 411, us 412, us 413, us 414, us 415, us 416, us 417, us 418, us 419, us 420, us 421, us 422, us 423, us 424, us 425, us 426, us 427, us 428, us 429, us 430, us 431, us 432, us 433, us 434, us 435, us 436, us 437, us 438, us 439, us 440, us 441, us 442, us 443, us 444, us 445], []⟩ := by
  obtain ⟨⟨l⟩, m⟩ := a
  have hm' : m = [] := hm
  subst hm'
  obtain ⟨f, hf, hl⟩ := list_fn l 446 hs
  have e0 := hf 0 (by omega)
  have k0 : l[0]? = some v0 := by rw [← h0]; exact List.getElem?_toArray.symm
  rw [k0] at e0
  injection e0 with e0
  have e2 := hf 2 (by omega)
  have k2 : l[2]? = some v2 := by rw [← h2]; exact List.getElem?_toArray.symm
  rw [k2] at e2
  injection e2 with e2
  have e4 := hf 4 (by omega)
  have k4 : l[4]? = some v4 := by rw [← h4]; exact List.getElem?_toArray.symm
  rw [k4] at e4
  injection e4 with e4
  have e5 := hf 5 (by omega)
  have k5 : l[5]? = some v5 := by rw [← h5]; exact List.getElem?_toArray.symm
  rw [k5] at e5
  injection e5 with e5
  have e6 := hf 6 (by omega)
  have k6 : l[6]? = some v6 := by rw [← h6]; exact List.getElem?_toArray.symm
  rw [k6] at e6
  injection e6 with e6
  have e7 := hf 7 (by omega)
  have k7 : l[7]? = some v7 := by rw [← h7]; exact List.getElem?_toArray.symm
  rw [k7] at e7
  injection e7 with e7
  have e8 := hf 8 (by omega)
  have k8 : l[8]? = some v8 := by rw [← h8]; exact List.getElem?_toArray.symm
  rw [k8] at e8
  injection e8 with e8
  have e9 := hf 9 (by omega)
  have k9 : l[9]? = some v9 := by rw [← h9]; exact List.getElem?_toArray.symm
  rw [k9] at e9
  injection e9 with e9
  have e10 := hf 10 (by omega)
  have k10 : l[10]? = some v10 := by rw [← h10]; exact List.getElem?_toArray.symm
  rw [k10] at e10
  injection e10 with e10
  have e11 := hf 11 (by omega)
  have k11 : l[11]? = some v11 := by rw [← h11]; exact List.getElem?_toArray.symm
  rw [k11] at e11
  injection e11 with e11
  have e12 := hf 12 (by omega)
  have k12 : l[12]? = some v12 := by rw [← h12]; exact List.getElem?_toArray.symm
  rw [k12] at e12
  injection e12 with e12
  have e17 := hf 17 (by omega)
  have k17 : l[17]? = some v17 := by rw [← h17]; exact List.getElem?_toArray.symm
  rw [k17] at e17
  injection e17 with e17
  have e19 := hf 19 (by omega)
  have k19 : l[19]? = some v19 := by rw [← h19]; exact List.getElem?_toArray.symm
  rw [k19] at e19
  injection e19 with e19
  have e20 := hf 20 (by omega)
  have k20 : l[20]? = some v20 := by rw [← h20]; exact List.getElem?_toArray.symm
  rw [k20] at e20
  injection e20 with e20

  clear h0 k0
  subst e0
  clear h2 k2
  subst e2
  clear h4 k4
  subst e4
  clear h5 k5
  subst e5
  clear h6 k6
  subst e6
  clear h7 k7
  subst e7
  clear h8 k8
  subst e8
  clear h9 k9
  subst e9
  clear h10 k10
  subst e10
  clear h11 k11
  subst e11
  clear h12 k12
  subst e12
  clear h17 k17
  subst e17
  clear h19 k19
  subst e19
  clear h20 k20
  subst e20

  exact ⟨f, by rw [hl]; rfl⟩
end Go.Proofs.Ytegdigfcgeoboaa
/- The definition's field, from region 104 on. Printed by gen_m.py. -/
namespace Go.Proofs.Ytegdigfcgeoboaa
open Go.RowKit Go.Maps
attribute [local go_sem ↓] Go.wp_at_zero Go.wp_at_succ

noncomputable def code101 : Code := (Try.f13.body.bind (findR 101)).getD .skip
noncomputable def code104 : Code := restC (restC code101)
set_option maxRecDepth 1000000 in
set_option maxHeartbeats 8000000 in
theorem fld_104 {Q : Exit → Act → World → Prop} {W W1 : World} {base n c R M S X F cap : Nat} {A A' : Option Addr} {vs vu vf vc : Value} {s : RS} {i : Int} {x : It} {a : Act} {b1 b2 b4 : Bool} (k least most : Int) (ha : LiveG a A n c R M S X F vs vu s i x least most) (h : Sit W base R M S X vs vu vf vc s x) (hB : Bxd W W1 F A' cap s b1 b2 b4 k (bitsS s.fields k s.g.report) s.g.size s.g.count) (hs : s.Fine) (hw : x.wide = true) (hok : x.ok)
    (hfl : Flags x b1 b2 b4) (heff : effS s x = fieldS s k x) (ho : ¬ s.opn < 0) (hsz : ¬ (s.g.size < 1 ∨ 32 < s.g.size ∨ s.g.count < 1 ∨ 256 < s.g.count ∨ 4096 < bitsS s.fields k (s.g.report % 256) + s.g.size * s.g.count ∨ 256 ≤ s.fields.length))
    (hfit : fitsS s.g.lo s.g.hi s.g.size.toNat = (decide (s.g.lo ≤ s.g.hi) && decide (least ≤ s.g.lo) && decide (s.g.hi ≤ most)))
    (hN : OkN Q W base A n c R M S X s i x) (hE : OkE Q W R s x) (K K2 : Act → World → Prop) (hK : ∀ a w', Code.wp Try.prog (restC (headC code104)) (Exit.then K2 Q) a w' → K a w') (hK2 : ∀ a w', Code.wp Try.prog (restC code104) Q a w' → K2 a w') : Code.wp Try.prog (headC (headC code104)) (Exit.then K (Exit.then K2 Q)) a W1 := by
  obtain ⟨us, rfl⟩ := ha
  conv => arg 2; whnf
  conv at hK => enter [a, w', 1, 2]; whnf
  conv at hK2 => enter [a, w', 1, 2]; whnf
  dsimp only
  have hrr : s.g.report % 256 = s.g.report := by have := hs.report; omega
  have hE' : effS s x = if ¬ (x.data % 2 = 1) ∧ (fitsS s.g.lo s.g.hi s.g.size.toNat = false ∨ s.usages = []) then (4, s) else (0, { s with fields := s.fields ++ [fieldOf s k x] }) := by
    rw [heff]; unfold fieldS; rw [if_neg ho, if_neg hsz]
  have h' := h.kept hB.kept
  have hMl := heap_lt h'.md.bm
  have hSl := heap_lt h'.md.bs
  have hXl := heap_lt h'.bx
  have hRl := heap_lt h'.br
  have hFl := heap_lt hB.box
  have hMS := h.md.low.2.2
  obtain ⟨l1, l2, l3⟩ := h.low
  have r0 : W1.cell? ⟨R, 0, none⟩ = some (.slice none 0 0) := cell_heap h'.br (o := 0) rfl
  have r1 : W1.cell? ⟨R, 1, none⟩ = some (.slice none 0 0) := cell_heap h'.br (o := 1) rfl
  have r2 : W1.cell? ⟨R, 2, none⟩ = some (.bool false) := cell_heap h'.br (o := 2) rfl
  have g0 := frozen_heap h'.br (o := 0)
  have g1 := frozen_heap h'.br (o := 1)
  have g2 := frozen_heap h'.br (o := 2)
  have p1 : W1.cell? ⟨S, 1, none⟩ = some (.int .i64 s.g.lo) := cell_heap h'.md.bs (o := 1) rfl
  have p2 : W1.cell? ⟨S, 2, none⟩ = some (.int .i64 s.g.hi) := cell_heap h'.md.bs (o := 2) rfl
  have m0 : W1.cell? ⟨M, 0, none⟩ = some vf := cell_heap h'.md.bm (o := 0) rfl
  have e0 := cell_heap hB.box (o := 0) rfl
  have e1 := cell_heap hB.box (o := 1) rfl
  have e2 := cell_heap hB.box (o := 2) rfl
  have e3 := cell_heap hB.box (o := 3) rfl
  have e4 := cell_heap hB.box (o := 4) rfl
  have e5 := cell_heap hB.box (o := 5) rfl
  have e6 := cell_heap hB.box (o := 6) rfl
  have e7 := cell_heap hB.box (o := 7) rfl
  have e8 := cell_heap hB.box (o := 8) rfl
  have e9 := cell_heap hB.box (o := 9) rfl
  have e10 := cell_heap hB.box (o := 10) rfl
  have e11 := cell_heap hB.box (o := 11) rfl
  have e12 := cell_heap hB.box (o := 12) rfl
  obtain ⟨A7, c7, rfl, hB1, hB2⟩ := h.md.us.isSlice
  obtain ⟨A5, c5, rfl, hD1, hD2⟩ := h.md.fs.isSlice
  have hBn : R < W.heap.size := by have := h.hb; omega
  have hFc : (fieldOf s k x).cellsC A' cap = [.int .u8 k, .int .u8 s.g.report, .int .i64 s.opn, .slice A' s.usages.length cap, .int .i64 s.g.lo, .int .i64 s.g.hi, .int .i64 s.g.size, .int .i64 s.g.count, .int .i64 (bitsS s.fields k s.g.report), .bool b1, .bool b2, .bool (decide (s.g.lo < 0)), .bool b4] := by
    obtain ⟨f1, f2, f3⟩ := hfl
    simp only [Fd.cellsC, fieldOf, hrr, ← f1, ← f2, ← f3]
  cases b1 with
  | true =>
    have hF : effS s x = (0, { s with fields := s.fields ++ [fieldOf s k x] }) := by rw [hE', if_neg (fun h => h.1 (by have := hfl.1; simpa using this.symm))]
    have hkW : Kept W1 (W1.alloc (.cells #[.int .u8 k, .int .u8 s.g.report, .int .i64 s.opn, .slice A' s.usages.length cap, .int .i64 s.g.lo, .int .i64 s.g.hi, .int .i64 s.g.size, .int .i64 s.g.count, .int .i64 (bitsS s.fields k s.g.report), .bool true, .bool b2, .bool (decide (s.g.lo < 0)), .bool b4] 59)) := (Below.refl _ _).alloc (Nat.le_refl _) _
    have h4 := h'.kept hkW
    have hown : Own (fdM.on (fun b => BusyM M S vs (.slice A7 s.usages.length c7) (.slice A5 s.fields.length c5) vc b ∧ b < (W1.alloc (.cells #[.int .u8 k, .int .u8 s.g.report, .int .i64 s.opn, .slice A' s.usages.length cap, .int .i64 s.g.lo, .int .i64 s.g.hi, .int .i64 s.g.size, .int .i64 s.g.count, .int .i64 (bitsS s.fields k s.g.report), .bool true, .bool b2, .bool (decide (s.g.lo < 0)), .bool b4] 59)).heap.size)) 59 base (W1.alloc (.cells #[.int .u8 k, .int .u8 s.g.report, .int .i64 s.opn, .slice A' s.usages.length cap, .int .i64 s.g.lo, .int .i64 s.g.hi, .int .i64 s.g.size, .int .i64 s.g.count, .int .i64 (bitsS s.fields k s.g.report), .bool true, .bool b2, .bool (decide (s.g.lo < 0)), .bool b4] 59)) (.slice A5 s.fields.length c5) s.fields.length s.fields := h4.md.fs.widen (fun b h1 h2 => ⟨h2, h1⟩)
    have hrel : (fdM.on (fun b => BusyM M S vs (.slice A7 s.usages.length c7) (.slice A5 s.fields.length c5) vc b ∧ b < (W1.alloc (.cells #[.int .u8 k, .int .u8 s.g.report, .int .i64 s.opn, .slice A' s.usages.length cap, .int .i64 s.g.lo, .int .i64 s.g.hi, .int .i64 s.g.size, .int .i64 s.g.count, .int .i64 (bitsS s.fields k s.g.report), .bool true, .bool b2, .bool (decide (s.g.lo < 0)), .bool b4] 59)).heap.size)).rel (W1.alloc (.cells #[.int .u8 k, .int .u8 s.g.report, .int .i64 s.opn, .slice A' s.usages.length cap, .int .i64 s.g.lo, .int .i64 s.g.hi, .int .i64 s.g.size, .int .i64 s.g.count, .int .i64 (bitsS s.fields k s.g.report), .bool true, .bool b2, .bool (decide (s.g.lo < 0)), .bool b4] 59)) (apart (W1.alloc (.cells #[.int .u8 k, .int .u8 s.g.report, .int .i64 s.opn, .slice A' s.usages.length cap, .int .i64 s.g.lo, .int .i64 s.g.hi, .int .i64 s.g.size, .int .i64 s.g.count, .int .i64 (bitsS s.fields k s.g.report), .bool true, .bool b2, .bool (decide (s.g.lo < 0)), .bool b4] 59)) (.slice A5 s.fields.length c5)) (fieldOf s k x) [.int .u8 k, .int .u8 s.g.report, .int .i64 s.opn, .slice A' s.usages.length cap, .int .i64 s.g.lo, .int .i64 s.g.hi, .int .i64 s.g.size, .int .i64 s.g.count, .int .i64 (bitsS s.fields k s.g.report), .bool true, .bool b2, .bool (decide (s.g.lo < 0)), .bool b4] := fd_rel hFc h hB hkW rfl
    obtain ⟨i1, hi1, hz0, hz1, hz2⟩ := info_parts info59
    have hn : s.fields.length < 256 := by omega
    have hbs4 : base ≤ (W1.alloc (.cells #[.int .u8 k, .int .u8 s.g.report, .int .i64 s.opn, .slice A' s.usages.length cap, .int .i64 s.g.lo, .int .i64 s.g.hi, .int .i64 s.g.size, .int .i64 s.g.count, .int .i64 (bitsS s.fields k s.g.report), .bool true, .bool b2, .bool (decide (s.g.lo < 0)), .bool b4] 59)).heap.size := h4.hb
    go_wp2_with (at_builtin; go_must (refine wpList_append_el (T := fdM.on (fun b => BusyM M S vs (.slice A7 s.usages.length c7) (.slice A5 s.fields.length c5) vc b ∧ b < (W1.alloc (.cells #[.int .u8 k, .int .u8 s.g.report, .int .i64 s.opn, .slice A' s.usages.length cap, .int .i64 s.g.lo, .int .i64 s.g.hi, .int .i64 s.g.size, .int .i64 s.g.count, .int .i64 (bitsS s.fields k s.g.report), .bool true, .bool b2, .bool (decide (s.g.lo < 0)), .bool b4] 59)).heap.size)) rfl (.tmp 410) (.tmp 412) 37 rfl base 59 i1 _ 88 Try.underlying37 hi1 hz0 hz1 hz2 rfl (show 0 < 13 by decide) _ s.fields.length s.fields (by rfl) hown W1.heap.size _ _ (fieldOf s k x) (by rfl) (heap_at _ rfl) hrel (by simp [Value.oneCell']) (by unfold maxLen; omega) (by omega) hbs4 ?_); intro g cap2 w4 hown4 hg4 hb4 hat4 hlt4; have bm4 := heap_grown hg4 h4.md.bm (fun e => h4.md.fs.not_at h4.md.low.1 e.symm); have mm1 := cell_heap bm4 (o := 0) rfl; have mf1 := frozen_heap bm4 (o := 0); have ml4 := heap_lt bm4)
    have h9 := h4.fsTo (v' := .slice (some ⟨g, 0, none⟩) (s.fields.length + 1) cap2) hg4 (by rw [List.length_append]; exact hown4) (hat4.elim (fun e => .inr (.inl e.symm)) (fun e => .inr (.inr (by rw [e]; rfl))))
    refine hN _ _ vs _ _ vc _ hF (frame_end rfl rfl rfl rfl rfl rfl rfl rfl rfl rfl rfl rfl) h9 ((((FrM.kept hB.kept h.hb).trans (FrM.kept hkW h'.hb)).trans (FrM.below hb4)).trans (FrM.setM 0 _))
  | false =>
    have hdt : ¬ x.data % 2 = 1 := by have := hfl.1; simpa using this.symm
    by_cases q1 : s.g.hi < s.g.lo
    · have hF : effS s x = (4, s) := by rw [hE', if_pos ⟨hdt, .inl (by rw [hfit, decide_eq_false (by omega : ¬ s.g.lo ≤ s.g.hi)]; rfl)⟩]
      have d1 : decide (s.g.hi < s.g.lo) = true := decide_eq_true q1
      go_wp2_with fail
      refine hE _ _ 4 (by rw [hF]) (by decide) rfl rfl rfl ?_ ?_
      · exact (zeroed h'.br).1
      · exact (hB.kept.mono (Nat.le_of_lt hBn)).trans (zeroed h'.br).2
    · have d1 : decide (s.g.hi < s.g.lo) = false := decide_eq_false q1
      by_cases q2 : s.g.lo < least
      · have hF : effS s x = (4, s) := by rw [hE', if_pos ⟨hdt, .inl (by rw [hfit, decide_eq_false (by omega : ¬ least ≤ s.g.lo)]; simp)⟩]
        have d2 : decide (s.g.lo < least) = true := decide_eq_true q2
        go_wp2_with fail
        refine hE _ _ 4 (by rw [hF]) (by decide) rfl rfl rfl ?_ ?_
        · exact (zeroed h'.br).1
        · exact (hB.kept.mono (Nat.le_of_lt hBn)).trans (zeroed h'.br).2
      · have d2 : decide (s.g.lo < least) = false := decide_eq_false q2
        by_cases q3 : most < s.g.hi
        · have hF : effS s x = (4, s) := by rw [hE', if_pos ⟨hdt, .inl (by rw [hfit, decide_eq_false (by omega : ¬ s.g.hi ≤ most)]; simp)⟩]
          have d3 : decide (most < s.g.hi) = true := decide_eq_true q3
          go_wp2_with fail
          refine hE _ _ 4 (by rw [hF]) (by decide) rfl rfl rfl ?_ ?_
          · exact (zeroed h'.br).1
          · exact (hB.kept.mono (Nat.le_of_lt hBn)).trans (zeroed h'.br).2
        · have d3 : decide (most < s.g.hi) = false := decide_eq_false q3
          by_cases q4 : s.usages.length = 0
          · have hF : effS s x = (4, s) := by rw [hE', if_pos ⟨hdt, .inr (List.eq_nil_of_length_eq_zero q4)⟩]
            have d4 : ((s.usages.length : Int) == 0) = true := by rw [q4]; rfl
            have d5 : decide ((s.usages.length : Int) = 0) = true := decide_eq_true (by omega)
            clear q4
            go_wp2_with fail
            refine hE _ _ 4 (by rw [hF]) (by decide) rfl rfl rfl ?_ ?_
            · exact (zeroed h'.br).1
            · exact (hB.kept.mono (Nat.le_of_lt hBn)).trans (zeroed h'.br).2
          · have d4 : ((s.usages.length : Int) == 0) = false := beq_false_of_ne (by omega)
            have d5 : decide ((s.usages.length : Int) = 0) = false := decide_eq_false (by omega)
            have hF : effS s x = (0, { s with fields := s.fields ++ [fieldOf s k x] }) := by
              rw [hE', if_neg]
              rintro ⟨_, e | e⟩
              · rw [hfit, decide_eq_true (by omega : s.g.lo ≤ s.g.hi), decide_eq_true (by omega : least ≤ s.g.lo), decide_eq_true (by omega : s.g.hi ≤ most)] at e; cases e
              · exact q4 (by rw [e]; rfl)
            have hkW : Kept W1 (W1.alloc (.cells #[.int .u8 k, .int .u8 s.g.report, .int .i64 s.opn, .slice A' s.usages.length cap, .int .i64 s.g.lo, .int .i64 s.g.hi, .int .i64 s.g.size, .int .i64 s.g.count, .int .i64 (bitsS s.fields k s.g.report), .bool false, .bool b2, .bool (decide (s.g.lo < 0)), .bool b4] 59)) := (Below.refl _ _).alloc (Nat.le_refl _) _
            have h4 := h'.kept hkW
            have hown : Own (fdM.on (fun b => BusyM M S vs (.slice A7 s.usages.length c7) (.slice A5 s.fields.length c5) vc b ∧ b < (W1.alloc (.cells #[.int .u8 k, .int .u8 s.g.report, .int .i64 s.opn, .slice A' s.usages.length cap, .int .i64 s.g.lo, .int .i64 s.g.hi, .int .i64 s.g.size, .int .i64 s.g.count, .int .i64 (bitsS s.fields k s.g.report), .bool false, .bool b2, .bool (decide (s.g.lo < 0)), .bool b4] 59)).heap.size)) 59 base (W1.alloc (.cells #[.int .u8 k, .int .u8 s.g.report, .int .i64 s.opn, .slice A' s.usages.length cap, .int .i64 s.g.lo, .int .i64 s.g.hi, .int .i64 s.g.size, .int .i64 s.g.count, .int .i64 (bitsS s.fields k s.g.report), .bool false, .bool b2, .bool (decide (s.g.lo < 0)), .bool b4] 59)) (.slice A5 s.fields.length c5) s.fields.length s.fields := h4.md.fs.widen (fun b h1 h2 => ⟨h2, h1⟩)
            have hrel : (fdM.on (fun b => BusyM M S vs (.slice A7 s.usages.length c7) (.slice A5 s.fields.length c5) vc b ∧ b < (W1.alloc (.cells #[.int .u8 k, .int .u8 s.g.report, .int .i64 s.opn, .slice A' s.usages.length cap, .int .i64 s.g.lo, .int .i64 s.g.hi, .int .i64 s.g.size, .int .i64 s.g.count, .int .i64 (bitsS s.fields k s.g.report), .bool false, .bool b2, .bool (decide (s.g.lo < 0)), .bool b4] 59)).heap.size)).rel (W1.alloc (.cells #[.int .u8 k, .int .u8 s.g.report, .int .i64 s.opn, .slice A' s.usages.length cap, .int .i64 s.g.lo, .int .i64 s.g.hi, .int .i64 s.g.size, .int .i64 s.g.count, .int .i64 (bitsS s.fields k s.g.report), .bool false, .bool b2, .bool (decide (s.g.lo < 0)), .bool b4] 59)) (apart (W1.alloc (.cells #[.int .u8 k, .int .u8 s.g.report, .int .i64 s.opn, .slice A' s.usages.length cap, .int .i64 s.g.lo, .int .i64 s.g.hi, .int .i64 s.g.size, .int .i64 s.g.count, .int .i64 (bitsS s.fields k s.g.report), .bool false, .bool b2, .bool (decide (s.g.lo < 0)), .bool b4] 59)) (.slice A5 s.fields.length c5)) (fieldOf s k x) [.int .u8 k, .int .u8 s.g.report, .int .i64 s.opn, .slice A' s.usages.length cap, .int .i64 s.g.lo, .int .i64 s.g.hi, .int .i64 s.g.size, .int .i64 s.g.count, .int .i64 (bitsS s.fields k s.g.report), .bool false, .bool b2, .bool (decide (s.g.lo < 0)), .bool b4] := fd_rel hFc h hB hkW rfl
            obtain ⟨i1, hi1, hz0, hz1, hz2⟩ := info_parts info59
            have hn : s.fields.length < 256 := by omega
            have hbs4 : base ≤ (W1.alloc (.cells #[.int .u8 k, .int .u8 s.g.report, .int .i64 s.opn, .slice A' s.usages.length cap, .int .i64 s.g.lo, .int .i64 s.g.hi, .int .i64 s.g.size, .int .i64 s.g.count, .int .i64 (bitsS s.fields k s.g.report), .bool false, .bool b2, .bool (decide (s.g.lo < 0)), .bool b4] 59)).heap.size := h4.hb
            go_wp2_with (at_builtin; go_must (refine wpList_append_el (T := fdM.on (fun b => BusyM M S vs (.slice A7 s.usages.length c7) (.slice A5 s.fields.length c5) vc b ∧ b < (W1.alloc (.cells #[.int .u8 k, .int .u8 s.g.report, .int .i64 s.opn, .slice A' s.usages.length cap, .int .i64 s.g.lo, .int .i64 s.g.hi, .int .i64 s.g.size, .int .i64 s.g.count, .int .i64 (bitsS s.fields k s.g.report), .bool false, .bool b2, .bool (decide (s.g.lo < 0)), .bool b4] 59)).heap.size)) rfl (.tmp 410) (.tmp 412) 37 rfl base 59 i1 _ 88 Try.underlying37 hi1 hz0 hz1 hz2 rfl (show 0 < 13 by decide) _ s.fields.length s.fields (by rfl) hown W1.heap.size _ _ (fieldOf s k x) (by rfl) (heap_at _ rfl) hrel (by simp [Value.oneCell']) (by unfold maxLen; omega) (by omega) hbs4 ?_); intro g cap2 w4 hown4 hg4 hb4 hat4 hlt4; have bm4 := heap_grown hg4 h4.md.bm (fun e => h4.md.fs.not_at h4.md.low.1 e.symm); have mm1 := cell_heap bm4 (o := 0) rfl; have mf1 := frozen_heap bm4 (o := 0); have ml4 := heap_lt bm4)
            have h9 := h4.fsTo (v' := .slice (some ⟨g, 0, none⟩) (s.fields.length + 1) cap2) hg4 (by rw [List.length_append]; exact hown4) (hat4.elim (fun e => .inr (.inl e.symm)) (fun e => .inr (.inr (by rw [e]; rfl))))
            refine hN _ _ vs _ _ vc _ hF (frame_end rfl rfl rfl rfl rfl rfl rfl rfl rfl rfl rfl rfl) h9 ((((FrM.kept hB.kept h.hb).trans (FrM.kept hkW h'.hb)).trans (FrM.below hb4)).trans (FrM.setM 0 _))
end Go.Proofs.Ytegdigfcgeoboaa
/- The definition's field, from region 101 on. Printed by gen_m.py. -/
namespace Go.Proofs.Ytegdigfcgeoboaa
open Go.RowKit Go.Maps
attribute [local go_sem ↓] Go.wp_at_zero Go.wp_at_succ

set_option maxRecDepth 1000000 in
set_option maxHeartbeats 8000000 in
theorem fld_101 {Q : Exit → Act → World → Prop} {W W1 : World} {base n c R M S X F cap : Nat} {A A' : Option Addr} {vs vu vf vc : Value} {s : RS} {i : Int} {x : It} {a : Act} {b1 b2 b4 : Bool} (k : Int) (ha : LiveF a A n c R M S X F vs vu s i x) (h : Sit W base R M S X vs vu vf vc s x) (hB : Bxd W W1 F A' cap s b1 b2 b4 k (bitsS s.fields k s.g.report) s.g.size s.g.count) (hs : s.Fine) (hw : x.wide = true) (hok : x.ok)
    (hfl : Flags x b1 b2 b4) (heff : effS s x = fieldS s k x) (ho : ¬ s.opn < 0)
    (hsz : ¬ (s.g.size < 1 ∨ 32 < s.g.size ∨ s.g.count < 1 ∨ 256 < s.g.count ∨ 4096 < bitsS s.fields k (s.g.report % 256) + s.g.size * s.g.count ∨ 256 ≤ s.fields.length))
    (hN : OkN Q W base A n c R M S X s i x) (hE : OkE Q W R s x) (hP : ∀ c a d v w, Q (.panic c) (a.put d v) w → Q (.panic c) a w) (K : Act → World → Prop) (hK : ∀ a w', Code.wp Try.prog (restC code101) Q a w' → K a w') : Code.wp Try.prog (headC code101) (Exit.then K Q) a W1 := by
  obtain ⟨us, rfl⟩ := ha
  conv => arg 2; whnf
  conv at hK => enter [a, w', 1, 2]; whnf
  dsimp only
  have h' := h.kept hB.kept
  have hMl := heap_lt h'.md.bm
  have hSl := heap_lt h'.md.bs
  have hXl := heap_lt h'.bx
  have hRl := heap_lt h'.br
  have hFl := heap_lt hB.box
  have hMS := h.md.low.2.2
  obtain ⟨l1, l2, l3⟩ := h.low
  have hBn : R < W.heap.size := by have := h.hb; omega
  have p1 : W1.cell? ⟨S, 1, none⟩ = some (.int .i64 s.g.lo) := cell_heap h'.md.bs (o := 1) rfl
  have q1 : 1 ≤ s.g.size := by omega
  have q2 : s.g.size ≤ 32 := by omega
  obtain ⟨N, hn⟩ : ∃ N : Nat, s.g.size = (N : Int) := ⟨s.g.size.toNat, by omega⟩
  have hn2 : s.g.size.toNat = N := by omega
  have p3 : W1.cell? ⟨S, 3, none⟩ = some (.int .i64 (N : Int)) := by rw [← hn]; exact cell_heap h'.md.bs (o := 3) rfl
  rw [hn] at q1 q2
  obtain ⟨z0, z1⟩ := two_pow N (by omega)
  obtain ⟨y0, y1⟩ := two_pow (N - 1) (by omega)
  have e1 : ((N : Int) - 1).toNat = N - 1 := by omega
  have hn0 : (0 : Int) ≤ (N : Int) := by omega
  have hn1 : (0 : Int) ≤ (N : Int) - 1 := by omega
  have w1 : IntKind.i64.wrap (2 ^ N) = 2 ^ N := by rw [IntKind.wrap_i64]; omega
  have w2 : IntKind.i64.wrap (2 ^ N - 1) = 2 ^ N - 1 := by rw [IntKind.wrap_i64]; omega
  have w3 : IntKind.i64.wrap (2 ^ (N - 1)) = 2 ^ (N - 1) := by rw [IntKind.wrap_i64]; omega
  have w4 : IntKind.i64.wrap (2 ^ (N - 1) - 1) = 2 ^ (N - 1) - 1 := by rw [IntKind.wrap_i64]; omega
  have w5 : IntKind.i64.wrap (-2 ^ (N - 1)) = -2 ^ (N - 1) := by rw [IntKind.wrap_i64]; omega
  have w6 : IntKind.i64.wrap (-1 * 2 ^ (N - 1)) = -2 ^ (N - 1) := by rw [IntKind.wrap_i64]; omega
  have w7 : IntKind.i64.wrap ((N : Int) - 1) = (N : Int) - 1 := by rw [IntKind.wrap_i64]; omega
  by_cases c : s.g.lo < 0
  · have dlo : decide (s.g.lo < 0) = true := decide_eq_true c
    have hfit : fitsS s.g.lo s.g.hi s.g.size.toNat = (decide (s.g.lo ≤ s.g.hi) && decide (-2 ^ (N - 1) ≤ s.g.lo) && decide (s.g.hi ≤ 2 ^ (N - 1) - 1)) := by
      rw [hn2]; unfold fitsS; rw [if_pos c]
    have Hfit := hide hfit
    have Hsz := hide hsz
    have Heff := hide heff
    clear hfit hsz heff
    go_quiet (fail)
    go_upto_region 103 with (fail)
    go_quiet (fail)
    go_upto_region 104 with (fail)
    refine fld_104 k (-2 ^ (N - 1)) (2 ^ (N - 1) - 1) (frame_g rfl rfl rfl rfl rfl rfl rfl rfl rfl rfl rfl rfl rfl rfl rfl rfl) h (hB.on (by repeat' first | exact Below.refl _ _ | refine below_drewN ?_ _)) hs hw hok hfl Heff.out ho Hsz.out Hfit.out hN hE _ _ ?_ ?_
    all_goals assumption
  · have dlo : decide (s.g.lo < 0) = false := decide_eq_false c
    have hfit : fitsS s.g.lo s.g.hi s.g.size.toNat = (decide (s.g.lo ≤ s.g.hi) && decide (0 ≤ s.g.lo) && decide (s.g.hi ≤ 2 ^ N - 1)) := by
      rw [hn2]; unfold fitsS; rw [if_neg c]
    have Hfit := hide hfit
    have Hsz := hide hsz
    have Heff := hide heff
    clear hfit hsz heff
    go_quiet (fail)
    go_upto_region 104 with (fail)
    refine fld_104 k (0) (2 ^ N - 1) (frame_g rfl rfl rfl rfl rfl rfl rfl rfl rfl rfl rfl rfl rfl rfl rfl rfl) h (hB.on (by repeat' first | exact Below.refl _ _ | refine below_drewN ?_ _)) hs hw hok hfl Heff.out ho Hsz.out Hfit.out hN hE _ _ ?_ ?_
    all_goals assumption
end Go.Proofs.Ytegdigfcgeoboaa
/- The definition's field, from region 97 on. Printed by gen_m.py. -/
namespace Go.Proofs.Ytegdigfcgeoboaa
open Go.RowKit Go.Maps
attribute [local go_sem ↓] Go.wp_at_zero Go.wp_at_succ

noncomputable def code87 : Code := (Try.f13.body.bind (findR 87)).getD .skip
noncomputable def code88 : Code := restC code87
noncomputable def code90 : Code := restC code88
noncomputable def code92 : Code := restC code90
noncomputable def code97 : Code := restC code92
set_option maxRecDepth 1000000 in
set_option maxHeartbeats 8000000 in
theorem fld_97 {Q : Exit → Act → World → Prop} {W W1 : World} {base n c R M S X F cap : Nat} {A A' : Option Addr} {vs vu vf vc : Value} {s : RS} {i : Int} {x : It} {a : Act} {b1 b2 b4 : Bool} (k : Int) (ha : LiveF a A n c R M S X F vs vu s i x) (h : Sit W base R M S X vs vu vf vc s x) (hB : Bxd W W1 F A' cap s b1 b2 b4 k (bitsS s.fields k s.g.report) 0 0) (hs : s.Fine) (hw : x.wide = true) (hok : x.ok)
    (hfl : Flags x b1 b2 b4) (heff : effS s x = fieldS s k x) (ho : ¬ s.opn < 0)
    (hN : OkN Q W base A n c R M S X s i x) (hE : OkE Q W R s x) (hP : ∀ c a d v w, Q (.panic c) (a.put d v) w → Q (.panic c) a w) (K K2 : Act → World → Prop) (hK : ∀ a w', Code.wp Try.prog (restC (headC code97)) (Exit.then K2 Q) a w' → K a w') (hK2 : ∀ a w', Code.wp Try.prog (restC code97) Q a w' → K2 a w') : Code.wp Try.prog (headC (headC code97)) (Exit.then K (Exit.then K2 Q)) a W1 := by
  obtain ⟨us, rfl⟩ := ha
  conv => arg 2; whnf
  conv at hK => enter [a, w', 1, 2]; whnf
  conv at hK2 => enter [a, w', 1, 2]; whnf
  dsimp only
  have h' := h.kept hB.kept
  have hMl := heap_lt h'.md.bm
  have hSl := heap_lt h'.md.bs
  have hXl := heap_lt h'.bx
  have hRl := heap_lt h'.br
  have hFl := heap_lt hB.box
  have hMS := h.md.low.2.2
  obtain ⟨l1, l2, l3⟩ := h.low
  have hBn : R < W.heap.size := by have := h.hb; omega
  have r0 : W1.cell? ⟨R, 0, none⟩ = some (.slice none 0 0) := cell_heap h'.br (o := 0) rfl
  have r1 : W1.cell? ⟨R, 1, none⟩ = some (.slice none 0 0) := cell_heap h'.br (o := 1) rfl
  have r2 : W1.cell? ⟨R, 2, none⟩ = some (.bool false) := cell_heap h'.br (o := 2) rfl
  have fr0 := frozen_heap h'.br (o := 0)
  have fr1 := frozen_heap h'.br (o := 1)
  have fr2 := frozen_heap h'.br (o := 2)
  have p3 : W1.cell? ⟨S, 3, none⟩ = some (.int .i64 s.g.size) := cell_heap h'.md.bs (o := 3) rfl
  have p4 : W1.cell? ⟨S, 4, none⟩ = some (.int .i64 s.g.count) := cell_heap h'.md.bs (o := 4) rfl
  have m0 : W1.cell? ⟨M, 0, none⟩ = some vf := cell_heap h'.md.bm (o := 0) rfl
  have hrr : s.g.report % 256 = s.g.report := by have := hs.report; omega
  have e8 : W1.cell? ⟨F, 8, none⟩ = some (.int .i64 (bitsS s.fields k s.g.report)) := cell_heap hB.box (o := 8) rfl
  have x6 := frozen_heap hB.box (o := 6)
  have x7 := frozen_heap hB.box (o := 7)
  have e6 : W1.cell? ⟨F, 6, none⟩ = some (.int .i64 0) := cell_heap hB.box (o := 6) rfl
  have e7 : W1.cell? ⟨F, 7, none⟩ = some (.int .i64 0) := cell_heap hB.box (o := 7) rfl
  obtain ⟨A5, c5, rfl, hD1, hD2⟩ := h.md.fs.isSlice
  by_cases g0 : s.g.size < 1
  · have hF : effS s x = (3, s) := by rw [heff]; unfold fieldS; rw [if_neg ho, hrr, if_pos (.inl g0)]
    have d0 : decide (s.g.size < 1) = true := decide_eq_true g0
    clear heff
    go_wp2_with fail
    refine hE _ _ 3 (by rw [hF]) (by decide) rfl rfl rfl ?_ ?_
    · exact (zeroed h'.br).1
    · exact (hB.kept.mono (Nat.le_of_lt hBn)).trans (zeroed h'.br).2
  have d0 : decide (s.g.size < 1) = false := decide_eq_false g0
  by_cases g1 : 32 < s.g.size
  · have hF : effS s x = (3, s) := by rw [heff]; unfold fieldS; rw [if_neg ho, hrr, if_pos (.inr (.inl g1))]
    have d1 : decide (32 < s.g.size) = true := decide_eq_true g1
    clear heff
    go_wp2_with fail
    refine hE _ _ 3 (by rw [hF]) (by decide) rfl rfl rfl ?_ ?_
    · exact (zeroed h'.br).1
    · exact (hB.kept.mono (Nat.le_of_lt hBn)).trans (zeroed h'.br).2
  have d1 : decide (32 < s.g.size) = false := decide_eq_false g1
  by_cases g2 : s.g.count < 1
  · have hF : effS s x = (3, s) := by rw [heff]; unfold fieldS; rw [if_neg ho, hrr, if_pos (.inr (.inr (.inl g2)))]
    have d2 : decide (s.g.count < 1) = true := decide_eq_true g2
    clear heff
    go_wp2_with fail
    refine hE _ _ 3 (by rw [hF]) (by decide) rfl rfl rfl ?_ ?_
    · exact (zeroed h'.br).1
    · exact (hB.kept.mono (Nat.le_of_lt hBn)).trans (zeroed h'.br).2
  have d2 : decide (s.g.count < 1) = false := decide_eq_false g2
  by_cases g3 : 256 < s.g.count
  · have hF : effS s x = (3, s) := by rw [heff]; unfold fieldS; rw [if_neg ho, hrr, if_pos (.inr (.inr (.inr (.inl g3))))]
    have d3 : decide (256 < s.g.count) = true := decide_eq_true g3
    clear heff
    go_wp2_with fail
    refine hE _ _ 3 (by rw [hF]) (by decide) rfl rfl rfl ?_ ?_
    · exact (zeroed h'.br).1
    · exact (hB.kept.mono (Nat.le_of_lt hBn)).trans (zeroed h'.br).2
  have d3 : decide (256 < s.g.count) = false := decide_eq_false g3
  have hm1 : s.g.size * s.g.count ≤ 32 * s.g.count := Int.mul_le_mul_of_nonneg_right (by omega) (by omega)
  have hm2 : 1 * s.g.count ≤ s.g.size * s.g.count := Int.mul_le_mul_of_nonneg_right (by omega) (by omega)
  have hb := hs.bits k s.g.report
  have hw1 : IntKind.i64.wrap (s.g.size * s.g.count) = s.g.size * s.g.count := by rw [IntKind.wrap_i64]; omega
  have hw2 : IntKind.i64.wrap (bitsS s.fields k s.g.report + s.g.size * s.g.count) = bitsS s.fields k s.g.report + s.g.size * s.g.count := by rw [IntKind.wrap_i64]; omega
  by_cases g4 : 4096 < bitsS s.fields k s.g.report + s.g.size * s.g.count
  · have hF : effS s x = (3, s) := by rw [heff]; unfold fieldS; rw [if_neg ho, hrr, if_pos (.inr (.inr (.inr (.inr (.inl g4)))))]
    have d4 : decide (4096 < bitsS s.fields k s.g.report + s.g.size * s.g.count) = true := decide_eq_true g4
    clear heff
    go_wp2_with fail
    refine hE _ _ 3 (by rw [hF]) (by decide) rfl rfl rfl ?_ ?_
    · exact (zeroed h'.br).1
    · exact (hB.kept.mono (Nat.le_of_lt hBn)).trans (zeroed h'.br).2
  have d4 : decide (4096 < bitsS s.fields k s.g.report + s.g.size * s.g.count) = false := decide_eq_false g4
  by_cases g5 : 256 ≤ s.fields.length
  · have hF : effS s x = (3, s) := by rw [heff]; unfold fieldS; rw [if_neg ho, hrr, if_pos (.inr (.inr (.inr (.inr (.inr (g5))))))]
    have d5 : ((s.fields.length : Int) == 256) = true := by rw [beq_iff_eq]; have := hs.fields.1; omega
    have d6 : decide ((s.fields.length : Int) = 256) = true := decide_eq_true (by have := hs.fields.1; omega)
    clear heff
    go_wp2_with fail
    refine hE _ _ 3 (by rw [hF]) (by decide) rfl rfl rfl ?_ ?_
    · exact (zeroed h'.br).1
    · exact (hB.kept.mono (Nat.le_of_lt hBn)).trans (zeroed h'.br).2
  have d5 : ((s.fields.length : Int) == 256) = false := beq_false_of_ne (by omega)
  have hsz : ¬ (s.g.size < 1 ∨ 32 < s.g.size ∨ s.g.count < 1 ∨ 256 < s.g.count ∨ 4096 < bitsS s.fields k (s.g.report % 256) + s.g.size * s.g.count ∨ 256 ≤ s.fields.length) := by
    rw [hrr]
    rintro (e | e | e | e | e | e)
    · exact g0 e
    · exact g1 e
    · exact g2 e
    · exact g3 e
    · exact g4 e
    · exact g5 e
  have hSF : ¬ S = F := by have := hB.new; have := h.md.low.2.1; have := h.hb; omega
  go_upto_region 101 with (fail)
  refine fld_101 k (frame_f rfl rfl rfl rfl rfl rfl rfl rfl rfl rfl rfl rfl rfl rfl) h ((hB.set 6 _ rfl).set 7 _ rfl) hs hw hok hfl heff ho hsz hN hE hP _ ?_
  assumption
end Go.Proofs.Ytegdigfcgeoboaa
