/- The law of the chapter on reports, part 33: Me Ia. -/
import Derived.Test.YtegdigfcgeoboaaK32
set_option maxHeartbeats 16000000
set_option linter.unusedVariables false
set_option linter.unusedSimpArgs false
set_option linter.unusedSectionVars false
namespace Go.Proofs.Ytegdigfcgeoboaa
open Go.RowKit Go.Maps
theorem info78 : (Try.prog.info? 78).map (fun i => (i.zero, i.size, i.bytes)) = some (some (.agg #[.int .i64 0, .int .i64 0, .int .i64 0, .int .i64 0, .int .i64 0, .int .i64 0]), 6, 48) := by kernel_rfl
def keptI (s : RS) : Int := if s.keeps then s.kept else -1
def zero40 : Obj := .cells #[.slice none 0 0, .slice none 0 0, .bool false] 40 (0, 0)
def Live (a : Act) (A : Option Addr) (n c : Nat) (R M S X : Nat) (vs vu : Value) (s s0 : RS) (i : Int) (x : It) (cc : Int) : Prop := ∃ j : Nat → Value, a = ⟨#[.slice A n c, j 1, .pointer (some ⟨R, 0, none⟩), j 3, .pointer (some ⟨M, 0, none⟩), .pointer (some ⟨S, 0, none⟩), vs, vu, .int .i64 (keptI s), .int .i64 s.opn, .int .i64 i, .pointer (some ⟨X, 0, none⟩), .int .i64 x.data, .int .i64 (signS x), .int .i64 (usageS s0 x), j 15, j 16, j 17, j 18, j 19, j 20, j 21, j 22, j 23, j 24, j 25, j 26, j 27, j 28, j 29, j 30, j 31, j 32, j 33, j 34, j 35, j 36, j 37, j 38, j 39, j 40, j 41, j 42, j 43, j 44, j 45, j 46, j 47, j 48, j 49, j 50, j 51, j 52, j 53, j 54, j 55, j 56, j 57, j 58, j 59, j 60, j 61, j 62, j 63, j 64, j 65, j 66, j 67, j 68, j 69, j 70, j 71, j 72, j 73, j 74, j 75, j 76, j 77, j 78, .int .i64 cc, j 80, j 81, j 82, j 83, j 84, j 85, j 86, j 87, j 88, j 89, j 90, j 91, j 92, j 93, j 94, j 95, j 96, j 97, j 98, j 99, j 100, j 101, j 102, j 103, j 104, j 105, j 106, j 107, j 108, j 109, j 110, j 111, j 112, j 113, j 114, j 115, j 116, j 117, j 118, j 119, j 120, j 121, j 122, j 123, j 124, j 125, j 126, j 127, j 128, j 129, j 130, j 131, j 132, j 133, j 134, j 135, j 136, j 137, j 138, j 139, j 140, j 141, j 142, j 143, j 144, j 145, j 146, j 147, j 148, j 149, j 150, j 151, j 152, j 153, j 154, j 155, j 156, j 157, j 158, j 159, j 160, j 161, j 162, j 163, j 164, j 165, j 166, j 167, j 168, j 169, j 170, j 171, j 172, j 173, j 174, j 175, j 176, j 177, j 178, j 179, j 180, j 181, j 182, j 183, j 184, j 185, j 186, j 187, j 188, j 189, j 190, j 191, j 192, j 193, j 194, j 195, j 196, j 197, j 198, j 199, j 200, j 201, j 202, j 203, j 204, j 205, j 206, j 207, j 208, j 209, j 210, j 211, j 212, j 213, j 214, j 215, j 216, j 217, j 218, j 219, j 220, j 221, j 222, j 223, j 224, j 225, j 226, j 227, j 228, j 229, j 230, j 231, j 232, j 233, j 234, j 235, j 236, j 237, j 238, j 239, j 240, j 241, j 242, j 243, j 244, j 245, j 246, j 247, j 248, j 249, j 250, j 251, j 252, j 253, j 254, j 255, j 256, j 257, j 258, j 259, j 260, j 261, j 262, j 263, j 264, j 265, j 266, j 267, j 268, j 269, j 270, j 271, j 272, j 273, j 274, j 275, j 276, j 277, j 278, j 279, j 280, j 281, j 282, j 283, j 284, j 285, j 286, j 287, j 288, j 289, j 290, j 291, j 292, j 293, j 294, j 295, j 296, j 297, j 298, j 299, j 300, j 301, j 302, j 303, j 304, j 305, j 306, j 307, j 308, j 309, j 310, j 311, j 312, j 313, j 314, j 315, j 316, j 317, j 318, j 319, j 320, j 321, j 322, j 323, j 324, j 325, j 326, j 327, j 328, j 329, j 330, j 331, j 332, j 333, j 334, j 335, j 336, j 337, j 338, j 339, j 340, j 341, j 342, j 343, j 344, j 345, j 346, j 347, j 348, j 349, j 350, j 351, j 352, j 353, j 354, j 355, j 356, j 357, j 358, j 359, j 360, j 361, j 362, j 363, j 364, j 365, j 366, j 367, j 368, j 369, j 370, j 371, j 372, j 373, j 374, j 375, j 376, j 377, j 378, j 379, j 380, j 381, j 382, j 383, j 384, j 385, j 386, j 387, j 388, j 389, j 390, j 391, j 392, j 393, j 394, j 395, j 396, j 397, j 398, j 399, j 400, j 401, j 402, j 403, j 404, j 405, j 406, j 407, j 408, j 409, j 410, j 411, j 412, j 413, j 414, j 415, j 416, j 417, j 418, j 419, j 420, j 421, j 422, j 423, j 424, j 425, j 426, j 427, j 428, j 429, j 430, j 431, j 432, j 433, j 434, j 435, j 436, j 437, j 438, j 439, j 440, j 441, j 442, j 443, j 444, j 445], []⟩
def LiveN (a : Act) (A : Option Addr) (n c : Nat) (R M S X : Nat) (vs vu : Value) (s : RS) (i : Int) : Prop := ∃ j : Nat → Value, a = ⟨#[.slice A n c, j 1, .pointer (some ⟨R, 0, none⟩), j 3, .pointer (some ⟨M, 0, none⟩), .pointer (some ⟨S, 0, none⟩), vs, vu, .int .i64 (keptI s), .int .i64 s.opn, .int .i64 i, .pointer (some ⟨X, 0, none⟩), j 12, j 13, j 14, j 15, j 16, j 17, j 18, j 19, j 20, j 21, j 22, j 23, j 24, j 25, j 26, j 27, j 28, j 29, j 30, j 31, j 32, j 33, j 34, j 35, j 36, j 37, j 38, j 39, j 40, j 41, j 42, j 43, j 44, j 45, j 46, j 47, j 48, j 49, j 50, j 51, j 52, j 53, j 54, j 55, j 56, j 57, j 58, j 59, j 60, j 61, j 62, j 63, j 64, j 65, j 66, j 67, j 68, j 69, j 70, j 71, j 72, j 73, j 74, j 75, j 76, j 77, j 78, j 79, j 80, j 81, j 82, j 83, j 84, j 85, j 86, j 87, j 88, j 89, j 90, j 91, j 92, j 93, j 94, j 95, j 96, j 97, j 98, j 99, j 100, j 101, j 102, j 103, j 104, j 105, j 106, j 107, j 108, j 109, j 110, j 111, j 112, j 113, j 114, j 115, j 116, j 117, j 118, j 119, j 120, j 121, j 122, j 123, j 124, j 125, j 126, j 127, j 128, j 129, j 130, j 131, j 132, j 133, j 134, j 135, j 136, j 137, j 138, j 139, j 140, j 141, j 142, j 143, j 144, j 145, j 146, j 147, j 148, j 149, j 150, j 151, j 152, j 153, j 154, j 155, j 156, j 157, j 158, j 159, j 160, j 161, j 162, j 163, j 164, j 165, j 166, j 167, j 168, j 169, j 170, j 171, j 172, j 173, j 174, j 175, j 176, j 177, j 178, j 179, j 180, j 181, j 182, j 183, j 184, j 185, j 186, j 187, j 188, j 189, j 190, j 191, j 192, j 193, j 194, j 195, j 196, j 197, j 198, j 199, j 200, j 201, j 202, j 203, j 204, j 205, j 206, j 207, j 208, j 209, j 210, j 211, j 212, j 213, j 214, j 215, j 216, j 217, j 218, j 219, j 220, j 221, j 222, j 223, j 224, j 225, j 226, j 227, j 228, j 229, j 230, j 231, j 232, j 233, j 234, j 235, j 236, j 237, j 238, j 239, j 240, j 241, j 242, j 243, j 244, j 245, j 246, j 247, j 248, j 249, j 250, j 251, j 252, j 253, j 254, j 255, j 256, j 257, j 258, j 259, j 260, j 261, j 262, j 263, j 264, j 265, j 266, j 267, j 268, j 269, j 270, j 271, j 272, j 273, j 274, j 275, j 276, j 277, j 278, j 279, j 280, j 281, j 282, j 283, j 284, j 285, j 286, j 287, j 288, j 289, j 290, j 291, j 292, j 293, j 294, j 295, j 296, j 297, j 298, j 299, j 300, j 301, j 302, j 303, j 304, j 305, j 306, j 307, j 308, j 309, j 310, j 311, j 312, j 313, j 314, j 315, j 316, j 317, j 318, j 319, j 320, j 321, j 322, j 323, j 324, j 325, j 326, j 327, j 328, j 329, j 330, j 331, j 332, j 333, j 334, j 335, j 336, j 337, j 338, j 339, j 340, j 341, j 342, j 343, j 344, j 345, j 346, j 347, j 348, j 349, j 350, j 351, j 352, j 353, j 354, j 355, j 356, j 357, j 358, j 359, j 360, j 361, j 362, j 363, j 364, j 365, j 366, j 367, j 368, j 369, j 370, j 371, j 372, j 373, j 374, j 375, j 376, j 377, j 378, j 379, j 380, j 381, j 382, j 383, j 384, j 385, j 386, j 387, j 388, j 389, j 390, j 391, j 392, j 393, j 394, j 395, j 396, j 397, j 398, j 399, j 400, j 401, j 402, j 403, j 404, j 405, j 406, j 407, j 408, j 409, j 410, j 411, j 412, j 413, j 414, j 415, j 416, j 417, j 418, j 419, j 420, j 421, j 422, j 423, j 424, j 425, j 426, j 427, j 428, j 429, j 430, j 431, j 432, j 433, j 434, j 435, j 436, j 437, j 438, j 439, j 440, j 441, j 442, j 443, j 444, j 445], []⟩
structure Sit (W : World) (base R M S X : Nat) (vs vu vf vc : Value) (s : RS) (x : It) : Prop where
 md : Md W base M S vs vu vf vc s
 hb : base ≤ W.heap.size
 bx : W.heap[X]? = some (.cells #[.int .u8 x.ty, .int .u8 x.tg, .int .i64 x.size, .int .u32 x.data] 29 (0, 0))
 xb : base ≤ X
 br : W.heap[R]? = some zero40
 low : R < base ∧ R < M ∧ R < S
def OkN (Q : Exit → Act → World → Prop) (W : World) (base : Nat) (A : Option Addr) (n c : Nat) (R M S X : Nat) (s : RS) (i : Int) (x : It) : Prop :=
 ∀ a' W' vs' vu' vf' vc' s', effS s x = (0, s') → LiveN a' A n c R M S X vs' vu' s' i → Sit W' base R M S X vs' vu' vf' vc' s' x → FrM base M S W W' → Q .normal a' W'
def OkE (Q : Exit → Act → World → Prop) (W : World) (R : Nat) (s : RS) (x : It) : Prop :=
 ∀ a' W' E, (effS s x).1 = E → E ≠ 0 → a'.defers = [] → a'.tmps[2]? = some (.pointer (some ⟨R, 0, none⟩)) → a'.tmps[3]? = some (.int .i64 E) → W'.heap[R]? = some zero40 → Below R W W' → Q .ret a' W'
section
variable {W W' : World} {base R M S X : Nat} {vs vu vf vc v' : Value} {s s' : RS} {x : It}
theorem Sit.kept (h : Sit W base R M S X vs vu vf vc s x) (hk : Kept W W') : Sit W' base R M S X vs vu vf vc s x := ⟨h.md.kept hk, Nat.le_trans h.hb hk.size, heap_kept hk h.bx, h.xb, heap_kept hk h.br, h.low⟩
theorem Sit.setS (h : Sit W base R M S X vs vu vf vc s x) (i : Nat) (u : Value) (hc : (sC s).setIfInBounds i u = sC s') (h1 : s'.stack = s.stack) (h2 : s'.usages = s.usages) (h3 : s'.fields = s.fields) (h4 : s'.colls = s.colls) (h5 : s'.numbered = s.numbered) : Sit (W.setCell ⟨S, i, none⟩ u) base R M S X vs vu vf vc s' x := by
 have hg : W.grownBy (W.setCell ⟨S, i, none⟩ u) (some S) := grown_at grown_self i u
 obtain ⟨l1, l2, l3⟩ := h.low
 have hx := h.xb
 have hs := h.md.low.2.1
 exact ⟨h.md.setS i u hc h1 h2 h3 h4 h5, by rw [World.size_setCell]; exact h.hb, heap_grown hg h.bx (fun e => by injection e with e; omega), h.xb, heap_grown hg h.br (fun e => by injection e with e; omega), h.low⟩
theorem Sit.setM (h : Sit W base R M S X vs vu vf vc s x) (i : Nat) (u : Value) (hc : (mC s vf vc).setIfInBounds i u = mC s' vf vc) (h0 : s'.g = s.g) (h1 : s'.stack = s.stack) (h2 : s'.usages = s.usages) (h3 : s'.fields = s.fields) (h4 : s'.colls = s.colls) : Sit (W.setCell ⟨M, i, none⟩ u) base R M S X vs vu vf vc s' x := by
 have hg : W.grownBy (W.setCell ⟨M, i, none⟩ u) (some M) := grown_at grown_self i u
 obtain ⟨l1, l2, l3⟩ := h.low
 have hx := h.xb
 have hs := h.md.low.1
 exact ⟨h.md.setM i u hc h0 h1 h2 h3 h4, by rw [World.size_setCell]; exact h.hb, heap_grown hg h.bx (fun e => by injection e with e; omega), h.xb, heap_grown hg h.br (fun e => by injection e with e; omega), h.low⟩
theorem Sit.same (h : Sit W base R M S X vs vu vf vc s x) (h0 : s'.g = s.g) (h1 : s'.stack = s.stack) (h2 : s'.usages = s.usages) (h3 : s'.fields = s.fields) (h4 : s'.colls = s.colls) (h5 : s'.numbered = s.numbered) : Sit W base R M S X vs vu vf vc s' x :=
 ⟨h.md.same h0 h1 h2 h3 h4 h5, h.hb, h.bx, h.xb, h.br, h.low⟩
theorem own_not29 {α : Type} {t : Ty α} {e : TypeId} {n : Nat} {v : Value} {xs : List α} (ho : Own t e base W v n xs) {k : Nat} {cs : Array Value} {t2 : TypeId} (hk : W.heap[k]? = some (.cells cs t2 (0, 0))) (he : e ≠ t2) : v.ownBlock ≠ some k := by
 intro e2
 obtain ⟨_, _, ⟨_, h2⟩, _⟩ := ho
 rcases h2 with ⟨rfl, _⟩ | ⟨g, cap, cur, rfl, _, hg2, _⟩
 ·cases e2
 ·have e3 : g = k := by simpa [Value.ownBlock] using e2
  subst e3
  rw [hg2] at hk
  injection hk with hk
  injection hk with _ hk _
  exact he hk
theorem Sit.stTo (h : Sit W base R M S X vs vu vf vc s x) {l : List Gl} (hg : W.grownBy W' vs.ownBlock) (ho : Own glM 78 base W' v' l.length l) (hat : v'.ownBlock = none ∨ v'.ownBlock = vs.ownBlock ∨ v'.ownBlock = some W.heap.size) : Sit W' base R M S X v' vu vf vc { s with stack := l } x :=
 ⟨h.md.stTo hg ho hat, Nat.le_trans h.hb hg.size, heap_grown hg h.bx (fun e => own_not29 h.md.st h.bx (by decide) e.symm), h.xb, heap_grown hg h.br (fun e => own_not29 h.md.st h.br (by decide) e.symm), h.low⟩
theorem Sit.usTo (h : Sit W base R M S X vs vu vf vc s x) {l : List Int} (hg : W.grownBy W' vu.ownBlock) (ho : Own u32T 27 base W' v' l.length l) (hat : v'.ownBlock = none ∨ v'.ownBlock = vu.ownBlock ∨ v'.ownBlock = some W.heap.size) : Sit W' base R M S X vs v' vf vc { s with usages := l } x :=
 ⟨h.md.usTo hg ho hat, Nat.le_trans h.hb hg.size, heap_grown hg h.bx (fun e => own_not29 h.md.us h.bx (by decide) e.symm), h.xb, heap_grown hg h.br (fun e => own_not29 h.md.us h.br (by decide) e.symm), h.low⟩
theorem Sit.csTo (h : Sit W base R M S X vs vu vf vc s x) {l : List Co} (hg : W.grownBy W' vc.ownBlock) (ho : Own coT 68 base W' v' l.length l) (hat : v'.ownBlock = none ∨ v'.ownBlock = vc.ownBlock ∨ v'.ownBlock = some W.heap.size) : Sit (W'.setCell ⟨M, 1, none⟩ v') base R M S X vs vu vf v' { s with colls := l } x := by
 have hg2 : W'.grownBy (W'.setCell ⟨M, 1, none⟩ v') (some M) := grown_at grown_self 1 v'
 obtain ⟨l1, l2, l3⟩ := h.low
 have hx := h.xb
 have hs := h.md.low.1
 exact ⟨h.md.csTo hg ho hat, by rw [World.size_setCell]; exact Nat.le_trans h.hb hg.size, heap_grown hg2 (heap_grown hg h.bx (fun e => own_not29 h.md.cs h.bx (by decide) e.symm)) (fun e => by injection e with e; omega), h.xb, heap_grown hg2 (heap_grown hg h.br (fun e => own_not29 h.md.cs h.br (by decide) e.symm)) (fun e => by injection e with e; omega), h.low⟩
theorem Sit.fsTo (h : Sit W base R M S X vs vu vf vc s x) {l : List Fd} (hg : W.grownBy W' vf.ownBlock) (ho : Own (fdM.on (fun b => BusyM M S vs vu vf vc b ∧ b < W.heap.size)) 59 base W' v' l.length l) (hat : v'.ownBlock = none ∨ v'.ownBlock = vf.ownBlock ∨ v'.ownBlock = some W.heap.size) : Sit (W'.setCell ⟨M, 0, none⟩ v') base R M S X vs vu v' vc { s with fields := l } x := by
 have hg2 : W'.grownBy (W'.setCell ⟨M, 0, none⟩ v') (some M) := grown_at grown_self 0 v'
 obtain ⟨l1, l2, l3⟩ := h.low
 have hx := h.xb
 have hs := h.md.low.1
 exact ⟨h.md.fsTo hg ho hat, by rw [World.size_setCell]; exact Nat.le_trans h.hb hg.size, heap_grown hg2 (heap_grown hg h.bx (fun e => own_not29 h.md.fs h.bx (by decide) e.symm)) (fun e => by injection e with e; omega), h.xb, heap_grown hg2 (heap_grown hg h.br (fun e => own_not29 h.md.fs h.br (by decide) e.symm)) (fun e => by injection e with e; omega), h.low⟩
theorem zeroed (h : W.heap[R]? = some zero40) : (((W.setCell ⟨R, 0, none⟩ (.slice none 0 0)).setCell ⟨R, 1, none⟩ (.slice none 0 0)).setCell ⟨R, 2, none⟩ (.bool false)).heap[R]? = some zero40 ∧ Below R W (((W.setCell ⟨R, 0, none⟩ (.slice none 0 0)).setCell ⟨R, 1, none⟩ (.slice none 0 0)).setCell ⟨R, 2, none⟩ (.bool false)) :=
 ⟨heap_store (heap_store (heap_store h _) _) _, (((Below.refl _ _).setCell (p := ⟨R, 0, none⟩) (Nat.le_refl _) _).setCell (p := ⟨R, 1, none⟩) (Nat.le_refl _) _).setCell (p := ⟨R, 2, none⟩) (Nat.le_refl _) _⟩
end
def LiveF (a : Act) (A : Option Addr) (n c : Nat) (R M S X F : Nat) (vs vu : Value) (s : RS) (i : Int) (x : It) : Prop := ∃ j : Nat → Value, a = ⟨#[.slice A n c, j 1, .pointer (some ⟨R, 0, none⟩), j 3, .pointer (some ⟨M, 0, none⟩), .pointer (some ⟨S, 0, none⟩), vs, vu, .int .i64 (keptI s), .int .i64 s.opn, .int .i64 i, .pointer (some ⟨X, 0, none⟩), .int .i64 x.data, j 13, j 14, j 15, j 16, .pointer (some ⟨F, 0, none⟩), j 18, j 19, j 20, j 21, j 22, j 23, j 24, j 25, j 26, j 27, j 28, j 29, j 30, j 31, j 32, j 33, j 34, j 35, j 36, j 37, j 38, j 39, j 40, j 41, j 42, j 43, j 44, j 45, j 46, j 47, j 48, j 49, j 50, j 51, j 52, j 53, j 54, j 55, j 56, j 57, j 58, j 59, j 60, j 61, j 62, j 63, j 64, j 65, j 66, j 67, j 68, j 69, j 70, j 71, j 72, j 73, j 74, j 75, j 76, j 77, j 78, j 79, j 80, j 81, j 82, j 83, j 84, j 85, j 86, j 87, j 88, j 89, j 90, j 91, j 92, j 93, j 94, j 95, j 96, j 97, j 98, j 99, j 100, j 101, j 102, j 103, j 104, j 105, j 106, j 107, j 108, j 109, j 110, j 111, j 112, j 113, j 114, j 115, j 116, j 117, j 118, j 119, j 120, j 121, j 122, j 123, j 124, j 125, j 126, j 127, j 128, j 129, j 130, j 131, j 132, j 133, j 134, j 135, j 136, j 137, j 138, j 139, j 140, j 141, j 142, j 143, j 144, j 145, j 146, j 147, j 148, j 149, j 150, j 151, j 152, j 153, j 154, j 155, j 156, j 157, j 158, j 159, j 160, j 161, j 162, j 163, j 164, j 165, j 166, j 167, j 168, j 169, j 170, j 171, j 172, j 173, j 174, j 175, j 176, j 177, j 178, j 179, j 180, j 181, j 182, j 183, j 184, j 185, j 186, j 187, j 188, j 189, j 190, j 191, j 192, j 193, j 194, j 195, j 196, j 197, j 198, j 199, j 200, j 201, j 202, j 203, j 204, j 205, j 206, j 207, j 208, j 209, j 210, j 211, j 212, j 213, j 214, j 215, j 216, j 217, j 218, j 219, j 220, j 221, j 222, j 223, j 224, j 225, j 226, j 227, j 228, j 229, j 230, j 231, j 232, j 233, j 234, j 235, j 236, j 237, j 238, j 239, j 240, j 241, j 242, j 243, j 244, j 245, j 246, j 247, j 248, j 249, j 250, j 251, j 252, j 253, j 254, j 255, j 256, j 257, j 258, j 259, j 260, j 261, j 262, j 263, j 264, j 265, j 266, j 267, j 268, j 269, j 270, j 271, j 272, j 273, j 274, j 275, j 276, j 277, j 278, j 279, j 280, j 281, j 282, j 283, j 284, j 285, j 286, j 287, j 288, j 289, j 290, j 291, j 292, j 293, j 294, j 295, j 296, j 297, j 298, j 299, j 300, j 301, j 302, j 303, j 304, j 305, j 306, j 307, j 308, j 309, j 310, j 311, j 312, j 313, j 314, j 315, j 316, j 317, j 318, j 319, j 320, j 321, j 322, j 323, j 324, j 325, j 326, j 327, j 328, j 329, j 330, j 331, j 332, j 333, j 334, j 335, j 336, j 337, j 338, j 339, j 340, j 341, j 342, j 343, j 344, j 345, j 346, j 347, j 348, j 349, j 350, j 351, j 352, j 353, j 354, j 355, j 356, j 357, j 358, j 359, j 360, j 361, j 362, j 363, j 364, j 365, j 366, j 367, j 368, j 369, j 370, j 371, j 372, j 373, j 374, j 375, j 376, j 377, j 378, j 379, j 380, j 381, j 382, j 383, j 384, j 385, j 386, j 387, j 388, j 389, j 390, j 391, j 392, j 393, j 394, j 395, j 396, j 397, j 398, j 399, j 400, j 401, j 402, j 403, j 404, j 405, j 406, j 407, j 408, j 409, j 410, j 411, j 412, j 413, j 414, j 415, j 416, j 417, j 418, j 419, j 420, j 421, j 422, j 423, j 424, j 425, j 426, j 427, j 428, j 429, j 430, j 431, j 432, j 433, j 434, j 435, j 436, j 437, j 438, j 439, j 440, j 441, j 442, j 443, j 444, j 445], []⟩
def LiveG (a : Act) (A : Option Addr) (n c : Nat) (R M S X F : Nat) (vs vu : Value) (s : RS) (i : Int) (x : It) (least most : Int) : Prop := ∃ j : Nat → Value, a = ⟨#[.slice A n c, j 1, .pointer (some ⟨R, 0, none⟩), j 3, .pointer (some ⟨M, 0, none⟩), .pointer (some ⟨S, 0, none⟩), vs, vu, .int .i64 (keptI s), .int .i64 s.opn, .int .i64 i, .pointer (some ⟨X, 0, none⟩), .int .i64 x.data, j 13, j 14, j 15, j 16, .pointer (some ⟨F, 0, none⟩), j 18, .int .i64 least, .int .i64 most, j 21, j 22, j 23, j 24, j 25, j 26, j 27, j 28, j 29, j 30, j 31, j 32, j 33, j 34, j 35, j 36, j 37, j 38, j 39, j 40, j 41, j 42, j 43, j 44, j 45, j 46, j 47, j 48, j 49, j 50, j 51, j 52, j 53, j 54, j 55, j 56, j 57, j 58, j 59, j 60, j 61, j 62, j 63, j 64, j 65, j 66, j 67, j 68, j 69, j 70, j 71, j 72, j 73, j 74, j 75, j 76, j 77, j 78, j 79, j 80, j 81, j 82, j 83, j 84, j 85, j 86, j 87, j 88, j 89, j 90, j 91, j 92, j 93, j 94, j 95, j 96, j 97, j 98, j 99, j 100, j 101, j 102, j 103, j 104, j 105, j 106, j 107, j 108, j 109, j 110, j 111, j 112, j 113, j 114, j 115, j 116, j 117, j 118, j 119, j 120, j 121, j 122, j 123, j 124, j 125, j 126, j 127, j 128, j 129, j 130, j 131, j 132, j 133, j 134, j 135, j 136, j 137, j 138, j 139, j 140, j 141, j 142, j 143, j 144, j 145, j 146, j 147, j 148, j 149, j 150, j 151, j 152, j 153, j 154, j 155, j 156, j 157, j 158, j 159, j 160, j 161, j 162, j 163, j 164, j 165, j 166, j 167, j 168, j 169, j 170, j 171, j 172, j 173, j 174, j 175, j 176, j 177, j 178, j 179, j 180, j 181, j 182, j 183, j 184, j 185, j 186, j 187, j 188, j 189, j 190, j 191, j 192, j 193, j 194, j 195, j 196, j 197, j 198, j 199, j 200, j 201, j 202, j 203, j 204, j 205, j 206, j 207, j 208, j 209, j 210, j 211, j 212, j 213, j 214, j 215, j 216, j 217, j 218, j 219, j 220, j 221, j 222, j 223, j 224, j 225, j 226, j 227, j 228, j 229, j 230, j 231, j 232, j 233, j 234, j 235, j 236, j 237, j 238, j 239, j 240, j 241, j 242, j 243, j 244, j 245, j 246, j 247, j 248, j 249, j 250, j 251, j 252, j 253, j 254, j 255, j 256, j 257, j 258, j 259, j 260, j 261, j 262, j 263, j 264, j 265, j 266, j 267, j 268, j 269, j 270, j 271, j 272, j 273, j 274, j 275, j 276, j 277, j 278, j 279, j 280, j 281, j 282, j 283, j 284, j 285, j 286, j 287, j 288, j 289, j 290, j 291, j 292, j 293, j 294, j 295, j 296, j 297, j 298, j 299, j 300, j 301, j 302, j 303, j 304, j 305, j 306, j 307, j 308, j 309, j 310, j 311, j 312, j 313, j 314, j 315, j 316, j 317, j 318, j 319, j 320, j 321, j 322, j 323, j 324, j 325, j 326, j 327, j 328, j 329, j 330, j 331, j 332, j 333, j 334, j 335, j 336, j 337, j 338, j 339, j 340, j 341, j 342, j 343, j 344, j 345, j 346, j 347, j 348, j 349, j 350, j 351, j 352, j 353, j 354, j 355, j 356, j 357, j 358, j 359, j 360, j 361, j 362, j 363, j 364, j 365, j 366, j 367, j 368, j 369, j 370, j 371, j 372, j 373, j 374, j 375, j 376, j 377, j 378, j 379, j 380, j 381, j 382, j 383, j 384, j 385, j 386, j 387, j 388, j 389, j 390, j 391, j 392, j 393, j 394, j 395, j 396, j 397, j 398, j 399, j 400, j 401, j 402, j 403, j 404, j 405, j 406, j 407, j 408, j 409, j 410, j 411, j 412, j 413, j 414, j 415, j 416, j 417, j 418, j 419, j 420, j 421, j 422, j 423, j 424, j 425, j 426, j 427, j 428, j 429, j 430, j 431, j 432, j 433, j 434, j 435, j 436, j 437, j 438, j 439, j 440, j 441, j 442, j 443, j 444, j 445], []⟩
structure Bxd (W W1 : World) (F : Nat) (A' : Option Addr) (cap : Nat) (s : RS) (b1 b2 b4 : Bool) (k pos sz ct : Int) : Prop where
 kept : Kept W W1
 box : W1.heap[F]? = some (.cells #[.int .u8 k, .int .u8 s.g.report, .int .i64 s.opn, .slice A' s.usages.length cap, .int .i64 s.g.lo, .int .i64 s.g.hi, .int .i64 sz, .int .i64 ct, .int .i64 pos, .bool b1, .bool b2, .bool (decide (s.g.lo < 0)), .bool b4] 59 (0, 0))
 new : W.heap.size ≤ F
 us : Own u32T 27 W.heap.size W1 (.slice A' s.usages.length cap) s.usages.length s.usages
def Flags (x : It) (b1 b2 b4 : Bool) : Prop := b1 = (x.data % 2 == 1) ∧ b2 = (x.data / 2 % 2 == 0) ∧ b4 = (x.data / 4 % 2 == 1)
theorem own_not59 {α : Type} {W : World} {t : Ty α} {e : TypeId} {base n : Nat} {v : Value} {xs : List α} (ho : Own t e base W v n xs) {k : Nat} {cs : Array Value} {t2 : TypeId} (hk : W.heap[k]? = some (.cells cs t2 (0, 0))) (he : e ≠ t2) : v.ownBlock ≠ some k := own_not29 ho hk he
theorem fd_rel {W W1 W4 : World} {base R M S X F cap : Nat} {A' : Option Addr} {vs vu vf vc : Value} {s : RS} {x : It} {b1 b2 b4 : Bool} {k pos sz ct : Int} {fd : Fd} {cs : List Value} (hF : fd.cellsC A' cap = cs)
  (h : Sit W base R M S X vs vu vf vc s x) (hB : Bxd W W1 F A' cap s b1 b2 b4 k pos sz ct) (hk : Kept W1 W4) (hu : fd.usages = s.usages) :
  (fdM.on (fun b => BusyM M S vs vu vf vc b ∧ b < W4.heap.size)).rel W4 (apart W4 vf) fd cs := by
 obtain ⟨A, c, e, hc1, hc2⟩ := hB.us.isSlice
 injection e with e1 e2 e3
 subst e1 e3
 have hm := heap_lt h.md.bm
 have hs := heap_lt h.md.bs
 have hS : Sl u32T W1 (fun g => W.heap.size ≤ g ∧ g < W1.heap.size) A' s.usages.length s.usages := hB.us.sl_of _ (fun g h1 h2 => ⟨h1, h2⟩) (fun _ _ hr => hr)
 refine ⟨A', cap, hF.symm, by rw [hu]; exact hc1, hc2, ?_⟩
 rw [hu]
 refine hS.keep (fun g hg => ?_) (fun b o hb => hk.cell (p := ⟨b, o, none⟩) hb.2)
 have hg1 := hg.1
 have hg2 := Nat.lt_of_lt_of_le hg.2 hk.size
 exact ⟨⟨hg2, fun e => absurd (h.md.fs.lt e).2 (by omega)⟩, ⟨by omega, by omega, fun e => absurd (h.md.st.lt e).2 (by omega), fun e => absurd (h.md.us.lt e).2 (by omega), fun e => absurd (h.md.fs.lt e).2 (by omega), fun e => absurd (h.md.cs.lt e).2 (by omega)⟩, hg2⟩
section
variable {W W1 W2 : World} {F cap : Nat} {A' : Option Addr} {s : RS} {b1 b2 b4 : Bool} {k pos sz ct : Int}
theorem Bxd.on (h : Bxd W W1 F A' cap s b1 b2 b4 k pos sz ct) (hk : Kept W1 W2) : Bxd W W2 F A' cap s b1 b2 b4 k pos sz ct := ⟨h.kept.trans' hk, heap_kept hk h.box, h.new, h.us.kept hk⟩
theorem Bxd.set (h : Bxd W W1 F A' cap s b1 b2 b4 k pos sz ct) (i : Nat) (u : Value) {k' pos' sz' ct' : Int} (hc : (#[.int .u8 k, .int .u8 s.g.report, .int .i64 s.opn, .slice A' s.usages.length cap, .int .i64 s.g.lo, .int .i64 s.g.hi, .int .i64 sz, .int .i64 ct, .int .i64 pos, .bool b1, .bool b2, .bool (decide (s.g.lo < 0)), .bool b4]).setIfInBounds i u = #[.int .u8 k', .int .u8 s.g.report, .int .i64 s.opn, .slice A' s.usages.length cap, .int .i64 s.g.lo, .int .i64 s.g.hi, .int .i64 sz', .int .i64 ct', .int .i64 pos', .bool b1, .bool b2, .bool (decide (s.g.lo < 0)), .bool b4]) : Bxd W (W1.setCell ⟨F, i, none⟩ u) F A' cap s b1 b2 b4 k' pos' sz' ct' := by
 have hg : W1.grownBy (W1.setCell ⟨F, i, none⟩ u) (some F) := grown_at grown_self i u
 exact ⟨h.kept.trans ((Below.refl _ _).setCell (p := ⟨F, i, none⟩) h.new _), by rw [← hc]; exact heap_store h.box u, h.new, h.us.grownF flat_u32 hg (.inr (own_not59 h.us h.box (by decide)))⟩
end
set_option maxRecDepth 100000 in
theorem frame_f {a : Act} {v0 v2 v4 v5 v6 v7 v8 v9 v10 v11 v12 v17 : Value} (hs : a.tmps.size = 446) (hm : a.defers = []) (h0 : a.tmps[0]? = some v0) (h2 : a.tmps[2]? = some v2) (h4 : a.tmps[4]? = some v4) (h5 : a.tmps[5]? = some v5) (h6 : a.tmps[6]? = some v6) (h7 : a.tmps[7]? = some v7) (h8 : a.tmps[8]? = some v8) (h9 : a.tmps[9]? = some v9) (h10 : a.tmps[10]? = some v10) (h11 : a.tmps[11]? = some v11) (h12 : a.tmps[12]? = some v12) (h17 : a.tmps[17]? = some v17) : ∃ j : Nat → Value, a = ⟨#[v0, j 1, v2, j 3, v4, v5, v6, v7, v8, v9, v10, v11, v12, j 13, j 14, j 15, j 16, v17, j 18, j 19, j 20, j 21, j 22, j 23, j 24, j 25, j 26, j 27, j 28, j 29, j 30, j 31, j 32, j 33, j 34, j 35, j 36, j 37, j 38, j 39, j 40, j 41, j 42, j 43, j 44, j 45, j 46, j 47, j 48, j 49, j 50, j 51, j 52, j 53, j 54, j 55, j 56, j 57, j 58, j 59, j 60, j 61, j 62, j 63, j 64, j 65, j 66, j 67, j 68, j 69, j 70, j 71, j 72, j 73, j 74, j 75, j 76, j 77, j 78, j 79, j 80, j 81, j 82, j 83, j 84, j 85, j 86, j 87, j 88, j 89, j 90, j 91, j 92, j 93, j 94, j 95, j 96, j 97, j 98, j 99, j 100, j 101, j 102, j 103, j 104, j 105, j 106, j 107, j 108, j 109, j 110, j 111, j 112, j 113, j 114, j 115, j 116, j 117, j 118, j 119, j 120, j 121, j 122, j 123, j 124, j 125, j 126, j 127, j 128, j 129, j 130, j 131, j 132, j 133, j 134, j 135, j 136, j 137, j 138, j 139, j 140, j 141, j 142, j 143, j 144, j 145, j 146, j 147, j 148, j 149, j 150, j 151, j 152, j 153, j 154, j 155, j 156, j 157, j 158, j 159, j 160, j 161, j 162, j 163, j 164, j 165, j 166, j 167, j 168, j 169, j 170, j 171, j 172, j 173, j 174, j 175, j 176, j 177, j 178, j 179, j 180, j 181, j 182, j 183, j 184, j 185, j 186, j 187, j 188, j 189, j 190, j 191, j 192, j 193, j 194, j 195, j 196, j 197, j 198, j 199, j 200, j 201, j 202, j 203, j 204, j 205, j 206, j 207, j 208, j 209, j 210, j 211, j 212, j 213, j 214, j 215, j 216, j 217, j 218, j 219, j 220, j 221, j 222, j 223, j 224, j 225, j 226, j 227, j 228, j 229, j 230, j 231, j 232, j 233, j 234, j 235, j 236, j 237, j 238, j 239, j 240, j 241, j 242, j 243, j 244, j 245, j 246, j 247, j 248, j 249, j 250, j 251, j 252, j 253, j 254, j 255, j 256, j 257, j 258, j 259, j 260, j 261, j 262, j 263, j 264, j 265, j 266, j 267, j 268, j 269, j 270, j 271, j 272, j 273, j 274, j 275, j 276, j 277, j 278, j 279, j 280, j 281, j 282, j 283, j 284, j 285, j 286, j 287, j 288, j 289, j 290, j 291, j 292, j 293, j 294, j 295, j 296, j 297, j 298, j 299, j 300, j 301, j 302, j 303, j 304, j 305, j 306, j 307, j 308, j 309, j 310, j 311, j 312, j 313, j 314, j 315, j 316, j 317, j 318, j 319, j 320, j 321, j 322, j 323, j 324, j 325, j 326, j 327, j 328, j 329, j 330, j 331, j 332, j 333, j 334, j 335, j 336, j 337, j 338, j 339, j 340, j 341, j 342, j 343, j 344, j 345, j 346, j 347, j 348, j 349, j 350, j 351, j 352, j 353, j 354, j 355, j 356, j 357, j 358, j 359, j 360, j 361, j 362, j 363, j 364, j 365, j 366, j 367, j 368, j 369, j 370, j 371, j 372, j 373, j 374, j 375, j 376, j 377, j 378, j 379, j 380, j 381, j 382, j 383, j 384, j 385, j 386, j 387, j 388, j 389, j 390, j 391, j 392, j 393, j 394, j 395, j 396, j 397, j 398, j 399, j 400, j 401, j 402, j 403, j 404, j 405, j 406, j 407, j 408, j 409, j 410, j 411, j 412, j 413, j 414, j 415, j 416, j 417, j 418, j 419, j 420, j 421, j 422, j 423, j 424, j 425, j 426, j 427, j 428, j 429, j 430, j 431, j 432, j 433, j 434, j 435, j 436, j 437, j 438, j 439, j 440, j 441, j 442, j 443, j 444, j 445], []⟩ := by
 obtain ⟨⟨l⟩, m⟩ := a
 have hm' : m = [] := hm
 subst hm'
 obtain ⟨f, hf, hl⟩ := list_fn l 446 hs
 have e0 := hf 0 (by omega)
 have k0 : l[0]? = some v0 := by rw [← h0]; exact List.getElem?_toArray.symm
 rw [k0] at e0
 injection e0 with e0
 have e2 := hf 2 (by omega)
 have k2 : l[2]? = some v2 := by rw [← h2]; exact List.getElem?_toArray.symm
 rw [k2] at e2
 injection e2 with e2
 have e4 := hf 4 (by omega)
 have k4 : l[4]? = some v4 := by rw [← h4]; exact List.getElem?_toArray.symm
 rw [k4] at e4
 injection e4 with e4
 have e5 := hf 5 (by omega)
 have k5 : l[5]? = some v5 := by rw [← h5]; exact List.getElem?_toArray.symm
 rw [k5] at e5
 injection e5 with e5
 have e6 := hf 6 (by omega)
 have k6 : l[6]? = some v6 := by rw [← h6]; exact List.getElem?_toArray.symm
 rw [k6] at e6
 injection e6 with e6
 have e7 := hf 7 (by omega)
 have k7 : l[7]? = some v7 := by rw [← h7]; exact List.getElem?_toArray.symm
 rw [k7] at e7
 injection e7 with e7
 have e8 := hf 8 (by omega)
 have k8 : l[8]? = some v8 := by rw [← h8]; exact List.getElem?_toArray.symm
 rw [k8] at e8
 injection e8 with e8
 have e9 := hf 9 (by omega)
 have k9 : l[9]? = some v9 := by rw [← h9]; exact List.getElem?_toArray.symm
 rw [k9] at e9
 injection e9 with e9
 have e10 := hf 10 (by omega)
 have k10 : l[10]? = some v10 := by rw [← h10]; exact List.getElem?_toArray.symm
 rw [k10] at e10
 injection e10 with e10
 have e11 := hf 11 (by omega)
 have k11 : l[11]? = some v11 := by rw [← h11]; exact List.getElem?_toArray.symm
 rw [k11] at e11
 injection e11 with e11
 have e12 := hf 12 (by omega)
 have k12 : l[12]? = some v12 := by rw [← h12]; exact List.getElem?_toArray.symm
 rw [k12] at e12
 injection e12 with e12
 have e17 := hf 17 (by omega)
 have k17 : l[17]? = some v17 := by rw [← h17]; exact List.getElem?_toArray.symm
 rw [k17] at e17
 injection e17 with e17
 clear h0 k0
 subst e0
 clear h2 k2
 subst e2
 clear h4 k4
 subst e4
 clear h5 k5
 subst e5
 clear h6 k6
 subst e6
 clear h7 k7
 subst e7
 clear h8 k8
 subst e8
 clear h9 k9
 subst e9
 clear h10 k10
 subst e10
 clear h11 k11
 subst e11
 clear h12 k12
 subst e12
 clear h17 k17
 subst e17
 exact ⟨f, by rw [hl]; rfl⟩
set_option maxRecDepth 100000 in
theorem frame_g {a : Act} {v0 v2 v4 v5 v6 v7 v8 v9 v10 v11 v12 v17 v19 v20 : Value} (hs : a.tmps.size = 446) (hm : a.defers = []) (h0 : a.tmps[0]? = some v0) (h2 : a.tmps[2]? = some v2) (h4 : a.tmps[4]? = some v4) (h5 : a.tmps[5]? = some v5) (h6 : a.tmps[6]? = some v6) (h7 : a.tmps[7]? = some v7) (h8 : a.tmps[8]? = some v8) (h9 : a.tmps[9]? = some v9) (h10 : a.tmps[10]? = some v10) (h11 : a.tmps[11]? = some v11) (h12 : a.tmps[12]? = some v12) (h17 : a.tmps[17]? = some v17) (h19 : a.tmps[19]? = some v19) (h20 : a.tmps[20]? = some v20) : ∃ j : Nat → Value, a = ⟨#[v0, j 1, v2, j 3, v4, v5, v6, v7, v8, v9, v10, v11, v12, j 13, j 14, j 15, j 16, v17, j 18, v19, v20, j 21, j 22, j 23, j 24, j 25, j 26, j 27, j 28, j 29, j 30, j 31, j 32, j 33, j 34, j 35, j 36, j 37, j 38, j 39, j 40, j 41, j 42, j 43, j 44, j 45, j 46, j 47, j 48, j 49, j 50, j 51, j 52, j 53, j 54, j 55, j 56, j 57, j 58, j 59, j 60, j 61, j 62, j 63, j 64, j 65, j 66, j 67, j 68, j 69, j 70, j 71, j 72, j 73, j 74, j 75, j 76, j 77, j 78, j 79, j 80, j 81, j 82, j 83, j 84, j 85, j 86, j 87, j 88, j 89, j 90, j 91, j 92, j 93, j 94, j 95, j 96, j 97, j 98, j 99, j 100, j 101, j 102, j 103, j 104, j 105, j 106, j 107, j 108, j 109, j 110, j 111, j 112, j 113, j 114, j 115, j 116, j 117, j 118, j 119, j 120, j 121, j 122, j 123, j 124, j 125, j 126, j 127, j 128, j 129, j 130, j 131, j 132, j 133, j 134, j 135, j 136, j 137, j 138, j 139, j 140, j 141, j 142, j 143, j 144, j 145, j 146, j 147, j 148, j 149, j 150, j 151, j 152, j 153, j 154, j 155, j 156, j 157, j 158, j 159, j 160, j 161, j 162, j 163, j 164, j 165, j 166, j 167, j 168, j 169, j 170, j 171, j 172, j 173, j 174, j 175, j 176, j 177, j 178, j 179, j 180, j 181, j 182, j 183, j 184, j 185, j 186, j 187, j 188, j 189, j 190, j 191, j 192, j 193, j 194, j 195, j 196, j 197, j 198, j 199, j 200, j 201, j 202, j 203, j 204, j 205, j 206, j 207, j 208, j 209, j 210, j 211, j 212, j 213, j 214, j 215, j 216, j 217, j 218, j 219, j 220, j 221, j 222, j 223, j 224, j 225, j 226, j 227, j 228, j 229, j 230, j 231, j 232, j 233, j 234, j 235, j 236, j 237, j 238, j 239, j 240, j 241, j 242, j 243, j 244, j 245, j 246, j 247, j 248, j 249, j 250, j 251, j 252, j 253, j 254, j 255, j 256, j 257, j 258, j 259, j 260, j 261, j 262, j 263, j 264, j 265, j 266, j 267, j 268, j 269, j 270, j 271, j 272, j 273, j 274, j 275, j 276, j 277, j 278, j 279, j 280, j 281, j 282, j 283, j 284, j 285, j 286, j 287, j 288, j 289, j 290, j 291, j 292, j 293, j 294, j 295, j 296, j 297, j 298, j 299, j 300, j 301, j 302, j 303, j 304, j 305, j 306, j 307, j 308, j 309, j 310, j 311, j 312, j 313, j 314, j 315, j 316, j 317, j 318, j 319, j 320, j 321, j 322, j 323, j 324, j 325, j 326, j 327, j 328, j 329, j 330, j 331, j 332, j 333, j 334, j 335, j 336, j 337, j 338, j 339, j 340, j 341, j 342, j 343, j 344, j 345, j 346, j 347, j 348, j 349, j 350, j 351, j 352, j 353, j 354, j 355, j 356, j 357, j 358, j 359, j 360, j 361, j 362, j 363, j 364, j 365, j 366, j 367, j 368, j 369, j 370, j 371, j 372, j 373, j 374, j 375, j 376, j 377, j 378, j 379, j 380, j 381, j 382, j 383, j 384, j 385, j 386, j 387, j 388, j 389, j 390, j 391, j 392, j 393, j 394, j 395, j 396, j 397, j 398, j 399, j 400, j 401, j 402, j 403, j 404, j 405, j 406, j 407, j 408, j 409, j 410, j 411, j 412, j 413, j 414, j 415, j 416, j 417, j 418, j 419, j 420, j 421, j 422, j 423, j 424, j 425, j 426, j 427, j 428, j 429, j 430, j 431, j 432, j 433, j 434, j 435, j 436, j 437, j 438, j 439, j 440, j 441, j 442, j 443, j 444, j 445], []⟩ := by
 obtain ⟨⟨l⟩, m⟩ := a
 have hm' : m = [] := hm
 subst hm'
 obtain ⟨f, hf, hl⟩ := list_fn l 446 hs
 have e0 := hf 0 (by omega)
 have k0 : l[0]? = some v0 := by rw [← h0]; exact List.getElem?_toArray.symm
 rw [k0] at e0
 injection e0 with e0
 have e2 := hf 2 (by omega)
 have k2 : l[2]? = some v2 := by rw [← h2]; exact List.getElem?_toArray.symm
 rw [k2] at e2
 injection e2 with e2
 have e4 := hf 4 (by omega)
 have k4 : l[4]? = some v4 := by rw [← h4]; exact List.getElem?_toArray.symm
 rw [k4] at e4
 injection e4 with e4
 have e5 := hf 5 (by omega)
 have k5 : l[5]? = some v5 := by rw [← h5]; exact List.getElem?_toArray.symm
 rw [k5] at e5
 injection e5 with e5
 have e6 := hf 6 (by omega)
 have k6 : l[6]? = some v6 := by rw [← h6]; exact List.getElem?_toArray.symm
 rw [k6] at e6
 injection e6 with e6
 have e7 := hf 7 (by omega)
 have k7 : l[7]? = some v7 := by rw [← h7]; exact List.getElem?_toArray.symm
 rw [k7] at e7
 injection e7 with e7
 have e8 := hf 8 (by omega)
 have k8 : l[8]? = some v8 := by rw [← h8]; exact List.getElem?_toArray.symm
 rw [k8] at e8
 injection e8 with e8
 have e9 := hf 9 (by omega)
 have k9 : l[9]? = some v9 := by rw [← h9]; exact List.getElem?_toArray.symm
 rw [k9] at e9
 injection e9 with e9
 have e10 := hf 10 (by omega)
 have k10 : l[10]? = some v10 := by rw [← h10]; exact List.getElem?_toArray.symm
 rw [k10] at e10
 injection e10 with e10
 have e11 := hf 11 (by omega)
 have k11 : l[11]? = some v11 := by rw [← h11]; exact List.getElem?_toArray.symm
 rw [k11] at e11
 injection e11 with e11
 have e12 := hf 12 (by omega)
 have k12 : l[12]? = some v12 := by rw [← h12]; exact List.getElem?_toArray.symm
 rw [k12] at e12
 injection e12 with e12
 have e17 := hf 17 (by omega)
 have k17 : l[17]? = some v17 := by rw [← h17]; exact List.getElem?_toArray.symm
 rw [k17] at e17
 injection e17 with e17
 have e19 := hf 19 (by omega)
 have k19 : l[19]? = some v19 := by rw [← h19]; exact List.getElem?_toArray.symm
 rw [k19] at e19
 injection e19 with e19
 have e20 := hf 20 (by omega)
 have k20 : l[20]? = some v20 := by rw [← h20]; exact List.getElem?_toArray.symm
 rw [k20] at e20
 injection e20 with e20
 clear h0 k0
 subst e0
 clear h2 k2
 subst e2
 clear h4 k4
 subst e4
 clear h5 k5
 subst e5
 clear h6 k6
 subst e6
 clear h7 k7
 subst e7
 clear h8 k8
 subst e8
 clear h9 k9
 subst e9
 clear h10 k10
 subst e10
 clear h11 k11
 subst e11
 clear h12 k12
 subst e12
 clear h17 k17
 subst e17
 clear h19 k19
 subst e19
 clear h20 k20
 subst e20
 exact ⟨f, by rw [hl]; rfl⟩
end Go.Proofs.Ytegdigfcgeoboaa
