/- The law of the chapter on reports, part 39: Mc Kp. -/
import Derived.Test.YtegdigfcgeoboaaK38
set_option maxHeartbeats 16000000
set_option linter.unusedVariables false
set_option linter.unusedSimpArgs false
set_option linter.unusedSectionVars false
namespace Go.Proofs.Ytegdigfcgeoboaa
open Go.RowKit Go.Maps
attribute [local go_sem ↓] Go.wp_at_zero Go.wp_at_succ
def ModelPost (w : World) (E : Int) (s : RS) (e : Ending) (w' : World) : Prop := Kept w w' ∧
 ((E ≠ 0 ∧ e = .returned (.tuple #[.agg #[.slice none 0 0, .slice none 0 0, .bool false], .int .i64 E])) ∨
  (E = 0 ∧ ∃ Af nf Ac nc, e = .returned (.tuple #[.agg #[.slice Af s.fields.length nf, .slice Ac s.colls.length nc, .bool s.numbered], .int .i64 0]) ∧ Sl fdM w' (low w'.heap.size) Af s.fields.length s.fields ∧ Sl coT w' (low w'.heap.size) Ac s.colls.length s.colls))
theorem FrM.toBelow {base M S B : Nat} {w w' : World} (h : FrM base M S w w') (h1 : B ≤ base) (h2 : B ≤ M) (h3 : B ≤ S) : Below B w w' := ⟨h.os, h.tape, h.output, h.size, fun k hk => h.block k (by omega) (by omega) (by omega)⟩
theorem run_stepS {l : List It} {i : Nat} {x : It} {s s' : RS} (hx : l[i]? = some x) (hr : runS (l.take i) rs0 = (0, s)) (he : effS s x = (0, s')) : runS (l.take (i + 1)) rs0 = (0, clearS s' x) := by
 obtain ⟨h1, h2⟩ := List.getElem?_eq_some_iff.1 hx
 rw [List.take_succ_eq_append_getElem h1, h2, runS_snoc _ _ _ (by rw [hr]), hr, he]
 rfl
theorem parse_bad {l : List It} {i : Nat} {x : It} {s : RS} {E : Int} (hx : l[i]? = some x) (hr : runS (l.take i) rs0 = (0, s)) (he : (effS s x).1 = E) (hne : E ≠ 0) : (parseS l).1 = E := by
 obtain ⟨h1, h2⟩ := List.getElem?_eq_some_iff.1 hx
 have h3 : runS (l.take (i + 1)) rs0 = effS s x := by
  rw [List.take_succ_eq_append_getElem h1, h2, runS_snoc _ _ _ (by rw [hr]), hr, if_pos (by rw [he]; exact hne)]
 have h4 : runS l rs0 = effS s x := by
  have := runS_stop (l.take (i + 1)) rs0 (l.drop (i + 1)) (by rw [h3, he]; exact hne)
  rw [List.take_append_drop, h3] at this
  exact this
 unfold parseS
 rw [h4, if_pos (by rw [he]; exact hne), he]
theorem sl_unon {α : Type} {t : Ty α} {X : Nat → Prop} {w : World} {F : Nat → Prop} {A : Option Addr} {n : Nat} {xs : List α} (h : Sl (t.on X) w F A n xs) : Sl t w F A n xs := by
 refine ⟨h.1, fun i x hx => ?_⟩
 obtain ⟨b, off, cs, e, hb, hr, hc⟩ := h.2 i x hx
 exact ⟨b, off, cs, e, hb, t.keep hr (fun b hb => hb.1) (fun _ _ _ => rfl), hc⟩
def NoInt (w : World) (R : Nat) : Prop := ∀ o k z, w.cell? ⟨R, o, none⟩ ≠ some (.int k z)
theorem sl_noi {α : Type} {t : Ty α} {w : World} {F F' : Nat → Prop} {A : Option Addr} {n R : Nat} {xs : List α} (hn : NoInt w R) (hF : ∀ b, F b → b ≠ R → F' b) (hcs : ∀ x cs, t.rel w F x cs → (∃ k z r, cs = Value.int k z :: r) ∧ t.rel w F' x cs) (h : Sl t w F A n xs) : Sl t w F' A n xs := by
 refine ⟨h.1, fun i x hx => ?_⟩
 obtain ⟨b, off, cs, e, hb, hr, hc⟩ := h.2 i x hx
 obtain ⟨⟨k, z, r, rfl⟩, hr'⟩ := hcs x cs hr
 refine ⟨b, off, _, e, hF b hb ?_, hr', hc⟩
 rintro rfl
 exact hn _ _ _ (hc 0 _ rfl)
theorem sl_ne32 {w : World} {F F' : Nat → Prop} {A : Option Addr} {n R : Nat} {xs : List Int} (hn : NoInt w R) (hF : ∀ b, F b → b ≠ R → F' b) (h : Sl u32T w F A n xs) : Sl u32T w F' A n xs :=
 sl_noi hn hF (fun x cs hr => ⟨⟨_, _, _, hr.1⟩, hr⟩) h
theorem sl_neCo {w : World} {F F' : Nat → Prop} {A : Option Addr} {n R : Nat} {xs : List Co} (hn : NoInt w R) (hF : ∀ b, F b → b ≠ R → F' b) (h : Sl coT w F A n xs) : Sl coT w F' A n xs :=
 sl_noi hn hF (fun x cs hr => ⟨⟨_, _, _, hr.1⟩, hr⟩) h
theorem sl_neFd {w : World} {F F' : Nat → Prop} {A : Option Addr} {n R : Nat} {xs : List Fd} (hn : NoInt w R) (hF : ∀ b, F b → b ≠ R → F' b) (h : Sl fdM w F A n xs) : Sl fdM w F' A n xs :=
 sl_noi hn hF (fun x cs hr => by
  obtain ⟨A, c, e, h1, h2, h3⟩ := hr
  exact ⟨⟨_, _, _, e⟩, A, c, e, h1, h2, sl_ne32 hn hF h3⟩) h
theorem noInt_zero {w : World} {R : Nat} (h : w.heap[R]? = some zero40) : NoInt w R := by
 intro o k z hc
 unfold zero40 at h
 match o, hc with
 | 0, hc => cases (cell_heap h (o := 0) rfl).symm.trans hc
 | 1, hc => cases (cell_heap h (o := 1) rfl).symm.trans hc
 | 2, hc => cases (cell_heap h (o := 2) rfl).symm.trans hc
 | o + 3, hc =>
  unfold World.cell? at hc
  simp [h] at hc
theorem ret13 {tm : Array Value} {w : World} {R : Nat} {a b c : Value} {E : Int} (h2 : tm[2]? = some (.pointer (some ⟨R, 0, none⟩))) (h3 : tm[3]? = some (.int .i64 E)) (h : w.heap[R]? = some (.cells #[a, b, c] 40 (0, 0))) : (results Try.f13 tm).run Try.prog w = .ok (.tuple #[.agg #[a, b, c], .int .i64 E]) w := by
 have c0 : w.cell? ⟨R, 0, none⟩ = some a := cell_heap h (o := 0) rfl
 have c1 : w.cell? ⟨R, 1, none⟩ = some b := cell_heap h (o := 1) rfl
 have c2 : w.cell? ⟨R, 2, none⟩ = some c := cell_heap h (o := 2) rfl
 simp [results, Try.results13, go_sem, Array.getD_eq_getD_getElem?, h2, h3, c0, c1, c2]
def LoopE (W : World) (A : Option Addr) (n c : Nat) (R M S : Nat) (vs vu : Value) (s : RS) (i : Int) (k : Nat) (a : Act) (wr : World) : Prop :=
 ∃ (y : Nat → Value) (m : Nat) (j : Int), a = ⟨#[.slice A n c, y 1, .pointer (some ⟨R, 0, none⟩), y 3, .pointer (some ⟨M, 0, none⟩), .pointer (some ⟨S, 0, none⟩), vs, vu, .int .i64 (keptI s), .int .i64 s.opn, .int .i64 i, y 11, y 12, y 13, y 14, y 15, y 16, y 17, y 18, y 19, y 20, .int .i64 j, y 22, y 23, y 24, y 25, y 26, y 27, y 28, y 29, y 30, y 31, y 32, y 33, y 34, y 35, y 36, y 37, y 38, y 39, y 40, y 41, y 42, y 43, y 44, y 45, y 46, y 47, y 48, y 49, y 50, y 51, y 52, y 53, y 54, y 55, y 56, y 57, y 58, y 59, y 60, y 61, y 62, y 63, y 64, y 65, y 66, y 67, y 68, y 69, y 70, y 71, y 72, y 73, y 74, y 75, y 76, y 77, y 78, y 79, y 80, y 81, y 82, y 83, y 84, y 85, y 86, y 87, y 88, y 89, y 90, y 91, y 92, y 93, y 94, y 95, y 96, y 97, y 98, y 99, y 100, y 101, y 102, y 103, y 104, y 105, y 106, y 107, y 108, y 109, y 110, y 111, y 112, y 113, y 114, y 115, y 116, y 117, y 118, y 119, y 120, y 121, y 122, y 123, y 124, y 125, y 126, y 127, y 128, y 129, y 130, y 131, y 132, y 133, y 134, y 135, y 136, y 137, y 138, y 139, y 140, y 141, y 142, y 143, y 144, y 145, y 146, y 147, y 148, y 149, y 150, y 151, y 152, y 153, y 154, y 155, y 156, y 157, y 158, y 159, y 160, y 161, y 162, y 163, y 164, y 165, y 166, y 167, y 168, y 169, y 170, y 171, y 172, y 173, y 174, y 175, y 176, y 177, y 178, y 179, y 180, y 181, y 182, y 183, y 184, y 185, y 186, y 187, y 188, y 189, y 190, y 191, y 192, y 193, y 194, y 195, y 196, y 197, y 198, y 199, y 200, y 201, y 202, y 203, y 204, y 205, y 206, y 207, y 208, y 209, y 210, y 211, y 212, y 213, y 214, y 215, y 216, y 217, y 218, y 219, y 220, y 221, y 222, y 223, y 224, y 225, y 226, y 227, y 228, y 229, y 230, y 231, y 232, y 233, y 234, y 235, y 236, y 237, y 238, y 239, y 240, y 241, y 242, y 243, y 244, y 245, y 246, y 247, y 248, y 249, y 250, y 251, y 252, y 253, y 254, y 255, y 256, y 257, y 258, y 259, y 260, y 261, y 262, y 263, y 264, y 265, y 266, y 267, y 268, y 269, y 270, y 271, y 272, y 273, y 274, y 275, y 276, y 277, y 278, y 279, y 280, y 281, y 282, y 283, y 284, y 285, y 286, y 287, y 288, y 289, y 290, y 291, y 292, y 293, y 294, y 295, y 296, y 297, y 298, y 299, y 300, y 301, y 302, y 303, y 304, y 305, y 306, y 307, y 308, y 309, y 310, y 311, y 312, y 313, y 314, y 315, y 316, y 317, y 318, y 319, y 320, y 321, y 322, y 323, y 324, y 325, y 326, y 327, y 328, y 329, y 330, y 331, y 332, y 333, y 334, y 335, y 336, y 337, y 338, y 339, y 340, y 341, y 342, y 343, y 344, y 345, y 346, y 347, y 348, y 349, y 350, y 351, y 352, y 353, y 354, y 355, y 356, y 357, y 358, y 359, y 360, y 361, y 362, y 363, y 364, y 365, y 366, y 367, y 368, y 369, y 370, y 371, y 372, y 373, y 374, y 375, y 376, y 377, y 378, y 379, y 380, y 381, y 382, y 383, y 384, y 385, y 386, y 387, y 388, y 389, y 390, y 391, y 392, y 393, y 394, y 395, y 396, y 397, y 398, y 399, y 400, y 401, y 402, y 403, y 404, y 405, y 406, y 407, y 408, y 409, y 410, y 411, y 412, y 413, y 414, y 415, y 416, y 417, y 418, y 419, y 420, y 421, y 422, y 423, y 424, y 425, y 426, y 427, y 428, y 429, y 430, y 431, y 432, y 433, y 434, y 435, y 436, y 437, y 438, y 439, y 440, y 441, y 442, y 443, y 444, y 445], []⟩ ∧ j = (m : Int) ∧ m + k = s.fields.length ∧ (s.numbered = true → ∀ f ∈ s.fields.take m, f.report ≠ 0) ∧ wr = W
theorem LoopE.of {W : World} {A : Option Addr} {n c : Nat} {R M S : Nat} {vs vu : Value} {s : RS} {i : Int} {k : Nat} {a : Act} {wr : World} {m : Nat} {j : Int} (hf : ∃ y : Nat → Value, a = ⟨#[.slice A n c, y 1, .pointer (some ⟨R, 0, none⟩), y 3, .pointer (some ⟨M, 0, none⟩), .pointer (some ⟨S, 0, none⟩), vs, vu, .int .i64 (keptI s), .int .i64 s.opn, .int .i64 i, y 11, y 12, y 13, y 14, y 15, y 16, y 17, y 18, y 19, y 20, .int .i64 j, y 22, y 23, y 24, y 25, y 26, y 27, y 28, y 29, y 30, y 31, y 32, y 33, y 34, y 35, y 36, y 37, y 38, y 39, y 40, y 41, y 42, y 43, y 44, y 45, y 46, y 47, y 48, y 49, y 50, y 51, y 52, y 53, y 54, y 55, y 56, y 57, y 58, y 59, y 60, y 61, y 62, y 63, y 64, y 65, y 66, y 67, y 68, y 69, y 70, y 71, y 72, y 73, y 74, y 75, y 76, y 77, y 78, y 79, y 80, y 81, y 82, y 83, y 84, y 85, y 86, y 87, y 88, y 89, y 90, y 91, y 92, y 93, y 94, y 95, y 96, y 97, y 98, y 99, y 100, y 101, y 102, y 103, y 104, y 105, y 106, y 107, y 108, y 109, y 110, y 111, y 112, y 113, y 114, y 115, y 116, y 117, y 118, y 119, y 120, y 121, y 122, y 123, y 124, y 125, y 126, y 127, y 128, y 129, y 130, y 131, y 132, y 133, y 134, y 135, y 136, y 137, y 138, y 139, y 140, y 141, y 142, y 143, y 144, y 145, y 146, y 147, y 148, y 149, y 150, y 151, y 152, y 153, y 154, y 155, y 156, y 157, y 158, y 159, y 160, y 161, y 162, y 163, y 164, y 165, y 166, y 167, y 168, y 169, y 170, y 171, y 172, y 173, y 174, y 175, y 176, y 177, y 178, y 179, y 180, y 181, y 182, y 183, y 184, y 185, y 186, y 187, y 188, y 189, y 190, y 191, y 192, y 193, y 194, y 195, y 196, y 197, y 198, y 199, y 200, y 201, y 202, y 203, y 204, y 205, y 206, y 207, y 208, y 209, y 210, y 211, y 212, y 213, y 214, y 215, y 216, y 217, y 218, y 219, y 220, y 221, y 222, y 223, y 224, y 225, y 226, y 227, y 228, y 229, y 230, y 231, y 232, y 233, y 234, y 235, y 236, y 237, y 238, y 239, y 240, y 241, y 242, y 243, y 244, y 245, y 246, y 247, y 248, y 249, y 250, y 251, y 252, y 253, y 254, y 255, y 256, y 257, y 258, y 259, y 260, y 261, y 262, y 263, y 264, y 265, y 266, y 267, y 268, y 269, y 270, y 271, y 272, y 273, y 274, y 275, y 276, y 277, y 278, y 279, y 280, y 281, y 282, y 283, y 284, y 285, y 286, y 287, y 288, y 289, y 290, y 291, y 292, y 293, y 294, y 295, y 296, y 297, y 298, y 299, y 300, y 301, y 302, y 303, y 304, y 305, y 306, y 307, y 308, y 309, y 310, y 311, y 312, y 313, y 314, y 315, y 316, y 317, y 318, y 319, y 320, y 321, y 322, y 323, y 324, y 325, y 326, y 327, y 328, y 329, y 330, y 331, y 332, y 333, y 334, y 335, y 336, y 337, y 338, y 339, y 340, y 341, y 342, y 343, y 344, y 345, y 346, y 347, y 348, y 349, y 350, y 351, y 352, y 353, y 354, y 355, y 356, y 357, y 358, y 359, y 360, y 361, y 362, y 363, y 364, y 365, y 366, y 367, y 368, y 369, y 370, y 371, y 372, y 373, y 374, y 375, y 376, y 377, y 378, y 379, y 380, y 381, y 382, y 383, y 384, y 385, y 386, y 387, y 388, y 389, y 390, y 391, y 392, y 393, y 394, y 395, y 396, y 397, y 398, y 399, y 400, y 401, y 402, y 403, y 404, y 405, y 406, y 407, y 408, y 409, y 410, y 411, y 412, y 413, y 414, y 415, y 416, y 417, y 418, y 419, y 420, y 421, y 422, y 423, y 424, y 425, y 426, y 427, y 428, y 429, y 430, y 431, y 432, y 433, y 434, y 435, y 436, y 437, y 438, y 439, y 440, y 441, y 442, y 443, y 444, y 445], []⟩) (hj : j = (m : Int)) (hm : m + k = s.fields.length) (hn : s.numbered = true → ∀ f ∈ s.fields.take m, f.report ≠ 0) (hw : wr = W) : LoopE W A n c R M S vs vu s i k a wr :=
 hf.elim fun y e => ⟨y, m, j, e, hj, hm, hn, hw⟩
set_option maxRecDepth 100000 in
theorem frame_e {a : Act} {v0 v2 v4 v5 v6 v7 v8 v9 v10 v21 : Value} (hs : a.tmps.size = 446) (hm : a.defers = []) (h0 : a.tmps[0]? = some v0) (h2 : a.tmps[2]? = some v2) (h4 : a.tmps[4]? = some v4) (h5 : a.tmps[5]? = some v5) (h6 : a.tmps[6]? = some v6) (h7 : a.tmps[7]? = some v7) (h8 : a.tmps[8]? = some v8) (h9 : a.tmps[9]? = some v9) (h10 : a.tmps[10]? = some v10) (h21 : a.tmps[21]? = some v21) : ∃ y : Nat → Value, a = ⟨#[v0, y 1, v2, y 3, v4, v5, v6, v7, v8, v9, v10, y 11, y 12, y 13, y 14, y 15, y 16, y 17, y 18, y 19, y 20, v21, y 22, y 23, y 24, y 25, y 26, y 27, y 28, y 29, y 30, y 31, y 32, y 33, y 34, y 35, y 36, y 37, y 38, y 39, y 40, y 41, y 42, y 43, y 44, y 45, y 46, y 47, y 48, y 49, y 50, y 51, y 52, y 53, y 54, y 55, y 56, y 57, y 58, y 59, y 60, y 61, y 62, y 63, y 64, y 65, y 66, y 67, y 68, y 69, y 70, y 71, y 72, y 73, y 74, y 75, y 76, y 77, y 78, y 79, y 80, y 81, y 82, y 83, y 84, y 85, y 86, y 87, y 88, y 89, y 90, y 91, y 92, y 93, y 94, y 95, y 96, y 97, y 98, y 99, y 100, y 101, y 102, y 103, y 104, y 105, y 106, y 107, y 108, y 109, y 110, y 111, y 112, y 113, y 114, y 115, y 116, y 117, y 118, y 119, y 120, y 121, y 122, y 123, y 124, y 125, y 126, y 127, y 128, y 129, y 130, y 131, y 132, y 133, y 134, y 135, y 136, y 137, y 138, y 139, y 140, y 141, y 142, y 143, y 144, y 145, y 146, y 147, y 148, y 149, y 150, y 151, y 152, y 153, y 154, y 155, y 156, y 157, y 158, y 159, y 160, y 161, y 162, y 163, y 164, y 165, y 166, y 167, y 168, y 169, y 170, y 171, y 172, y 173, y 174, y 175, y 176, y 177, y 178, y 179, y 180, y 181, y 182, y 183, y 184, y 185, y 186, y 187, y 188, y 189, y 190, y 191, y 192, y 193, y 194, y 195, y 196, y 197, y 198, y 199, y 200, y 201, y 202, y 203, y 204, y 205, y 206, y 207, y 208, y 209, y 210, y 211, y 212, y 213, y 214, y 215, y 216, y 217, y 218, y 219, y 220, y 221, y 222, y 223, y 224, y 225, y 226, y 227, y 228, y 229, y 230, y 231, y 232, y 233, y 234, y 235, y 236, y 237, y 238, y 239, y 240, y 241, y 242, y 243, y 244, y 245, y 246, y 247, y 248, y 249, y 250, y 251, y 252, y 253, y 254, y 255, y 256, y 257, y 258, y 259, y 260, y 261, y 262, y 263, y 264, y 265, y 266, y 267, y 268, y 269, y 270, y 271, y 272, y 273, y 274, y 275, y 276, y 277, y 278, y 279, y 280, y 281, y 282, y 283, y 284, y 285, y 286, y 287, y 288, y 289, y 290, y 291, y 292, y 293, y 294, y 295, y 296, y 297, y 298, y 299, y 300, y 301, y 302, y 303, y 304, y 305, y 306, y 307, y 308, y 309, y 310, y 311, y 312, y 313, y 314, y 315, y 316, y 317, y 318, y 319, y 320, y 321, y 322, y 323, y 324, y 325, y 326, y 327, y 328, y 329, y 330, y 331, y 332, y 333, y 334, y 335, y 336, y 337, y 338, y 339, y 340, y 341, y 342, y 343, y 344, y 345, y 346, y 347, y 348, y 349, y 350, y 351, y 352, y 353, y 354, y 355, y 356, y 357, y 358, y 359, y 360, y 361, y 362, y 363, y 364, y 365, y 366, y 367, y 368, y 369, y 370, y 371, y 372, y 373, y 374, y 375, y 376, y 377, y 378, y 379, y 380, y 381, y 382, y 383, y 384, y 385, y 386, y 387, y 388, y 389, y 390, y 391, y 392, y 393, y 394, y 395, y 396, y 397, y 398, y 399, y 400, y 401, y 402, y 403, y 404, y 405, y 406, y 407, y 408, y 409, y 410, y 411, y 412, y 413, y 414, y 415, y 416, y 417, y 418, y 419, y 420, y 421, y 422, y 423, y 424, y 425, y 426, y 427, y 428, y 429, y 430, y 431, y 432, y 433, y 434, y 435, y 436, y 437, y 438, y 439, y 440, y 441, y 442, y 443, y 444, y 445], []⟩ := by
 obtain ⟨⟨l⟩, m⟩ := a
 have hm' : m = [] := hm
 subst hm'
 obtain ⟨f, hf, hl⟩ := list_fn l 446 hs
 have e0 := hf 0 (by omega)
 have k0 : l[0]? = some v0 := by rw [← h0]; exact List.getElem?_toArray.symm
 rw [k0] at e0
 injection e0 with e0
 have e2 := hf 2 (by omega)
 have k2 : l[2]? = some v2 := by rw [← h2]; exact List.getElem?_toArray.symm
 rw [k2] at e2
 injection e2 with e2
 have e4 := hf 4 (by omega)
 have k4 : l[4]? = some v4 := by rw [← h4]; exact List.getElem?_toArray.symm
 rw [k4] at e4
 injection e4 with e4
 have e5 := hf 5 (by omega)
 have k5 : l[5]? = some v5 := by rw [← h5]; exact List.getElem?_toArray.symm
 rw [k5] at e5
 injection e5 with e5
 have e6 := hf 6 (by omega)
 have k6 : l[6]? = some v6 := by rw [← h6]; exact List.getElem?_toArray.symm
 rw [k6] at e6
 injection e6 with e6
 have e7 := hf 7 (by omega)
 have k7 : l[7]? = some v7 := by rw [← h7]; exact List.getElem?_toArray.symm
 rw [k7] at e7
 injection e7 with e7
 have e8 := hf 8 (by omega)
 have k8 : l[8]? = some v8 := by rw [← h8]; exact List.getElem?_toArray.symm
 rw [k8] at e8
 injection e8 with e8
 have e9 := hf 9 (by omega)
 have k9 : l[9]? = some v9 := by rw [← h9]; exact List.getElem?_toArray.symm
 rw [k9] at e9
 injection e9 with e9
 have e10 := hf 10 (by omega)
 have k10 : l[10]? = some v10 := by rw [← h10]; exact List.getElem?_toArray.symm
 rw [k10] at e10
 injection e10 with e10
 have e21 := hf 21 (by omega)
 have k21 : l[21]? = some v21 := by rw [← h21]; exact List.getElem?_toArray.symm
 rw [k21] at e21
 injection e21 with e21
 clear h0 k0
 subst e0
 clear h2 k2
 subst e2
 clear h4 k4
 subst e4
 clear h5 k5
 subst e5
 clear h6 k6
 subst e6
 clear h7 k7
 subst e7
 clear h8 k8
 subst e8
 clear h9 k9
 subst e9
 clear h10 k10
 subst e10
 clear h21 k21
 subst e21
 exact ⟨f, by rw [hl]; rfl⟩
def LoopI (W : World) (A : Option Addr) (n c : Nat) (R M S : Nat) (l : List It) (k : Nat) (a : Act) (wr : World) : Prop :=
 ∃ (y : Nat → Value) (i : Nat) (j : Int) (vs vu vf vc : Value) (s : RS), a = ⟨#[.slice A n c, y 1, .pointer (some ⟨R, 0, none⟩), y 3, .pointer (some ⟨M, 0, none⟩), .pointer (some ⟨S, 0, none⟩), vs, vu, .int .i64 (keptI s), .int .i64 s.opn, .int .i64 j, y 11, y 12, y 13, y 14, y 15, y 16, y 17, y 18, y 19, y 20, y 21, y 22, y 23, y 24, y 25, y 26, y 27, y 28, y 29, y 30, y 31, y 32, y 33, y 34, y 35, y 36, y 37, y 38, y 39, y 40, y 41, y 42, y 43, y 44, y 45, y 46, y 47, y 48, y 49, y 50, y 51, y 52, y 53, y 54, y 55, y 56, y 57, y 58, y 59, y 60, y 61, y 62, y 63, y 64, y 65, y 66, y 67, y 68, y 69, y 70, y 71, y 72, y 73, y 74, y 75, y 76, y 77, y 78, y 79, y 80, y 81, y 82, y 83, y 84, y 85, y 86, y 87, y 88, y 89, y 90, y 91, y 92, y 93, y 94, y 95, y 96, y 97, y 98, y 99, y 100, y 101, y 102, y 103, y 104, y 105, y 106, y 107, y 108, y 109, y 110, y 111, y 112, y 113, y 114, y 115, y 116, y 117, y 118, y 119, y 120, y 121, y 122, y 123, y 124, y 125, y 126, y 127, y 128, y 129, y 130, y 131, y 132, y 133, y 134, y 135, y 136, y 137, y 138, y 139, y 140, y 141, y 142, y 143, y 144, y 145, y 146, y 147, y 148, y 149, y 150, y 151, y 152, y 153, y 154, y 155, y 156, y 157, y 158, y 159, y 160, y 161, y 162, y 163, y 164, y 165, y 166, y 167, y 168, y 169, y 170, y 171, y 172, y 173, y 174, y 175, y 176, y 177, y 178, y 179, y 180, y 181, y 182, y 183, y 184, y 185, y 186, y 187, y 188, y 189, y 190, y 191, y 192, y 193, y 194, y 195, y 196, y 197, y 198, y 199, y 200, y 201, y 202, y 203, y 204, y 205, y 206, y 207, y 208, y 209, y 210, y 211, y 212, y 213, y 214, y 215, y 216, y 217, y 218, y 219, y 220, y 221, y 222, y 223, y 224, y 225, y 226, y 227, y 228, y 229, y 230, y 231, y 232, y 233, y 234, y 235, y 236, y 237, y 238, y 239, y 240, y 241, y 242, y 243, y 244, y 245, y 246, y 247, y 248, y 249, y 250, y 251, y 252, y 253, y 254, y 255, y 256, y 257, y 258, y 259, y 260, y 261, y 262, y 263, y 264, y 265, y 266, y 267, y 268, y 269, y 270, y 271, y 272, y 273, y 274, y 275, y 276, y 277, y 278, y 279, y 280, y 281, y 282, y 283, y 284, y 285, y 286, y 287, y 288, y 289, y 290, y 291, y 292, y 293, y 294, y 295, y 296, y 297, y 298, y 299, y 300, y 301, y 302, y 303, y 304, y 305, y 306, y 307, y 308, y 309, y 310, y 311, y 312, y 313, y 314, y 315, y 316, y 317, y 318, y 319, y 320, y 321, y 322, y 323, y 324, y 325, y 326, y 327, y 328, y 329, y 330, y 331, y 332, y 333, y 334, y 335, y 336, y 337, y 338, y 339, y 340, y 341, y 342, y 343, y 344, y 345, y 346, y 347, y 348, y 349, y 350, y 351, y 352, y 353, y 354, y 355, y 356, y 357, y 358, y 359, y 360, y 361, y 362, y 363, y 364, y 365, y 366, y 367, y 368, y 369, y 370, y 371, y 372, y 373, y 374, y 375, y 376, y 377, y 378, y 379, y 380, y 381, y 382, y 383, y 384, y 385, y 386, y 387, y 388, y 389, y 390, y 391, y 392, y 393, y 394, y 395, y 396, y 397, y 398, y 399, y 400, y 401, y 402, y 403, y 404, y 405, y 406, y 407, y 408, y 409, y 410, y 411, y 412, y 413, y 414, y 415, y 416, y 417, y 418, y 419, y 420, y 421, y 422, y 423, y 424, y 425, y 426, y 427, y 428, y 429, y 430, y 431, y 432, y 433, y 434, y 435, y 436, y 437, y 438, y 439, y 440, y 441, y 442, y 443, y 444, y 445], []⟩ ∧ j = (i : Int) ∧ i + k = n ∧ runS (l.take i) rs0 = (0, s) ∧ Md wr W.heap.size M S vs vu vf vc s ∧ FrM W.heap.size M S W wr
theorem LoopI.of {W : World} {A : Option Addr} {n c : Nat} {R M S : Nat} {l : List It} {k : Nat} {a : Act} {wr : World} {i : Nat} {j : Int} {vs vu vf vc : Value} {s : RS} (hf : ∃ y : Nat → Value, a = ⟨#[.slice A n c, y 1, .pointer (some ⟨R, 0, none⟩), y 3, .pointer (some ⟨M, 0, none⟩), .pointer (some ⟨S, 0, none⟩), vs, vu, .int .i64 (keptI s), .int .i64 s.opn, .int .i64 j, y 11, y 12, y 13, y 14, y 15, y 16, y 17, y 18, y 19, y 20, y 21, y 22, y 23, y 24, y 25, y 26, y 27, y 28, y 29, y 30, y 31, y 32, y 33, y 34, y 35, y 36, y 37, y 38, y 39, y 40, y 41, y 42, y 43, y 44, y 45, y 46, y 47, y 48, y 49, y 50, y 51, y 52, y 53, y 54, y 55, y 56, y 57, y 58, y 59, y 60, y 61, y 62, y 63, y 64, y 65, y 66, y 67, y 68, y 69, y 70, y 71, y 72, y 73, y 74, y 75, y 76, y 77, y 78, y 79, y 80, y 81, y 82, y 83, y 84, y 85, y 86, y 87, y 88, y 89, y 90, y 91, y 92, y 93, y 94, y 95, y 96, y 97, y 98, y 99, y 100, y 101, y 102, y 103, y 104, y 105, y 106, y 107, y 108, y 109, y 110, y 111, y 112, y 113, y 114, y 115, y 116, y 117, y 118, y 119, y 120, y 121, y 122, y 123, y 124, y 125, y 126, y 127, y 128, y 129, y 130, y 131, y 132, y 133, y 134, y 135, y 136, y 137, y 138, y 139, y 140, y 141, y 142, y 143, y 144, y 145, y 146, y 147, y 148, y 149, y 150, y 151, y 152, y 153, y 154, y 155, y 156, y 157, y 158, y 159, y 160, y 161, y 162, y 163, y 164, y 165, y 166, y 167, y 168, y 169, y 170, y 171, y 172, y 173, y 174, y 175, y 176, y 177, y 178, y 179, y 180, y 181, y 182, y 183, y 184, y 185, y 186, y 187, y 188, y 189, y 190, y 191, y 192, y 193, y 194, y 195, y 196, y 197, y 198, y 199, y 200, y 201, y 202, y 203, y 204, y 205, y 206, y 207, y 208, y 209, y 210, y 211, y 212, y 213, y 214, y 215, y 216, y 217, y 218, y 219, y 220, y 221, y 222, y 223, y 224, y 225, y 226, y 227, y 228, y 229, y 230, y 231, y 232, y 233, y 234, y 235, y 236, y 237, y 238, y 239, y 240, y 241, y 242, y 243, y 244, y 245, y 246, y 247, y 248, y 249, y 250, y 251, y 252, y 253, y 254, y 255, y 256, y 257, y 258, y 259, y 260, y 261, y 262, y 263, y 264, y 265, y 266, y 267, y 268, y 269, y 270, y 271, y 272, y 273, y 274, y 275, y 276, y 277, y 278, y 279, y 280, y 281, y 282, y 283, y 284, y 285, y 286, y 287, y 288, y 289, y 290, y 291, y 292, y 293, y 294, y 295, y 296, y 297, y 298, y 299, y 300, y 301, y 302, y 303, y 304, y 305, y 306, y 307, y 308, y 309, y 310, y 311, y 312, y 313, y 314, y 315, y 316, y 317, y 318, y 319, y 320, y 321, y 322, y 323, y 324, y 325, y 326, y 327, y 328, y 329, y 330, y 331, y 332, y 333, y 334, y 335, y 336, y 337, y 338, y 339, y 340, y 341, y 342, y 343, y 344, y 345, y 346, y 347, y 348, y 349, y 350, y 351, y 352, y 353, y 354, y 355, y 356, y 357, y 358, y 359, y 360, y 361, y 362, y 363, y 364, y 365, y 366, y 367, y 368, y 369, y 370, y 371, y 372, y 373, y 374, y 375, y 376, y 377, y 378, y 379, y 380, y 381, y 382, y 383, y 384, y 385, y 386, y 387, y 388, y 389, y 390, y 391, y 392, y 393, y 394, y 395, y 396, y 397, y 398, y 399, y 400, y 401, y 402, y 403, y 404, y 405, y 406, y 407, y 408, y 409, y 410, y 411, y 412, y 413, y 414, y 415, y 416, y 417, y 418, y 419, y 420, y 421, y 422, y 423, y 424, y 425, y 426, y 427, y 428, y 429, y 430, y 431, y 432, y 433, y 434, y 435, y 436, y 437, y 438, y 439, y 440, y 441, y 442, y 443, y 444, y 445], []⟩) (hj : j = (i : Int)) (hi : i + k = n) (hr : runS (l.take i) rs0 = (0, s)) (hm : Md wr W.heap.size M S vs vu vf vc s) (hw : FrM W.heap.size M S W wr) : LoopI W A n c R M S l k a wr :=
 hf.elim fun y e => ⟨y, i, j, vs, vu, vf, vc, s, e, hj, hi, hr, hm, hw⟩
set_option maxRecDepth 1000000 in
theorem model_any (A : Option Addr) (n c : Nat) (l : List It) (w : World) (hnc : n ≤ c) (hc : c ≤ maxLen) (hl : Sl itT w (low w.heap.size) A n l) (hw : ∀ x ∈ l, x.wide = true ∧ x.ok) (h60 : n ≤ 60) :
  Calls Try.prog 13 #[.slice A n c] w (ModelPost w (parseS l).1 (parseS l).2) := by
 have hln := hl.1
 go_enter Try.func13, Try.ntmps13
 go_wp2_with fail
 refine wp_at (fun W => Kept w W ∧ W.heap[w.heap.size]? = some zero40 ∧ Md W W.heap.size (w.heap.size + 1) (w.heap.size + 2) (.slice none 0 0) (.slice none 0 0) (.slice none 0 0) (.slice none 0 0) rs0 ∧ W.heap.size = w.heap.size + 3) ?_ (fun W hW => ?_)
 ·exact ⟨by go_grown, heap_past (heap_past (heap_at _ rfl)), ⟨heap_past (heap_at _ (by simp)), heap_at _ (by simp), Own.nil _ _ _ _, Own.nil _ _ _ _, Own.nil _ _ _ _, Own.nil _ _ _ _, by simp⟩, by simp⟩
 obtain ⟨hkW, hR, hM, hz⟩ := hW
 refine wp_loop_ghost_k (LoopI W A n c w.heap.size (w.heap.size + 1) (w.heap.size + 2) l) n ?_ ?_
 ·exact LoopI.of (frame_loop rfl rfl rfl rfl rfl rfl rfl rfl rfl rfl rfl) (i := 0) rfl (by omega) rfl hM FrM.refl
 intro gk a wr hI J K hJ hK
 obtain ⟨y, i, j, vs, vu, vf, vc, s, rfl, rfl, hi, hrun, hm, hfr⟩ := hI
 have hfine : s.Fine := by
  have := run_fine (l.take i) rs0 fine0 (fun x hx => hw x (List.mem_of_mem_take hx)) (by rw [hrun])
  rw [hrun] at this
  exact this
 have hRr : wr.heap[w.heap.size]? = some zero40 := (hfr.block _ (by omega) (by omega) (by omega)).trans hR
 have hkwr : Kept w wr := hkW.trans (hfr.toBelow (by omega) (by omega) (by omega))
 have hzr := hfr.size
 by_cases hlt : i < n
 ·have hl2 : Sl itT wr (low wr.heap.size) A n l := hl.kept hkwr
  obtain ⟨x, b, off, cs, hx, rfl, hbb, ⟨rfl, hxo⟩, hcs⟩ := hl2.at hlt
  obtain ⟨hxw, hxok⟩ := hw x (List.mem_of_getElem? hx)
  have hcs' : ∀ (o : Nat) v, (x.cells)[o]? = some v → wr.cell? ⟨b, off + i * 4 + o, none⟩ = some v := fun o v h => hcs o v h
  have x0 : wr.cell? ⟨b, off + i * 4, none⟩ = _ := hcs' 0 _ rfl
  have x1 := hcs' 1 _ rfl
  have x2 := hcs' 2 _ rfl
  have x3 := hcs' 3 _ rfl
  have hbl : b < wr.heap.size := hbb
  have hi0 : (0 : Int) ≤ (i : Int) := by omega
  have hlt' : (i : Int) < (n : Int) := by omega
  have Hcs := hide hcs
  have Hl := hide hl
  clear hcs hcs' hl2 hl
  go_upto_region 11 with (fail)
  refine wp_at (fun W2 => W2.heap[wr.heap.size]? = some (.cells #[.int .u8 x.ty, .int .u8 x.tg, .int .i64 x.size, .int .u32 x.data] 29 (0, 0)) ∧ Kept wr W2) ⟨heap_at _ rfl, by go_grown⟩ (fun W2 hW2 => ?_)
  obtain ⟨hbx, hk2⟩ := hW2
  have hsit : Sit W2 W.heap.size w.heap.size (w.heap.size + 1) (w.heap.size + 2) wr.heap.size vs vu vf vc s x := ⟨hm.kept hk2, Nat.le_trans hzr hk2.size, hbx, hzr, heap_kept hk2 hRr, by omega, by omega, by omega⟩
  refine it_11 (A := some ⟨b, off, none⟩) (n := n) (c := c) (i := (i : Int)) (s := s) (x := x) ?_ hsit hfine hxw hxok ?_ ?_ ?_ _ ?_
  ·exact frame_end rfl rfl rfl rfl rfl rfl rfl rfl rfl rfl rfl rfl
  ·intro a' W' vs' vu' vf' vc' s' hF hL hS hfr2
   obtain ⟨us', rfl⟩ := hL
   dsimp only
   have hwi : IntKind.i64.wrap ((i : Int) + 1) = ((i + 1 : Nat) : Int) := by rw [IntKind.wrap_i64]; omega
   go_wp2_with fail
   refine Handed.intro (gk - 1) (by omega) (hJ _ _ _ ?_)
   exact LoopI.of (frame_loop rfl rfl rfl rfl rfl rfl rfl rfl rfl rfl rfl) (i := i + 1) rfl (by omega) (run_stepS hx hrun hF) hS.md ((hfr.trans (FrM.kept hk2 hzr)).trans hfr2)
  ·intro a' W' E h1 h2 h3 h4 h5 h6 h7
   have hp := parse_bad hx hrun h1 h2
   have c0 : W'.cell? ⟨w.heap.size, 0, none⟩ = some (.slice none 0 0) := cell_heap h6 (o := 0) rfl
   have c1 : W'.cell? ⟨w.heap.size, 1, none⟩ = some (.slice none 0 0) := cell_heap h6 (o := 1) rfl
   have c2 : W'.cell? ⟨w.heap.size, 2, none⟩ = some (.bool false) := cell_heap h6 (o := 2) rfl
   have k1 : Kept w W' := (hkwr.trans' hk2).trans h7
   refine bodyPost_ret (v := .tuple #[.agg #[.slice none 0 0, .slice none 0 0, .bool false], .int .i64 E]) (ret13 h4 h5 h6) h3 ⟨k1, ?_⟩
   rw [hp]
   exact .inl ⟨h2, rfl⟩
  ·intro c a d v w h
   cases d <;> exact h
  ·assumption
 ·have hin : i = n := by omega
  have htk : l.take i = l := by rw [hin, ← hln, List.take_length]
  rw [htk] at hrun
  have hparse : parseS l = (endS s, s) := by unfold parseS; rw [hrun]; rfl
  have hge : decide ((i : Int) < (n : Int)) = false := decide_eq_false (by omega)
  clear hin
  have hMl := heap_lt hm.bm
  have hRl := heap_lt hRr
  obtain ⟨A5, c5, rfl, hD1, hD2⟩ := hm.fs.isSlice
  obtain ⟨A6, c6, rfl, hE1, hE2⟩ := hm.st.isSlice
  obtain ⟨A8, c8, rfl, hF1, hF2⟩ := hm.cs.isSlice
  have m0 : wr.cell? ⟨w.heap.size + 1, 0, none⟩ = some (.slice A5 s.fields.length c5) := cell_heap hm.bm (o := 0) rfl
  have m1 : wr.cell? ⟨w.heap.size + 1, 1, none⟩ = some (.slice A8 s.colls.length c8) := cell_heap hm.bm (o := 1) rfl
  have m2 : wr.cell? ⟨w.heap.size + 1, 2, none⟩ = some (.bool s.numbered) := cell_heap hm.bm (o := 2) rfl
  have r0 : wr.cell? ⟨w.heap.size, 0, none⟩ = some (.slice none 0 0) := cell_heap hRr (o := 0) rfl
  have r1 : wr.cell? ⟨w.heap.size, 1, none⟩ = some (.slice none 0 0) := cell_heap hRr (o := 1) rfl
  have r2 : wr.cell? ⟨w.heap.size, 2, none⟩ = some (.bool false) := cell_heap hRr (o := 2) rfl
  have fr0 := frozen_heap hRr (o := 0)
  have fr1 := frozen_heap hRr (o := 1)
  have fr2 := frozen_heap hRr (o := 2)
  have hfl := hfine.fields.1
  have Hp := hide hparse
  have Hrun := hide hrun
  have Hl := hide hl
  clear hparse hrun hl
  go_wp2_with fail
  refine wp_loop_ghost_k (LoopE wr A n c w.heap.size (w.heap.size + 1) (w.heap.size + 2) (.slice A6 s.stack.length c6) vu s (i : Int)) s.fields.length ?_ ?_
  ·exact LoopE.of (frame_e rfl rfl rfl rfl rfl rfl rfl rfl rfl rfl rfl rfl) (m := 0) rfl (by omega) (fun _ f hf => by simp at hf) rfl
  intro gk2 a wr2 hI J2 K2 hJ2 hK2
  obtain ⟨y, m, j, rfl, rfl, hm2, hnum, rfl⟩ := hI
  have Hnum := hide hnum
  clear hnum
  by_cases hlt2 : m < s.fields.length
  ·obtain ⟨f, b, off, cs, hf, rfl, hbb, ⟨A9, c9, rfl, hul, hcl, _⟩, hcs⟩ := hm.fs.sl.at hlt2
   have hcs' : ∀ (o : Nat) v, (f.cellsC A9 c9)[o]? = some v → wr2.cell? ⟨b, off + m * 13 + o, none⟩ = some v := fun o v h => hcs o v h
   have x1 := hcs' 1 _ rfl
   have hbl : b < wr2.heap.size := hbb
   have hi0 : (0 : Int) ≤ (m : Int) := by omega
   have hltd : decide ((m : Int) < (s.fields.length : Int)) = true := decide_eq_true (by omega)
   have hlt' : (m : Int) < (s.fields.length : Int) := by omega
   have hwm : IntKind.i64.wrap ((m : Int) + 1) = ((m + 1 : Nat) : Int) := by rw [IntKind.wrap_i64]; omega
   have hsn : s.fields.take (m + 1) = s.fields.take m ++ [f] := by
    obtain ⟨h1, h2⟩ := List.getElem?_eq_some_iff.1 hf
    rw [List.take_succ_eq_append_getElem h1, h2]
   have Hf := hide hf
   have Hsn := hide hsn
   clear hcs hcs' hf hsn
   cases hnb : s.numbered with
   | false =>
    rw [hnb] at m2
    go_wp2_with fail
    refine Handed.intro (gk2 - 1) (by omega) (hJ2 _ _ _ ?_)
    exact LoopE.of (frame_e rfl rfl rfl rfl rfl rfl rfl rfl rfl rfl rfl rfl) (m := m + 1) rfl (by omega) (fun e => by rw [hnb] at e; cases e) rfl
   | true =>
    rw [hnb] at m2
    by_cases hr0 : f.report = 0
    ·have d1 : (f.report == 0) = true := by rw [hr0]; rfl
     have hend : endS s = 4 := by
      unfold endS
      rw [if_pos (.inr (.inr ⟨hnb, List.any_eq_true.2 ⟨f, List.mem_of_getElem? Hf.out, by rw [hr0]; rfl⟩⟩))]
     clear hr0
     go_wp2_with fail
     refine bodyPost_ret (v := .tuple #[.agg #[.slice none 0 0, .slice none 0 0, .bool false], .int .i64 4]) (ret13 rfl rfl (zeroed hRr).1) rfl ?_
     refine ⟨hkwr.trans (zeroed hRr).2, ?_⟩
     rw [Hp.out]
     exact .inl ⟨by show endS s ≠ 0; rw [hend]; decide, by show _ = Ending.returned (.tuple #[_, .int .i64 (endS s)]); rw [hend]⟩
    ·have d1 : (f.report == 0) = false := beq_false_of_ne hr0
     go_wp2_with fail
     refine Handed.intro (gk2 - 1) (by omega) (hJ2 _ _ _ ?_)
     refine LoopE.of (frame_e rfl rfl rfl rfl rfl rfl rfl rfl rfl rfl rfl rfl) (m := m + 1) rfl (by omega) (fun e => ?_) rfl
     rw [Hsn.out]
     intro g hg
     rcases List.mem_append.1 hg with hg | hg
     ·exact Hnum.out hnb g hg
     ·rw [List.mem_singleton.1 hg]; exact hr0
  ·have hltd : decide ((m : Int) < (s.fields.length : Int)) = false := decide_eq_false (by omega)
   have hmm : s.fields.take m = s.fields := List.take_of_length_le (by omega)
   by_cases ho : 0 ≤ s.opn
   ·have hod : decide (0 ≤ s.opn) = true := decide_eq_true ho
    have hend : endS s = 4 := by unfold endS; rw [if_pos (.inl ho)]
    clear ho
    go_wp2_with fail
    refine bodyPost_ret (v := .tuple #[.agg #[.slice none 0 0, .slice none 0 0, .bool false], .int .i64 4]) (ret13 rfl rfl (zeroed hRr).1) rfl ?_
    refine ⟨hkwr.trans (zeroed hRr).2, ?_⟩
    rw [Hp.out]
    exact .inl ⟨by show endS s ≠ 0; rw [hend]; decide, by show _ = Ending.returned (.tuple #[_, .int .i64 (endS s)]); rw [hend]⟩
   ·have hod : decide (0 ≤ s.opn) = false := decide_eq_false ho
    by_cases hst : 0 < s.stack.length
    ·have hsd : decide (0 < (s.stack.length : Int)) = true := decide_eq_true (by omega)
     have hend : endS s = 4 := by
      unfold endS; rw [if_pos (.inr (.inl (fun e => by rw [e] at hst; simp at hst)))]
     clear ho
     go_wp2_with fail
     refine bodyPost_ret (v := .tuple #[.agg #[.slice none 0 0, .slice none 0 0, .bool false], .int .i64 4]) (ret13 rfl rfl (zeroed hRr).1) rfl ?_
     refine ⟨hkwr.trans (zeroed hRr).2, ?_⟩
     rw [Hp.out]
     exact .inl ⟨by show endS s ≠ 0; rw [hend]; decide, by show _ = Ending.returned (.tuple #[_, .int .i64 (endS s)]); rw [hend]⟩
    ·have hsd : decide (0 < (s.stack.length : Int)) = false := decide_eq_false (by omega)
     have hend : endS s = 0 := by
      unfold endS
      rw [if_neg]
      rintro (e | e | ⟨e1, e2⟩)
      ·exact ho e
      ·exact e (List.eq_nil_of_length_eq_zero (by omega))
      ·obtain ⟨f, hf, e3⟩ := List.any_eq_true.1 e2
       rw [← hmm] at hf
       exact Hnum.out e1 f hf (by simpa using e3)
     clear ho
     go_wp2_with fail
     refine bodyPost_ret (v := .tuple #[.agg #[.slice A5 s.fields.length c5, .slice A8 s.colls.length c8, .bool s.numbered], .int .i64 0]) (ret13 rfl rfl (heap_store (heap_store (heap_store hRr _) _) _)) rfl ?_
     refine ⟨hkwr.trans ((((Below.refl _ _).setCell (p := ⟨w.heap.size, 0, none⟩) (Nat.le_refl _) _).setCell (p := ⟨w.heap.size, 1, none⟩) (Nat.le_refl _) _).setCell (p := ⟨w.heap.size, 2, none⟩) (Nat.le_refl _) _), ?_⟩
     rw [Hp.out]
     have hno := noInt_zero hRr
     have hne : ∀ b o k, b ≠ w.heap.size → (⟨w.heap.size, k, none⟩ : Addr) ≠ ⟨b, o, none⟩ := fun b o k hb e => hb (congrArg Addr.block e).symm
     refine .inr ⟨hend, A5, c5, A8, c8, rfl, ?_, ?_⟩
     ·exact (sl_neFd hno (F' := fun b => b < wr2.heap.size ∧ b ≠ w.heap.size) (fun b h1 h2 => ⟨h1, h2⟩) (sl_unon hm.fs.sl)).keep (fun b hb => by simpa [low] using hb.1) (fun b o hb => by rw [World.cell?_setCell_other _ _ _ _ (hne b o 2 hb.2), World.cell?_setCell_other _ _ _ _ (hne b o 1 hb.2), World.cell?_setCell_other _ _ _ _ (hne b o 0 hb.2)])
     ·exact (sl_neCo hno (F' := fun b => b < wr2.heap.size ∧ b ≠ w.heap.size) (fun b h1 h2 => ⟨h1, h2⟩) hm.cs.sl).keep (fun b hb => by simpa [low] using hb.1) (fun b o hb => by rw [World.cell?_setCell_other _ _ _ _ (hne b o 2 hb.2), World.cell?_setCell_other _ _ _ _ (hne b o 1 hb.2), World.cell?_setCell_other _ _ _ _ (hne b o 0 hb.2)])
end Go.Proofs.Ytegdigfcgeoboaa
namespace Go.Proofs.Ytegdigfcgeoboaa
open Go.RowKit
def PosOk (l : List Fd) : Prop := ∀ (i : Nat) (f : Fd), l[i]? = some f → f.pos = bitsS (l.take i) f.kind f.report
def Fok (s : RS) (x : It) (r : Int × RS) : Prop := r.2.fields = s.fields ∨ ∃ k, r.2.fields = s.fields ++ [fieldOf s k x]
theorem ite_P {α : Type} {P : α → Prop} {c : Prop} [Decidable c] {a b : α} (h1 : P a) (h2 : P b) : P (if c then a else b) := by by_cases h : c <;> simp [h, h1, h2]
theorem fieldS_fok (s : RS) (k : Int) (x : It) : Fok s x (fieldS s k x) := by
 unfold fieldS
 repeat' (refine ite_P (P := Fok s x) ?_ ?_)
 all_goals first | exact .inl rfl | exact .inr ⟨_, rfl⟩
theorem addS_fok (s s' : RS) (x : It) (h : s'.fields = s.fields) (a b : Int) : Fok s x (addS s' a b) := by
 unfold addS
 repeat' (refine ite_P (P := Fok s x) ?_ ?_)
 all_goals exact .inl h
theorem eff_fields (s : RS) (x : It) : Fok s x (effS s x) := by
 unfold effS
 repeat' (first | exact fieldS_fok s _ x | exact addS_fok s _ x rfl _ _ | refine ite_P (P := Fok s x) ?_ ?_ | exact .inl rfl)
 split <;> exact .inl rfl
theorem pos_snoc {l : List Fd} (h : PosOk l) {f : Fd} (hf : f.pos = bitsS l f.kind f.report) : PosOk (l ++ [f]) := by
 intro i g hg
 by_cases hi : i < l.length
 ·rw [List.getElem?_append_left hi] at hg
  rw [List.take_append_of_le_length (Nat.le_of_lt hi)]
  exact h i g hg
 ·rw [List.getElem?_append_right (by omega)] at hg
  have hi2 : i - l.length = 0 := by
   have := (List.getElem?_eq_some_iff.1 hg).1
   simp at this
   exact this
  rw [hi2] at hg
  injection hg with hg
  subst hg
  have hi3 : i = l.length := by omega
  rw [hi3, List.take_left']
  ·exact hf
  ·rfl
theorem eff_pos {s : RS} (h : PosOk s.fields) (x : It) : PosOk (effS s x).2.fields := by
 rcases eff_fields s x with e | ⟨k, e⟩
 ·rw [e]; exact h
 ·rw [e]; exact pos_snoc h rfl
theorem run_pos : ∀ (l : List It) (s : RS), PosOk s.fields → PosOk (runS l s).2.fields
 | [], s, h => h
 | x :: l, s, h => by
  unfold runS
  split
  ·exact eff_pos h x
  ·refine run_pos l _ ?_
   have e : (clearS (effS s x).2 x).fields = (effS s x).2.fields := by unfold clearS; split <;> rfl
   rw [e]
   exact eff_pos h x
theorem bitsS_mono {l : List Fd} (hl : ∀ f ∈ l, 1 ≤ f.size ∧ f.size ≤ 32 ∧ 1 ≤ f.count ∧ f.count ≤ 256) (k r : Int) : ∀ (d i : Nat), bitsS (l.take i) k r ≤ bitsS (l.take (i + d)) k r
 | 0, i => Int.le_refl _
 | d + 1, i => by
  refine Int.le_trans (bitsS_mono hl k r d i) ?_
  rw [← Nat.add_assoc]
  cases hx : l[i + d]? with
  | none =>
   have := List.getElem?_eq_none_iff.1 hx
   rw [List.take_of_length_le (by omega), List.take_of_length_le (by omega)]
   exact Int.le_refl _
  | some f =>
   obtain ⟨h1, h2⟩ := List.getElem?_eq_some_iff.1 hx
   rw [List.take_succ_eq_append_getElem h1, h2, bitsS_snoc]
   obtain ⟨a, b, c, d⟩ := hl f (List.mem_of_getElem? hx)
   have h3 : 1 * f.count ≤ f.size * f.count := Int.mul_le_mul_of_nonneg_right (by omega) (by omega)
   split <;> omega
theorem pos_end {l : List Fd} {i : Nat} {f : Fd} (hf : l[i]? = some f) (hp : PosOk l) : bitsS (l.take (i + 1)) f.kind f.report = f.pos + f.size * f.count := by
 obtain ⟨h1, h2⟩ := List.getElem?_eq_some_iff.1 hf
 rw [List.take_succ_eq_append_getElem h1, h2, bitsS_snoc, hp i f hf]
 simp
theorem pos_in {l : List Fd} (hs : SizesOk l) (hp : PosOk l) {i : Nat} {f : Fd} (hf : l[i]? = some f) : 0 ≤ f.pos ∧ f.pos + f.size * f.count ≤ bitsS l f.kind f.report := by
 have h0 := (bits_le (l.take i) f.kind f.report (fun g hg => hs.2 g (List.mem_of_mem_take hg))).1
 have h1 := bitsS_mono hs.2 f.kind f.report (l.length) (i + 1)
 rw [List.take_of_length_le (by omega : l.length ≤ i + 1 + l.length), pos_end hf hp] at h1
 rw [← hp i f hf] at h0
 exact ⟨h0, h1⟩
theorem pos_apart {l : List Fd} (hs : SizesOk l) (hp : PosOk l) {i k : Nat} {f g : Fd} (hf : l[i]? = some f) (hg : l[k]? = some g) (hk : k < i) (e1 : g.kind = f.kind) (e2 : g.report = f.report) : g.pos + g.size * g.count ≤ f.pos := by
 have h1 := bitsS_mono hs.2 f.kind f.report (i - (k + 1)) (k + 1)
 rw [show k + 1 + (i - (k + 1)) = i by omega, ← hp i f hf, ← e1, ← e2, pos_end hg hp] at h1
 exact h1
end Go.Proofs.Ytegdigfcgeoboaa
