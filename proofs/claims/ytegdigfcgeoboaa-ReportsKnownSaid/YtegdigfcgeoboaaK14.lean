/- The law of the chapter on reports, part 14: Qh Qi Qj. -/
import Derived.Test.YtegdigfcgeoboaaK13
set_option maxHeartbeats 16000000
set_option linter.unusedVariables false
set_option linter.unusedSimpArgs false
set_option linter.unusedSectionVars false
namespace Go.Proofs.Ytegdigfcgeoboaa
open Go.RowKit
attribute [local go_sem ↓] Go.wp_at_zero Go.wp_at_succ
def exB : List Int := [5, 1, 9, 2, 161, 1, 5, 9, 25, 1, 41, 3, 21, 0, 37, 1, 117, 1, 149, 3, 129, 2, 117, 5, 149, 1, 129, 1, 192]
def exF0 : Fd := ⟨1, 0, 0, [589825, 589826, 589827], 0, 1, 1, 3, 0, false, false, false, false⟩
def exF1 : Fd := ⟨1, 0, 0, [], 0, 1, 5, 1, 3, true, true, false, false⟩
def exC : Co := ⟨1, 65538, -1⟩
theorem ex_E : parseE exB = 0 := by kernel_rfl
theorem ex_F : (parseM exB).fields = [exF0, exF1] := by kernel_rfl
theorem ex_C : (parseM exB).colls = [exC] := by kernel_rfl
theorem ex_N : (parseM exB).numbered = false := by kernel_rfl
theorem sl_u8_heap {w : World} {b : Nat} {t : TypeId} {xs : List Int} {cs : Array Value} (h : w.heap[b]? = some (.cells cs t (0, 0))) (hc : cs = (xs.map (fun n => Value.int .u8 n)).toArray) (hx : ∀ x ∈ xs, u8k x) : Sl u8T w (low w.heap.size) (some ⟨b, 0, none⟩) xs.length xs := by
 subst hc
 refine ⟨rfl, fun i x hi => ⟨b, 0, [.int .u8 x], rfl, heap_lt h, ⟨rfl, hx x (List.mem_of_getElem? hi)⟩, fun j v hv => ?_⟩⟩
 cases j with
 | zero =>
  have e : v = .int .u8 x := by simpa using hv.symm
  subst e
  refine cell_heap h ?_
  show (xs.map (fun n => Value.int .u8 n)).toArray[0 + i * 1 + 0]? = _
  simp [hi]
 | succ j => simp at hv
theorem sl_u32_heap {w : World} {b : Nat} {t : TypeId} {xs : List Int} {cs : Array Value} (h : w.heap[b]? = some (.cells cs t (0, 0))) (hc : cs = (xs.map (fun n => Value.int .u32 n)).toArray) (hx : ∀ x ∈ xs, u32k x) : Sl u32T w (low w.heap.size) (some ⟨b, 0, none⟩) xs.length xs := by
 subst hc
 refine ⟨rfl, fun i x hi => ⟨b, 0, [.int .u32 x], rfl, heap_lt h, ⟨rfl, hx x (List.mem_of_getElem? hi)⟩, fun j v hv => ?_⟩⟩
 cases j with
 | zero =>
  have e : v = .int .u32 x := by simpa using hv.symm
  subst e
  refine cell_heap h ?_
  show (xs.map (fun n => Value.int .u32 n)).toArray[0 + i * 1 + 0]? = _
  simp [hi]
 | succ j => simp at hv
theorem lives_parse (b : Nat) (w : World) (cs : Array Value) (h : w.heap[b]? = some (.cells cs 5 (0, 0))) (hc : cs = (exB.map (fun n => Value.int .u8 n)).toArray) :
  Calls Try.prog 14 #[.slice (some ⟨b, 0, none⟩) 29 29] w fun e w' => Kept w w' ∧ ∃ Af Ac, e = .returned (.tuple #[.agg #[.slice Af 2 2, .slice Ac 1 1, .bool false], .int .i64 0]) ∧ Sl fdT w' (low w'.heap.size) Af 2 [exF0, exF1] ∧ Sl coT w' (low w'.heap.size) Ac 1 [exC] := by
 refine (parse_any (some ⟨b, 0, none⟩) 29 29 exB w (Nat.le_refl _) (by decide) (sl_u8_heap h hc (by unfold u8k; decide))).mono ?_
 rintro e w' ⟨hk, h⟩
 refine ⟨hk, ?_⟩
 rw [ex_E, ex_F, ex_C, ex_N] at h
 rcases h with ⟨h, _⟩ | ⟨_, Af, Ac, he, h1, h2⟩
 ·exact absurd rfl h
 ·exact ⟨Af, Ac, he, h1, h2⟩
variable {u0 u1 u3 u6 u7 u8 u9 gI kI gJ jY eG eH u16 eE eF dX dY dZ eA eB eC eD eI eJ eK eL eM eN u32 eO eP iN iO iP iQ iR fK iS iT iU iV iW iX gK gL gM gN gO gP gQ gR gS gT iY iZ jA jB jC jD jE u64 jF jG jH jJ jK jL jM jN jO jP jQ jR : Value}
noncomputable def codeL : Code := (Try.f8.body.bind (fromR 5)).getD .skip
noncomputable def opsL : Array Oper := opsOf (headC codeL)
theorem idx_ex {n : Int} (h : IdxIs [589825, 589826, 589827] 589826 n) : n = 1 := by
 rcases h with ⟨k, rfl, h1, h2⟩ | ⟨rfl, h⟩
 ·rcases k with _ | _ | k
  ·simp at h1
  ·rfl
  ·exact absurd rfl (h2 1 (by omega))
 ·exact absurd (by simp) h
theorem find_ex {a b r : Int} (h : FindIs [exF0, exF1] 1 589826 a b r) : a = 0 ∧ b = 1 ∧ r = 0 := by
 have hit : Hit 1 589826 exF0 := ⟨rfl, rfl, by simp [exF0]⟩
 rcases h with ⟨i, f, n, hf, _, hno, hix, rfl, hb, rfl⟩ | ⟨hno, _⟩
 ·rcases i with _ | i
  ·obtain rfl : exF0 = f := by simpa using hf
   have hn := idx_ex hix
   subst hn
   exact ⟨rfl, hb, rfl⟩
  ·exact absurd hit (hno 0 exF0 (by omega) rfl)
 ·exact absurd hit (hno exF0 (by simp))
set_option maxRecDepth 1000000 in
theorem lives_end {w W : World} {bm : Nat} {Af Ac A0 A1 : Option Addr} (hk : Kept w W) (hM : W.heap[bm]? = some (.cells #[.slice Af 2 2, .slice Ac 1 1, .bool false] 40 (0, 0))) (hF : Sl fdT W (low W.heap.size) Af 2 [exF0, exF1])
  (h0 : Sl u32T W (low W.heap.size) A0 3 [589825, 589826, 589827]) {G4 G5 : Nat} (hG4 : W.heap[G4]? = some (.cells #[.int .u8 1, .int .u8 0, .int .i64 0, .slice A0 3 3, .int .i64 0, .int .i64 1, .int .i64 1, .int .i64 3, .int .i64 0, .bool false, .bool false, .bool false, .bool false] 59 (0, 0))) (hG5 : W.heap[G5]? = some (.cells #[.int .u8 1, .int .u8 0, .int .i64 0, .slice A1 0 0, .int .i64 0, .int .i64 1, .int .i64 5, .int .i64 1, .int .i64 3, .bool true, .bool true, .bool false, .bool false] 59 (0, 0))) :
  Code.wp Try.prog (restC codeL) (bodyPost Try.prog Try.f8 fun e w' => e = .returned (.bool true) ∧ Kept w w') ⟨#[u0, u1, .pointer (some ⟨bm, 0, none⟩), u3, .pointer (some ⟨G4, 0, none⟩), .pointer (some ⟨G5, 0, none⟩), u6, u7, u8, u9, gI, kI, gJ, jY, eG, eH, u16, eE, eF, dX, dY, dZ, eA, eB, eC, eD, eI, eJ, eK, eL, eM, eN, u32, eO, eP, iN, iO, iP, iQ, iR, fK, iS, iT, iU, iV, iW, iX, gK, gL, gM, gN, gO, gP, gQ, gR, gS, gT, iY, iZ, jA, jB, jC, jD, jE, u64, jF, jG, jH, jJ, jK, jL, jM, jN, jO, jP, jQ, jR], []⟩ W := by
 have hsz : SizesOk [exF0, exF1] := ⟨by decide, by simp [exF0, exF1]⟩
 have hfi : ∀ w' : World, Kept W w' → Calls Try.prog 23 #[.agg #[.slice Af 2 2, .slice Ac 1 1, .bool false], .int .u8 1, .int .u32 589826] w' fun e w'' => e = .returned (.tuple #[.int .i64 0, .int .i64 1, .int .i64 0]) ∧ Kept w' w'' :=
  fun w' hk' => (find23 Af Ac 2 2 1 1 false [exF0, exF1] 1 589826 w' (by decide) (fun f hf => (hsz.2 f hf).2.2) (hF.kept hk')).mono fun e w'' ⟨⟨a, b, r, he, h⟩, hk2⟩ => by
   obtain ⟨rfl, rfl, rfl⟩ := find_ex h
   exact ⟨he, hk2⟩
 have hle : ∀ w' : World, Kept W w' → Calls Try.prog 21 #[.agg #[.slice Af 2 2, .slice Ac 1 1, .bool false], .int .u8 1, .int .u8 0] w' fun e w'' => e = .returned (.int .i64 1) ∧ Kept w' w'' :=
  fun w' hk' => length21 Af Ac 2 2 1 1 false [exF0, exF1] 1 0 w' hsz (hF.kept hk')
 have hs0 : ∀ (w' : World) (A2 : Option Addr), Kept W w' → Sl u32T w' (low w'.heap.size) A2 3 [589825, 589826, 589827] → Calls Try.prog 24 #[.agg #[.int .u8 1, .int .u8 0, .int .i64 0, .slice A0 3 3, .int .i64 0, .int .i64 1, .int .i64 1, .int .i64 3, .int .i64 0, .bool false, .bool false, .bool false, .bool false], .agg #[.int .u8 1, .int .u8 0, .int .i64 0, .slice A2 3 3, .int .i64 0, .int .i64 1, .int .i64 1, .int .i64 3, .int .i64 0, .bool false, .bool false, .bool false, .bool false]] w' fun e w'' => e = .returned (.bool true) ∧ Kept w' w'' :=
  fun w' A2 hk' h2 => same_eq exF0 A0 A2 w' (by decide) (h0.kept hk') h2
 have hs1 : ∀ (w' : World), Calls Try.prog 24 #[.agg #[.int .u8 1, .int .u8 0, .int .i64 0, .slice A1 0 0, .int .i64 0, .int .i64 1, .int .i64 5, .int .i64 1, .int .i64 3, .bool true, .bool true, .bool false, .bool false], .agg #[.int .u8 1, .int .u8 0, .int .i64 0, .slice none 0 0, .int .i64 0, .int .i64 1, .int .i64 5, .int .i64 1, .int .i64 3, .bool true, .bool true, .bool false, .bool false]] w' fun e w'' => e = .returned (.bool true) ∧ Kept w' w'' :=
  fun w' => same_eq exF1 A1 none w' (by decide) (Sl.nil _ _ _ _) (Sl.nil _ _ _ _)
 have Hk := hide hk
 have HM := hide hM
 have HG4 := hide hG4
 have HG5 := hide hG5
 have m0 := cell_heap hM (o := 0) rfl
 have m1 := cell_heap hM (o := 1) rfl
 have m2 := cell_heap hM (o := 2) rfl
 have a0 := cell_heap hG4 (o := 0) rfl
 have a1 := cell_heap hG4 (o := 1) rfl
 have a2 := cell_heap hG4 (o := 2) rfl
 have a3 := cell_heap hG4 (o := 3) rfl
 have a4 := cell_heap hG4 (o := 4) rfl
 have a5 := cell_heap hG4 (o := 5) rfl
 have a6 := cell_heap hG4 (o := 6) rfl
 have a7 := cell_heap hG4 (o := 7) rfl
 have a8 := cell_heap hG4 (o := 8) rfl
 have a9 := cell_heap hG4 (o := 9) rfl
 have a10 := cell_heap hG4 (o := 10) rfl
 have a11 := cell_heap hG4 (o := 11) rfl
 have a12 := cell_heap hG4 (o := 12) rfl
 have b0 := cell_heap hG5 (o := 0) rfl
 have b1 := cell_heap hG5 (o := 1) rfl
 have b2 := cell_heap hG5 (o := 2) rfl
 have b3 := cell_heap hG5 (o := 3) rfl
 have b4 := cell_heap hG5 (o := 4) rfl
 have b5 := cell_heap hG5 (o := 5) rfl
 have b6 := cell_heap hG5 (o := 6) rfl
 have b7 := cell_heap hG5 (o := 7) rfl
 have b8 := cell_heap hG5 (o := 8) rfl
 have b9 := cell_heap hG5 (o := 9) rfl
 have b10 := cell_heap hG5 (o := 10) rfl
 have b11 := cell_heap hG5 (o := 11) rfl
 have b12 := cell_heap hG5 (o := 12) rfl
 have l1 := heap_lt hM
 have l2 := heap_lt hG4
 have l3 := heap_lt hG5
 clear hk hM hG4 hG5 hF h0 hsz
 conv => arg 2; whnf
 dsimp only
 go_wp2_with fail
 go_at_call 23
 refine (hfi _ (Below.refl _ _)).mono ?_
 rintro e w1 ⟨rfl, hk1⟩
 obtain ⟨hc1, hf1⟩ := bcell hk1
 have hz1 := hk1.size
 go_wp2_with fail
 go_at_call 24
 have kA : Kept W (w1.alloc (.cells #[.int .u32 589825, .int .u32 589826, .int .u32 589827] 27)) := hk1.alloc hz1 _
 refine (hs0 _ _ kA (sl_u32_heap (heap_at _ rfl) rfl (by unfold u32k; decide))).mono ?_
 rintro e w2 ⟨rfl, hk2⟩
 have k2 : Kept W w2 := kA.trans' hk2
 clear hc1 hf1
 obtain ⟨hc2, hf2⟩ := bcell k2
 have hz2 := k2.size
 go_wp2_with fail
 go_at_call 24
 refine (hs1 _).mono ?_
 rintro e w3 ⟨rfl, hk3⟩
 have k3 : Kept W w3 := k2.trans' hk3
 clear hc2 hf2
 obtain ⟨hc3, hf3⟩ := bcell k3
 have hz3 := k3.size
 go_wp2_with fail
 go_at_call 21
 refine (hle _ k3).mono ?_
 rintro e w4 ⟨rfl, hk4⟩
 go_wp2_with fail
 go_ret
 exact ⟨rfl, Hk.out.trans' (k3.trans' hk4)⟩
set_option maxRecDepth 100000 in
theorem lives_any (w : World) : Calls Try.prog 8 #[] w fun e w' => e = .returned (.bool true) ∧ Kept w w' := by
 go_enter Try.func8, Try.ntmps8
 go_upto_region 5 with (go_at_call 14; refine (lives_parse w.heap.size _ _ (heap_at _ rfl) rfl).mono ?_; rintro e w1 ⟨hk1, Af, Ac, rfl, hF, hC⟩; obtain ⟨yc, bc, oc, ccs, hyc, rfl, hbc, ⟨rfl, _⟩, hcc⟩ := hC.at (show 0 < 1 by decide); obtain rfl : exC = yc := (by simpa using hyc); have z0 : w1.cell? ⟨bc, oc, none⟩ = some (.int .u8 1) := hcc 0 _ rfl; have z1 : w1.cell? ⟨bc, oc + 1, none⟩ = some (.int .u32 65538) := hcc 1 _ rfl; have z2 : w1.cell? ⟨bc, oc + 2, none⟩ = some (.int .i64 (-1)) := hcc 2 _ rfl; have hbl : bc < w1.heap.size := hbc; clear hcc hyc)
 refine wp_at (fun W => Kept w W ∧ W.heap[w1.heap.size]? = some (.cells #[.slice Af 2 2, .slice (some ⟨bc, oc, none⟩) 1 1, .bool false] 40 (0, 0)) ∧ Sl fdT W (low W.heap.size) Af 2 [exF0, exF1]) ⟨?_, heap_at _ rfl, hF.kept ((Below.refl _ _).alloc (Nat.le_refl _) _)⟩ (fun W hW => ?_)
 ·have k1 : Below w.heap.size w w1 := Below.trans ((Below.refl _ _).alloc (Nat.le_refl _) _) (hk1.mono (by simp))
  exact k1.alloc k1.size _
 obtain ⟨hk, hM, hFs⟩ := hW
 generalize w1.heap.size = bm at *
 clear hF hC hk1 z0 z1 z2 hbl hbc
 obtain ⟨y0, bf, of, c0, hy0, rfl, hb0, ⟨A0, rfl, hn0, hs0⟩, hc0⟩ := hFs.at (show 0 < 2 by decide)
 obtain rfl : exF0 = y0 := by simpa using hy0
 obtain ⟨y1, bf', of', c1, hy1, hbe, _, ⟨A1, rfl, hn1, hs1⟩, hc1⟩ := hFs.at (show 1 < 2 by decide)
 obtain rfl : exF1 = y1 := by simpa using hy1
 injection hbe with hbe
 injection hbe with e1 e2 _
 subst e1 e2
 have hbl : bf < W.heap.size := hb0
 have hml := heap_lt hM
 have m0 : W.cell? ⟨bm, 0, none⟩ = some (.slice (some ⟨bf, of, none⟩) 2 2) := cell_heap hM (o := 0) rfl
 have p0 : W.cell? ⟨bf, of, none⟩ = some (.int .u8 1) := by have h : W.cell? ⟨bf, of + 0 * fdT.size + 0, none⟩ = some (.int .u8 1) := hc0 0 _ rfl; simpa [fdT] using h
 have p1 : W.cell? ⟨bf, of + 1, none⟩ = some (.int .u8 0) := by have h : W.cell? ⟨bf, of + 0 * fdT.size + 1, none⟩ = some (.int .u8 0) := hc0 1 _ rfl; simpa [fdT] using h
 have p2 : W.cell? ⟨bf, of + 2, none⟩ = some (.int .i64 0) := by have h : W.cell? ⟨bf, of + 0 * fdT.size + 2, none⟩ = some (.int .i64 0) := hc0 2 _ rfl; simpa [fdT] using h
 have p3 : W.cell? ⟨bf, of + 3, none⟩ = some (.slice A0 3 3) := by have h : W.cell? ⟨bf, of + 0 * fdT.size + 3, none⟩ = some (.slice A0 3 3) := hc0 3 _ rfl; simpa [fdT] using h
 have p4 : W.cell? ⟨bf, of + 4, none⟩ = some (.int .i64 0) := by have h : W.cell? ⟨bf, of + 0 * fdT.size + 4, none⟩ = some (.int .i64 0) := hc0 4 _ rfl; simpa [fdT] using h
 have p5 : W.cell? ⟨bf, of + 5, none⟩ = some (.int .i64 1) := by have h : W.cell? ⟨bf, of + 0 * fdT.size + 5, none⟩ = some (.int .i64 1) := hc0 5 _ rfl; simpa [fdT] using h
 have p6 : W.cell? ⟨bf, of + 6, none⟩ = some (.int .i64 1) := by have h : W.cell? ⟨bf, of + 0 * fdT.size + 6, none⟩ = some (.int .i64 1) := hc0 6 _ rfl; simpa [fdT] using h
 have p7 : W.cell? ⟨bf, of + 7, none⟩ = some (.int .i64 3) := by have h : W.cell? ⟨bf, of + 0 * fdT.size + 7, none⟩ = some (.int .i64 3) := hc0 7 _ rfl; simpa [fdT] using h
 have p8 : W.cell? ⟨bf, of + 8, none⟩ = some (.int .i64 0) := by have h : W.cell? ⟨bf, of + 0 * fdT.size + 8, none⟩ = some (.int .i64 0) := hc0 8 _ rfl; simpa [fdT] using h
 have p9 : W.cell? ⟨bf, of + 9, none⟩ = some (.bool false) := by have h : W.cell? ⟨bf, of + 0 * fdT.size + 9, none⟩ = some (.bool false) := hc0 9 _ rfl; simpa [fdT] using h
 have p10 : W.cell? ⟨bf, of + 10, none⟩ = some (.bool false) := by have h : W.cell? ⟨bf, of + 0 * fdT.size + 10, none⟩ = some (.bool false) := hc0 10 _ rfl; simpa [fdT] using h
 have p11 : W.cell? ⟨bf, of + 11, none⟩ = some (.bool false) := by have h : W.cell? ⟨bf, of + 0 * fdT.size + 11, none⟩ = some (.bool false) := hc0 11 _ rfl; simpa [fdT] using h
 have p12 : W.cell? ⟨bf, of + 12, none⟩ = some (.bool false) := by have h : W.cell? ⟨bf, of + 0 * fdT.size + 12, none⟩ = some (.bool false) := hc0 12 _ rfl; simpa [fdT] using h
 have q0 : W.cell? ⟨bf, of + 13, none⟩ = some (.int .u8 1) := by have h : W.cell? ⟨bf, of + 1 * fdT.size + 0, none⟩ = some (.int .u8 1) := hc1 0 _ rfl; simpa [fdT] using h
 have q1 : W.cell? ⟨bf, of + 14, none⟩ = some (.int .u8 0) := by have h : W.cell? ⟨bf, of + 1 * fdT.size + 1, none⟩ = some (.int .u8 0) := hc1 1 _ rfl; simpa [fdT] using h
 have q2 : W.cell? ⟨bf, of + 15, none⟩ = some (.int .i64 0) := by have h : W.cell? ⟨bf, of + 1 * fdT.size + 2, none⟩ = some (.int .i64 0) := hc1 2 _ rfl; simpa [fdT] using h
 have q3 : W.cell? ⟨bf, of + 16, none⟩ = some (.slice A1 0 0) := by have h : W.cell? ⟨bf, of + 1 * fdT.size + 3, none⟩ = some (.slice A1 0 0) := hc1 3 _ rfl; simpa [fdT] using h
 have q4 : W.cell? ⟨bf, of + 17, none⟩ = some (.int .i64 0) := by have h : W.cell? ⟨bf, of + 1 * fdT.size + 4, none⟩ = some (.int .i64 0) := hc1 4 _ rfl; simpa [fdT] using h
 have q5 : W.cell? ⟨bf, of + 18, none⟩ = some (.int .i64 1) := by have h : W.cell? ⟨bf, of + 1 * fdT.size + 5, none⟩ = some (.int .i64 1) := hc1 5 _ rfl; simpa [fdT] using h
 have q6 : W.cell? ⟨bf, of + 19, none⟩ = some (.int .i64 5) := by have h : W.cell? ⟨bf, of + 1 * fdT.size + 6, none⟩ = some (.int .i64 5) := hc1 6 _ rfl; simpa [fdT] using h
 have q7 : W.cell? ⟨bf, of + 20, none⟩ = some (.int .i64 1) := by have h : W.cell? ⟨bf, of + 1 * fdT.size + 7, none⟩ = some (.int .i64 1) := hc1 7 _ rfl; simpa [fdT] using h
 have q8 : W.cell? ⟨bf, of + 21, none⟩ = some (.int .i64 3) := by have h : W.cell? ⟨bf, of + 1 * fdT.size + 8, none⟩ = some (.int .i64 3) := hc1 8 _ rfl; simpa [fdT] using h
 have q9 : W.cell? ⟨bf, of + 22, none⟩ = some (.bool true) := by have h : W.cell? ⟨bf, of + 1 * fdT.size + 9, none⟩ = some (.bool true) := hc1 9 _ rfl; simpa [fdT] using h
 have q10 : W.cell? ⟨bf, of + 23, none⟩ = some (.bool true) := by have h : W.cell? ⟨bf, of + 1 * fdT.size + 10, none⟩ = some (.bool true) := hc1 10 _ rfl; simpa [fdT] using h
 have q11 : W.cell? ⟨bf, of + 24, none⟩ = some (.bool false) := by have h : W.cell? ⟨bf, of + 1 * fdT.size + 11, none⟩ = some (.bool false) := hc1 11 _ rfl; simpa [fdT] using h
 have q12 : W.cell? ⟨bf, of + 25, none⟩ = some (.bool false) := by have h : W.cell? ⟨bf, of + 1 * fdT.size + 12, none⟩ = some (.bool false) := hc1 12 _ rfl; simpa [fdT] using h
 have HM := hide hM
 have Hk := hide hk
 have HF := hide hFs
 have HS0 := hide hs0
 clear hM hk hFs hs0 hs1 hc0 hc1 hy0 hy1 hn0 hn1 hb0
 refine wp_region_held_named (ops' := opsL) (n := 12) (S := fun w' => (∀ b o, b < W.heap.size → w'.cell? ⟨b, o, none⟩ = W.cell? ⟨b, o, none⟩) ∧ Kept W w') (by kernel_rfl) (by kernel_rfl) (by kernel_rfl) since_start (fun hS => ?_)
 have ho := opE opsL 0 (by kernel_rfl)
 conv at ho => rhs; arg 1; whnf
 refine tk0 (v := ?_) ho (by kernel_rfl) hS ?_ ?_ <;> clear ho
 rotate_left
 ·intro w' hq hq2; first | (go_simp; done) | (go_simp; with_reducible rfl)
 try simp only [Act.put, zp1, zp2, zp3, zp4, zp5, zp6]
 have ho := opE opsL 1 (by kernel_rfl)
 conv at ho => rhs; arg 1; whnf
 refine tk0 (v := ?_) ho (by kernel_rfl) hS ?_ ?_ <;> clear ho
 rotate_left
 ·intro w' hq hq2; first | (go_simp; done) | (go_simp; with_reducible rfl)
 try simp only [Act.put, zp1, zp2, zp3, zp4, zp5, zp6]
 have ho := opE opsL 2 (by kernel_rfl)
 conv at ho => rhs; arg 1; whnf
 refine tk0 (v := ?_) ho (by kernel_rfl) hS ?_ ?_ <;> clear ho
 rotate_left
 ·intro w' hq hq2; first | (go_simp; done) | (go_simp; with_reducible rfl)
 try simp only [Act.put, zp1, zp2, zp3, zp4, zp5, zp6]
 have ho := opE opsL 3 (by kernel_rfl)
 conv at ho => rhs; arg 1; whnf
 refine tk0 (v := ?_) ho (by kernel_rfl) hS ?_ ?_ <;> clear ho
 rotate_left
 ·intro w' hq hq2; first | (go_simp; done) | (go_simp; with_reducible rfl)
 try simp only [Act.put, zp1, zp2, zp3, zp4, zp5, zp6]
 have ho := opE opsL 4 (by kernel_rfl)
 conv at ho => rhs; arg 1; whnf
 refine tk0 (v := ?_) ho (by kernel_rfl) hS ?_ ?_ <;> clear ho
 rotate_left
 ·intro w' hq hq2; first | (go_simp; done) | (go_simp; with_reducible rfl)
 try simp only [Act.put, zp1, zp2, zp3, zp4, zp5, zp6]
 have ho := opE opsL 5 (by kernel_rfl)
 conv at ho => rhs; arg 1; whnf
 refine tk0 (v := ?_) ho (by kernel_rfl) hS ?_ ?_ <;> clear ho
 rotate_left
 ·intro w' hq hq2; first | (go_simp; done) | (go_simp; with_reducible rfl)
 try simp only [Act.put, zp1, zp2, zp3, zp4, zp5, zp6]
 have ho := opE opsL 6 (by kernel_rfl)
 conv at ho => rhs; arg 1; whnf
 refine tk0 (v := ?_) ho (by kernel_rfl) hS ?_ ?_ <;> clear ho
 rotate_left
 ·intro w' hq hq2; first | (go_simp; done) | (go_simp; with_reducible rfl)
 try simp only [Act.put, zp1, zp2, zp3, zp4, zp5, zp6]
 have ho := opE opsL 7 (by kernel_rfl)
 conv at ho => rhs; arg 1; whnf
 refine tk0 (v := ?_) ho (by kernel_rfl) hS ?_ ?_ <;> clear ho
 rotate_left
 ·intro w' hq hq2; first | (go_simp; done) | (go_simp; with_reducible rfl)
 try simp only [Act.put, zp1, zp2, zp3, zp4, zp5, zp6]
 have ho8 := opE opsL 8 (by kernel_rfl)
 conv at ho8 => rhs; arg 1; whnf
 have ho9 := opE opsL 9 (by kernel_rfl)
 conv at ho9 => rhs; arg 1; whnf
 refine wpAnyH_ready (rs := [8, 9]) (by kernel_rfl) (by simp) ?_
 refine (AllReadyH.cons ho8 (fun K hK => ?_) (AllReadyH.cons ho9 (fun K hK => ?_) AllReadyH.nil))
 all_goals clear ho8 ho9
 ·go_simp
  try dsimp only
  refine hK.out _ _ ?_ (fun hS => ?_)
  ·exact ⟨fun b o hb => ((of_drew' ((Below.refl W.heap.size W).alloc (Nat.le_refl _) _)).cell (p := ⟨b, o, none⟩) hb), of_drew' ((Below.refl W.heap.size W).alloc (Nat.le_refl _) _)⟩
  clear hK K
  try simp only [Act.put, zp1, zp2, zp3, zp4, zp5, zp6]
  have ho9 := opE opsL 9 (by kernel_rfl)
  conv at ho9 => rhs; arg 1; whnf
  refine wpAnyH_ready (rs := [9]) (by kernel_rfl) (by simp) ?_
  refine (AllReadyH.cons ho9 (fun K hK => ?_) AllReadyH.nil)
  all_goals clear ho9
  go_simp
  try dsimp only
  refine hK.out _ _ ?_ (fun hS => ?_)
  ·exact ⟨fun b o hb => ((of_drew' (((Below.refl W.heap.size W).alloc (Nat.le_refl _) _).alloc (by simp) _)).cell (p := ⟨b, o, none⟩) hb), of_drew' (((Below.refl W.heap.size W).alloc (Nat.le_refl _) _).alloc (by simp) _)⟩
  clear hK K
  try simp only [Act.put, zp1, zp2, zp3, zp4, zp5, zp6]
  have kB : Below W.heap.size W (((W.alloc (.cells #[.int .u8 0, .int .u8 0, .int .i64 0, .slice none 0 0, .int .i64 0, .int .i64 0, .int .i64 0, .int .i64 0, .int .i64 0, .bool false, .bool false, .bool false, .bool false] 59)).alloc (.cells #[.int .u8 0, .int .u8 0, .int .i64 0, .slice none 0 0, .int .i64 0, .int .i64 0, .int .i64 0, .int .i64 0, .int .i64 0, .bool false, .bool false, .bool false, .bool false] 59)).drew) := of_drew' (((Below.refl W.heap.size W).alloc (Nat.le_refl _) _).alloc (by simp) _)
  have kC : Below W.heap.size W ((((W.alloc (.cells #[.int .u8 0, .int .u8 0, .int .i64 0, .slice none 0 0, .int .i64 0, .int .i64 0, .int .i64 0, .int .i64 0, .int .i64 0, .bool false, .bool false, .bool false, .bool false] 59)).alloc (.cells #[.int .u8 0, .int .u8 0, .int .i64 0, .slice none 0 0, .int .i64 0, .int .i64 0, .int .i64 0, .int .i64 0, .int .i64 0, .bool false, .bool false, .bool false, .bool false] 59)).drew).setRow (W.heap.size) #[.int .u8 1, .int .u8 0, .int .i64 0, .slice A0 3 3, .int .i64 0, .int .i64 1, .int .i64 1, .int .i64 3, .int .i64 0, .bool false, .bool false, .bool false, .bool false]) := below_row kB (by omega) _
  have kD : Below W.heap.size W (((((W.alloc (.cells #[.int .u8 0, .int .u8 0, .int .i64 0, .slice none 0 0, .int .i64 0, .int .i64 0, .int .i64 0, .int .i64 0, .int .i64 0, .bool false, .bool false, .bool false, .bool false] 59)).alloc (.cells #[.int .u8 0, .int .u8 0, .int .i64 0, .slice none 0 0, .int .i64 0, .int .i64 0, .int .i64 0, .int .i64 0, .int .i64 0, .bool false, .bool false, .bool false, .bool false] 59)).drew).setRow (W.heap.size) #[.int .u8 1, .int .u8 0, .int .i64 0, .slice A0 3 3, .int .i64 0, .int .i64 1, .int .i64 1, .int .i64 3, .int .i64 0, .bool false, .bool false, .bool false, .bool false]).setRow (W.heap.size + 1) #[.int .u8 1, .int .u8 0, .int .i64 0, .slice A1 0 0, .int .i64 0, .int .i64 1, .int .i64 5, .int .i64 1, .int .i64 3, .bool true, .bool true, .bool false, .bool false]) := below_row kC (by omega) _
  have hA : (((W.alloc (.cells #[.int .u8 0, .int .u8 0, .int .i64 0, .slice none 0 0, .int .i64 0, .int .i64 0, .int .i64 0, .int .i64 0, .int .i64 0, .bool false, .bool false, .bool false, .bool false] 59)).alloc (.cells #[.int .u8 0, .int .u8 0, .int .i64 0, .slice none 0 0, .int .i64 0, .int .i64 0, .int .i64 0, .int .i64 0, .int .i64 0, .bool false, .bool false, .bool false, .bool false] 59)).drew).heap[W.heap.size]? = some (.cells #[.int .u8 0, .int .u8 0, .int .i64 0, .slice none 0 0, .int .i64 0, .int .i64 0, .int .i64 0, .int .i64 0, .int .i64 0, .bool false, .bool false, .bool false, .bool false] 59 (0, 0)) := (by first | exact heap_drew (heap_past (heap_at _ rfl)) | exact heap_drew (heap_at _ (by simp)))
  have hB : (((W.alloc (.cells #[.int .u8 0, .int .u8 0, .int .i64 0, .slice none 0 0, .int .i64 0, .int .i64 0, .int .i64 0, .int .i64 0, .int .i64 0, .bool false, .bool false, .bool false, .bool false] 59)).alloc (.cells #[.int .u8 0, .int .u8 0, .int .i64 0, .slice none 0 0, .int .i64 0, .int .i64 0, .int .i64 0, .int .i64 0, .int .i64 0, .bool false, .bool false, .bool false, .bool false] 59)).drew).heap[W.heap.size + 1]? = some (.cells #[.int .u8 0, .int .u8 0, .int .i64 0, .slice none 0 0, .int .i64 0, .int .i64 0, .int .i64 0, .int .i64 0, .int .i64 0, .bool false, .bool false, .bool false, .bool false] 59 (0, 0)) := (by first | exact heap_drew (heap_past (heap_at _ rfl)) | exact heap_drew (heap_at _ (by simp)))
  have hA4 : ((((W.alloc (.cells #[.int .u8 0, .int .u8 0, .int .i64 0, .slice none 0 0, .int .i64 0, .int .i64 0, .int .i64 0, .int .i64 0, .int .i64 0, .bool false, .bool false, .bool false, .bool false] 59)).alloc (.cells #[.int .u8 0, .int .u8 0, .int .i64 0, .slice none 0 0, .int .i64 0, .int .i64 0, .int .i64 0, .int .i64 0, .int .i64 0, .bool false, .bool false, .bool false, .bool false] 59)).drew).setRow (W.heap.size) #[.int .u8 1, .int .u8 0, .int .i64 0, .slice A0 3 3, .int .i64 0, .int .i64 1, .int .i64 1, .int .i64 3, .int .i64 0, .bool false, .bool false, .bool false, .bool false]).heap[W.heap.size]? = some (.cells #[.int .u8 1, .int .u8 0, .int .i64 0, .slice A0 3 3, .int .i64 0, .int .i64 1, .int .i64 1, .int .i64 3, .int .i64 0, .bool false, .bool false, .bool false, .bool false] 59 (0, 0)) := heap_row hA
  have hB4 : ((((W.alloc (.cells #[.int .u8 0, .int .u8 0, .int .i64 0, .slice none 0 0, .int .i64 0, .int .i64 0, .int .i64 0, .int .i64 0, .int .i64 0, .bool false, .bool false, .bool false, .bool false] 59)).alloc (.cells #[.int .u8 0, .int .u8 0, .int .i64 0, .slice none 0 0, .int .i64 0, .int .i64 0, .int .i64 0, .int .i64 0, .int .i64 0, .bool false, .bool false, .bool false, .bool false] 59)).drew).setRow (W.heap.size) #[.int .u8 1, .int .u8 0, .int .i64 0, .slice A0 3 3, .int .i64 0, .int .i64 1, .int .i64 1, .int .i64 3, .int .i64 0, .bool false, .bool false, .bool false, .bool false]).heap[W.heap.size + 1]? = some (.cells #[.int .u8 0, .int .u8 0, .int .i64 0, .slice none 0 0, .int .i64 0, .int .i64 0, .int .i64 0, .int .i64 0, .int .i64 0, .bool false, .bool false, .bool false, .bool false] 59 (0, 0)) := heap_row_other (by omega) hB
  have hA5 : (((((W.alloc (.cells #[.int .u8 0, .int .u8 0, .int .i64 0, .slice none 0 0, .int .i64 0, .int .i64 0, .int .i64 0, .int .i64 0, .int .i64 0, .bool false, .bool false, .bool false, .bool false] 59)).alloc (.cells #[.int .u8 0, .int .u8 0, .int .i64 0, .slice none 0 0, .int .i64 0, .int .i64 0, .int .i64 0, .int .i64 0, .int .i64 0, .bool false, .bool false, .bool false, .bool false] 59)).drew).setRow (W.heap.size) #[.int .u8 1, .int .u8 0, .int .i64 0, .slice A0 3 3, .int .i64 0, .int .i64 1, .int .i64 1, .int .i64 3, .int .i64 0, .bool false, .bool false, .bool false, .bool false]).setRow (W.heap.size + 1) #[.int .u8 1, .int .u8 0, .int .i64 0, .slice A1 0 0, .int .i64 0, .int .i64 1, .int .i64 5, .int .i64 1, .int .i64 3, .bool true, .bool true, .bool false, .bool false]).heap[W.heap.size]? = some (.cells #[.int .u8 1, .int .u8 0, .int .i64 0, .slice A0 3 3, .int .i64 0, .int .i64 1, .int .i64 1, .int .i64 3, .int .i64 0, .bool false, .bool false, .bool false, .bool false] 59 (0, 0)) := heap_row_other (by omega) hA4
  have hB5 : (((((W.alloc (.cells #[.int .u8 0, .int .u8 0, .int .i64 0, .slice none 0 0, .int .i64 0, .int .i64 0, .int .i64 0, .int .i64 0, .int .i64 0, .bool false, .bool false, .bool false, .bool false] 59)).alloc (.cells #[.int .u8 0, .int .u8 0, .int .i64 0, .slice none 0 0, .int .i64 0, .int .i64 0, .int .i64 0, .int .i64 0, .int .i64 0, .bool false, .bool false, .bool false, .bool false] 59)).drew).setRow (W.heap.size) #[.int .u8 1, .int .u8 0, .int .i64 0, .slice A0 3 3, .int .i64 0, .int .i64 1, .int .i64 1, .int .i64 3, .int .i64 0, .bool false, .bool false, .bool false, .bool false]).setRow (W.heap.size + 1) #[.int .u8 1, .int .u8 0, .int .i64 0, .slice A1 0 0, .int .i64 0, .int .i64 1, .int .i64 5, .int .i64 1, .int .i64 3, .bool true, .bool true, .bool false, .bool false]).heap[W.heap.size + 1]? = some (.cells #[.int .u8 1, .int .u8 0, .int .i64 0, .slice A1 0 0, .int .i64 0, .int .i64 1, .int .i64 5, .int .i64 1, .int .i64 3, .bool true, .bool true, .bool false, .bool false] 59 (0, 0)) := heap_row hB4
  have ho10 := opE opsL 10 (by kernel_rfl)
  conv at ho10 => rhs; arg 1; whnf
  refine wpAnyH_ready (rs := [10]) (by kernel_rfl) (by simp) ?_
  refine (AllReadyH.cons ho10 (fun K hK => ?_) AllReadyH.nil)
  all_goals clear ho10
  rw [if_pos (by kernel_rfl)]
  refine wp_store_row 59 (.tmp 4) (.tmp 40) rfl (W.heap.size) #[.int .u8 1, .int .u8 0, .int .i64 0, .slice A0 3 3, .int .i64 0, .int .i64 1, .int .i64 1, .int .i64 3, .int .i64 0, .bool false, .bool false, .bool false, .bool false] (by rfl) (by rfl) 59 _ hA (by kernel_rfl) (by rfl) (by simp [Value.oneCell']) ?_
  refine hK.out _ _ ?_ (fun hS => ?_)
  ·exact ⟨fun b o hb => kC.cell (p := ⟨b, o, none⟩) hb, kC⟩
  clear hK K
  try simp only [Act.put, zp1, zp2, zp3, zp4, zp5, zp6]
  have ho11 := opE opsL 11 (by kernel_rfl)
  conv at ho11 => rhs; arg 1; whnf
  refine wpAnyH_ready (rs := [11]) (by kernel_rfl) (by simp) ?_
  refine (AllReadyH.cons ho11 (fun K hK => ?_) AllReadyH.nil)
  all_goals clear ho11
  rw [if_pos (by kernel_rfl)]
  refine wp_store_row 59 (.tmp 5) (.tmp 44) rfl (W.heap.size + 1) #[.int .u8 1, .int .u8 0, .int .i64 0, .slice A1 0 0, .int .i64 0, .int .i64 1, .int .i64 5, .int .i64 1, .int .i64 3, .bool true, .bool true, .bool false, .bool false] (by rfl) (by rfl) 59 _ hB4 (by kernel_rfl) (by rfl) (by simp [Value.oneCell']) ?_
  refine hK.out _ _ ?_ (fun hS => ?_)
  ·exact ⟨fun b o hb => kD.cell (p := ⟨b, o, none⟩) hb, kD⟩
  clear hK K
  try simp only [Act.put, zp1, zp2, zp3, zp4, zp5, zp6]
  refine wpAnyH_done (by kernel_rfl) ?_ _
  refine ‹∀ (a : Act) (w : World), Code.wp Try.prog _ _ a w → _› _ _ ?_
  exact lives_end (Hk.out.trans' kD) (heap_kept kD HM.out) (HF.out.kept kD) (HS0.out.keep (fun g hg => Nat.lt_of_lt_of_le hg kD.size) (fun b o hb => kD.cell (p := ⟨b, o, none⟩) hb)) hA5 hB5
 ·go_simp
  try dsimp only
  refine hK.out _ _ ?_ (fun hS => ?_)
  ·exact ⟨fun b o hb => ((of_drew' ((Below.refl W.heap.size W).alloc (Nat.le_refl _) _)).cell (p := ⟨b, o, none⟩) hb), of_drew' ((Below.refl W.heap.size W).alloc (Nat.le_refl _) _)⟩
  clear hK K
  try simp only [Act.put, zp1, zp2, zp3, zp4, zp5, zp6]
  have ho8 := opE opsL 8 (by kernel_rfl)
  conv at ho8 => rhs; arg 1; whnf
  refine wpAnyH_ready (rs := [8]) (by kernel_rfl) (by simp) ?_
  refine (AllReadyH.cons ho8 (fun K hK => ?_) AllReadyH.nil)
  all_goals clear ho8
  go_simp
  try dsimp only
  refine hK.out _ _ ?_ (fun hS => ?_)
  ·exact ⟨fun b o hb => ((of_drew' (((Below.refl W.heap.size W).alloc (Nat.le_refl _) _).alloc (by simp) _)).cell (p := ⟨b, o, none⟩) hb), of_drew' (((Below.refl W.heap.size W).alloc (Nat.le_refl _) _).alloc (by simp) _)⟩
  clear hK K
  try simp only [Act.put, zp1, zp2, zp3, zp4, zp5, zp6]
  have kB : Below W.heap.size W (((W.alloc (.cells #[.int .u8 0, .int .u8 0, .int .i64 0, .slice none 0 0, .int .i64 0, .int .i64 0, .int .i64 0, .int .i64 0, .int .i64 0, .bool false, .bool false, .bool false, .bool false] 59)).alloc (.cells #[.int .u8 0, .int .u8 0, .int .i64 0, .slice none 0 0, .int .i64 0, .int .i64 0, .int .i64 0, .int .i64 0, .int .i64 0, .bool false, .bool false, .bool false, .bool false] 59)).drew) := of_drew' (((Below.refl W.heap.size W).alloc (Nat.le_refl _) _).alloc (by simp) _)
  have kC : Below W.heap.size W ((((W.alloc (.cells #[.int .u8 0, .int .u8 0, .int .i64 0, .slice none 0 0, .int .i64 0, .int .i64 0, .int .i64 0, .int .i64 0, .int .i64 0, .bool false, .bool false, .bool false, .bool false] 59)).alloc (.cells #[.int .u8 0, .int .u8 0, .int .i64 0, .slice none 0 0, .int .i64 0, .int .i64 0, .int .i64 0, .int .i64 0, .int .i64 0, .bool false, .bool false, .bool false, .bool false] 59)).drew).setRow (W.heap.size + 1) #[.int .u8 1, .int .u8 0, .int .i64 0, .slice A0 3 3, .int .i64 0, .int .i64 1, .int .i64 1, .int .i64 3, .int .i64 0, .bool false, .bool false, .bool false, .bool false]) := below_row kB (by omega) _
  have kD : Below W.heap.size W (((((W.alloc (.cells #[.int .u8 0, .int .u8 0, .int .i64 0, .slice none 0 0, .int .i64 0, .int .i64 0, .int .i64 0, .int .i64 0, .int .i64 0, .bool false, .bool false, .bool false, .bool false] 59)).alloc (.cells #[.int .u8 0, .int .u8 0, .int .i64 0, .slice none 0 0, .int .i64 0, .int .i64 0, .int .i64 0, .int .i64 0, .int .i64 0, .bool false, .bool false, .bool false, .bool false] 59)).drew).setRow (W.heap.size + 1) #[.int .u8 1, .int .u8 0, .int .i64 0, .slice A0 3 3, .int .i64 0, .int .i64 1, .int .i64 1, .int .i64 3, .int .i64 0, .bool false, .bool false, .bool false, .bool false]).setRow (W.heap.size) #[.int .u8 1, .int .u8 0, .int .i64 0, .slice A1 0 0, .int .i64 0, .int .i64 1, .int .i64 5, .int .i64 1, .int .i64 3, .bool true, .bool true, .bool false, .bool false]) := below_row kC (by omega) _
  have hA : (((W.alloc (.cells #[.int .u8 0, .int .u8 0, .int .i64 0, .slice none 0 0, .int .i64 0, .int .i64 0, .int .i64 0, .int .i64 0, .int .i64 0, .bool false, .bool false, .bool false, .bool false] 59)).alloc (.cells #[.int .u8 0, .int .u8 0, .int .i64 0, .slice none 0 0, .int .i64 0, .int .i64 0, .int .i64 0, .int .i64 0, .int .i64 0, .bool false, .bool false, .bool false, .bool false] 59)).drew).heap[W.heap.size + 1]? = some (.cells #[.int .u8 0, .int .u8 0, .int .i64 0, .slice none 0 0, .int .i64 0, .int .i64 0, .int .i64 0, .int .i64 0, .int .i64 0, .bool false, .bool false, .bool false, .bool false] 59 (0, 0)) := (by first | exact heap_drew (heap_past (heap_at _ rfl)) | exact heap_drew (heap_at _ (by simp)))
  have hB : (((W.alloc (.cells #[.int .u8 0, .int .u8 0, .int .i64 0, .slice none 0 0, .int .i64 0, .int .i64 0, .int .i64 0, .int .i64 0, .int .i64 0, .bool false, .bool false, .bool false, .bool false] 59)).alloc (.cells #[.int .u8 0, .int .u8 0, .int .i64 0, .slice none 0 0, .int .i64 0, .int .i64 0, .int .i64 0, .int .i64 0, .int .i64 0, .bool false, .bool false, .bool false, .bool false] 59)).drew).heap[W.heap.size]? = some (.cells #[.int .u8 0, .int .u8 0, .int .i64 0, .slice none 0 0, .int .i64 0, .int .i64 0, .int .i64 0, .int .i64 0, .int .i64 0, .bool false, .bool false, .bool false, .bool false] 59 (0, 0)) := (by first | exact heap_drew (heap_past (heap_at _ rfl)) | exact heap_drew (heap_at _ (by simp)))
  have hA4 : ((((W.alloc (.cells #[.int .u8 0, .int .u8 0, .int .i64 0, .slice none 0 0, .int .i64 0, .int .i64 0, .int .i64 0, .int .i64 0, .int .i64 0, .bool false, .bool false, .bool false, .bool false] 59)).alloc (.cells #[.int .u8 0, .int .u8 0, .int .i64 0, .slice none 0 0, .int .i64 0, .int .i64 0, .int .i64 0, .int .i64 0, .int .i64 0, .bool false, .bool false, .bool false, .bool false] 59)).drew).setRow (W.heap.size + 1) #[.int .u8 1, .int .u8 0, .int .i64 0, .slice A0 3 3, .int .i64 0, .int .i64 1, .int .i64 1, .int .i64 3, .int .i64 0, .bool false, .bool false, .bool false, .bool false]).heap[W.heap.size + 1]? = some (.cells #[.int .u8 1, .int .u8 0, .int .i64 0, .slice A0 3 3, .int .i64 0, .int .i64 1, .int .i64 1, .int .i64 3, .int .i64 0, .bool false, .bool false, .bool false, .bool false] 59 (0, 0)) := heap_row hA
  have hB4 : ((((W.alloc (.cells #[.int .u8 0, .int .u8 0, .int .i64 0, .slice none 0 0, .int .i64 0, .int .i64 0, .int .i64 0, .int .i64 0, .int .i64 0, .bool false, .bool false, .bool false, .bool false] 59)).alloc (.cells #[.int .u8 0, .int .u8 0, .int .i64 0, .slice none 0 0, .int .i64 0, .int .i64 0, .int .i64 0, .int .i64 0, .int .i64 0, .bool false, .bool false, .bool false, .bool false] 59)).drew).setRow (W.heap.size + 1) #[.int .u8 1, .int .u8 0, .int .i64 0, .slice A0 3 3, .int .i64 0, .int .i64 1, .int .i64 1, .int .i64 3, .int .i64 0, .bool false, .bool false, .bool false, .bool false]).heap[W.heap.size]? = some (.cells #[.int .u8 0, .int .u8 0, .int .i64 0, .slice none 0 0, .int .i64 0, .int .i64 0, .int .i64 0, .int .i64 0, .int .i64 0, .bool false, .bool false, .bool false, .bool false] 59 (0, 0)) := heap_row_other (by omega) hB
  have hA5 : (((((W.alloc (.cells #[.int .u8 0, .int .u8 0, .int .i64 0, .slice none 0 0, .int .i64 0, .int .i64 0, .int .i64 0, .int .i64 0, .int .i64 0, .bool false, .bool false, .bool false, .bool false] 59)).alloc (.cells #[.int .u8 0, .int .u8 0, .int .i64 0, .slice none 0 0, .int .i64 0, .int .i64 0, .int .i64 0, .int .i64 0, .int .i64 0, .bool false, .bool false, .bool false, .bool false] 59)).drew).setRow (W.heap.size + 1) #[.int .u8 1, .int .u8 0, .int .i64 0, .slice A0 3 3, .int .i64 0, .int .i64 1, .int .i64 1, .int .i64 3, .int .i64 0, .bool false, .bool false, .bool false, .bool false]).setRow (W.heap.size) #[.int .u8 1, .int .u8 0, .int .i64 0, .slice A1 0 0, .int .i64 0, .int .i64 1, .int .i64 5, .int .i64 1, .int .i64 3, .bool true, .bool true, .bool false, .bool false]).heap[W.heap.size + 1]? = some (.cells #[.int .u8 1, .int .u8 0, .int .i64 0, .slice A0 3 3, .int .i64 0, .int .i64 1, .int .i64 1, .int .i64 3, .int .i64 0, .bool false, .bool false, .bool false, .bool false] 59 (0, 0)) := heap_row_other (by omega) hA4
  have hB5 : (((((W.alloc (.cells #[.int .u8 0, .int .u8 0, .int .i64 0, .slice none 0 0, .int .i64 0, .int .i64 0, .int .i64 0, .int .i64 0, .int .i64 0, .bool false, .bool false, .bool false, .bool false] 59)).alloc (.cells #[.int .u8 0, .int .u8 0, .int .i64 0, .slice none 0 0, .int .i64 0, .int .i64 0, .int .i64 0, .int .i64 0, .int .i64 0, .bool false, .bool false, .bool false, .bool false] 59)).drew).setRow (W.heap.size + 1) #[.int .u8 1, .int .u8 0, .int .i64 0, .slice A0 3 3, .int .i64 0, .int .i64 1, .int .i64 1, .int .i64 3, .int .i64 0, .bool false, .bool false, .bool false, .bool false]).setRow (W.heap.size) #[.int .u8 1, .int .u8 0, .int .i64 0, .slice A1 0 0, .int .i64 0, .int .i64 1, .int .i64 5, .int .i64 1, .int .i64 3, .bool true, .bool true, .bool false, .bool false]).heap[W.heap.size]? = some (.cells #[.int .u8 1, .int .u8 0, .int .i64 0, .slice A1 0 0, .int .i64 0, .int .i64 1, .int .i64 5, .int .i64 1, .int .i64 3, .bool true, .bool true, .bool false, .bool false] 59 (0, 0)) := heap_row hB4
  have ho10 := opE opsL 10 (by kernel_rfl)
  conv at ho10 => rhs; arg 1; whnf
  refine wpAnyH_ready (rs := [10]) (by kernel_rfl) (by simp) ?_
  refine (AllReadyH.cons ho10 (fun K hK => ?_) AllReadyH.nil)
  all_goals clear ho10
  rw [if_pos (by kernel_rfl)]
  refine wp_store_row 59 (.tmp 4) (.tmp 40) rfl (W.heap.size + 1) #[.int .u8 1, .int .u8 0, .int .i64 0, .slice A0 3 3, .int .i64 0, .int .i64 1, .int .i64 1, .int .i64 3, .int .i64 0, .bool false, .bool false, .bool false, .bool false] (by rfl) (by rfl) 59 _ hA (by kernel_rfl) (by rfl) (by simp [Value.oneCell']) ?_
  refine hK.out _ _ ?_ (fun hS => ?_)
  ·exact ⟨fun b o hb => kC.cell (p := ⟨b, o, none⟩) hb, kC⟩
  clear hK K
  try simp only [Act.put, zp1, zp2, zp3, zp4, zp5, zp6]
  have ho11 := opE opsL 11 (by kernel_rfl)
  conv at ho11 => rhs; arg 1; whnf
  refine wpAnyH_ready (rs := [11]) (by kernel_rfl) (by simp) ?_
  refine (AllReadyH.cons ho11 (fun K hK => ?_) AllReadyH.nil)
  all_goals clear ho11
  rw [if_pos (by kernel_rfl)]
  refine wp_store_row 59 (.tmp 5) (.tmp 44) rfl (W.heap.size) #[.int .u8 1, .int .u8 0, .int .i64 0, .slice A1 0 0, .int .i64 0, .int .i64 1, .int .i64 5, .int .i64 1, .int .i64 3, .bool true, .bool true, .bool false, .bool false] (by rfl) (by rfl) 59 _ hB4 (by kernel_rfl) (by rfl) (by simp [Value.oneCell']) ?_
  refine hK.out _ _ ?_ (fun hS => ?_)
  ·exact ⟨fun b o hb => kD.cell (p := ⟨b, o, none⟩) hb, kD⟩
  clear hK K
  try simp only [Act.put, zp1, zp2, zp3, zp4, zp5, zp6]
  refine wpAnyH_done (by kernel_rfl) ?_ _
  refine ‹∀ (a : Act) (w : World), Code.wp Try.prog _ _ a w → _› _ _ ?_
  exact lives_end (Hk.out.trans' kD) (heap_kept kD HM.out) (HF.out.kept kD) (HS0.out.keep (fun g hg => Nat.lt_of_lt_of_le hg kD.size) (fun b o hb => kD.cell (p := ⟨b, o, none⟩) hb)) hA5 hB5
end Go.Proofs.Ytegdigfcgeoboaa
