/- The law of the chapter on reports, part 6: Rm Qa Qb Rk. -/
import Derived.Test.YtegdigfcgeoboaaK5
set_option maxHeartbeats 16000000
set_option linter.unusedVariables false
set_option linter.unusedSimpArgs false
set_option linter.unusedSectionVars false
namespace Go.Proofs.Ytegdigfcgeoboaa
open Go.RowKit
attribute [local go_sem ↓] Go.wp_at_zero Go.wp_at_succ
theorem two_pow (n : Nat) (h : n ≤ 32) : (1 : Int) ≤ 2 ^ n ∧ (2 : Int) ^ n ≤ 4294967296 := by
 have h1 : 2 ^ n ≤ 4294967296 := Nat.le_trans (Nat.pow_le_pow_right (by decide) h) (by decide)
 have h2 : 1 ≤ 2 ^ n := Nat.one_le_two_pow
 have e : ((2 ^ n : Nat) : Int) = (2 : Int) ^ n := by rw [Int.natCast_pow]; rfl
 rw [← e]
 omega
set_option maxRecDepth 100000 in
theorem fits_any (f : Fd) (A : Option Addr) (n : Nat) (hn : f.size = n) (h1 : 1 ≤ n) (h2 : n ≤ 32) (hlo : -2147483648 ≤ f.lo ∧ f.lo ≤ 2147483647) (hhi : -2147483648 ≤ f.hi ∧ f.hi ≤ 2147483647) (w : World) :
  Calls Try.prog 77 #[.agg (f.cells A).toArray] w fun e w' => e = .returned (.bool (fitsS f.lo f.hi n)) ∧ Kept w w' := by
 obtain ⟨p0, p1⟩ := two_pow n h2
 obtain ⟨q0, q1⟩ := two_pow (n - 1) (by omega)
 have e1 : ((n : Int) - 1).toNat = n - 1 := by omega
 have hn0 : (0 : Int) ≤ (n : Int) := by omega
 have hn1 : (0 : Int) ≤ (n : Int) - 1 := by omega
 have w1 : IntKind.i64.wrap (2 ^ n) = 2 ^ n := by rw [IntKind.wrap_i64]; omega
 have w2 : IntKind.i64.wrap (2 ^ n - 1) = 2 ^ n - 1 := by rw [IntKind.wrap_i64]; omega
 have w3 : IntKind.i64.wrap (2 ^ (n - 1)) = 2 ^ (n - 1) := by rw [IntKind.wrap_i64]; omega
 have w4 : IntKind.i64.wrap (2 ^ (n - 1) - 1) = 2 ^ (n - 1) - 1 := by rw [IntKind.wrap_i64]; omega
 have w5 : IntKind.i64.wrap (-2 ^ (n - 1)) = -2 ^ (n - 1) := by rw [IntKind.wrap_i64]; omega
 have w6 : IntKind.i64.wrap (-1 * 2 ^ (n - 1)) = -2 ^ (n - 1) := by rw [IntKind.wrap_i64]; omega
 unfold Fd.cells
 rw [hn]
 by_cases c : f.lo < 0
 ·have hF : fitsS f.lo f.hi n = (decide (f.lo ≤ f.hi) && decide (-2 ^ (n - 1) ≤ f.lo) && decide (f.hi ≤ 2 ^ (n - 1) - 1)) := by unfold fitsS; rw [if_pos c]
  rw [hF]
  clear hF
  by_cases ca : f.lo ≤ f.hi
  ·by_cases cb : -2 ^ (n - 1) ≤ f.lo
   ·by_cases cc : f.hi ≤ 2 ^ (n - 1) - 1
    ·have e : (decide (f.lo ≤ f.hi) && decide (-2 ^ (n - 1) ≤ f.lo) && decide (f.hi ≤ 2 ^ (n - 1) - 1)) = true := by simp [ca, cb, cc]
     rw [e]
     go_enter Try.func77, Try.ntmps77
     go_upto_region 1 with (fail)
     go_quiet (fail)
     go_upto_region 3 with (fail)
     go_quiet (fail)
     go_wp2_with fail
     go_ret
     exact ⟨rfl, below_drewN (by go_grown) _⟩
    ·have e : (decide (f.lo ≤ f.hi) && decide (-2 ^ (n - 1) ≤ f.lo) && decide (f.hi ≤ 2 ^ (n - 1) - 1)) = false := by simp [cc]
     rw [e]
     go_enter Try.func77, Try.ntmps77
     go_upto_region 1 with (fail)
     go_quiet (fail)
     go_upto_region 3 with (fail)
     go_quiet (fail)
     go_wp2_with fail
     go_ret
     exact ⟨rfl, below_drewN (by go_grown) _⟩
   ·have e : (decide (f.lo ≤ f.hi) && decide (-2 ^ (n - 1) ≤ f.lo) && decide (f.hi ≤ 2 ^ (n - 1) - 1)) = false := by simp [cb]
    rw [e]
    go_enter Try.func77, Try.ntmps77
    go_upto_region 1 with (fail)
    go_quiet (fail)
    go_upto_region 3 with (fail)
    go_quiet (fail)
    go_wp2_with fail
    go_ret
    exact ⟨rfl, below_drewN (by go_grown) _⟩
  ·have e : (decide (f.lo ≤ f.hi) && decide (-2 ^ (n - 1) ≤ f.lo) && decide (f.hi ≤ 2 ^ (n - 1) - 1)) = false := by simp [ca]
   rw [e]
   go_enter Try.func77, Try.ntmps77
   go_upto_region 1 with (fail)
   go_quiet (fail)
   go_upto_region 3 with (fail)
   go_quiet (fail)
   go_wp2_with fail
   go_ret
   exact ⟨rfl, below_drewN (by go_grown) _⟩
 ·have hF : fitsS f.lo f.hi n = (decide (f.lo ≤ f.hi) && decide (0 ≤ f.lo) && decide (f.hi ≤ 2 ^ n - 1)) := by unfold fitsS; rw [if_neg c]
  rw [hF]
  clear hF
  by_cases ca : f.lo ≤ f.hi
  ·by_cases cb : 0 ≤ f.lo
   ·by_cases cc : f.hi ≤ 2 ^ n - 1
    ·have e : (decide (f.lo ≤ f.hi) && decide (0 ≤ f.lo) && decide (f.hi ≤ 2 ^ n - 1)) = true := by simp [ca, cb, cc]
     rw [e]
     go_enter Try.func77, Try.ntmps77
     go_upto_region 1 with (fail)
     go_quiet (fail)
     go_wp2_with fail
     go_ret
     exact ⟨rfl, below_drewN (by go_grown) _⟩
    ·have e : (decide (f.lo ≤ f.hi) && decide (0 ≤ f.lo) && decide (f.hi ≤ 2 ^ n - 1)) = false := by simp [cc]
     rw [e]
     go_enter Try.func77, Try.ntmps77
     go_upto_region 1 with (fail)
     go_quiet (fail)
     go_wp2_with fail
     go_ret
     exact ⟨rfl, below_drewN (by go_grown) _⟩
   ·exact absurd (by omega) cb
  ·have e : (decide (f.lo ≤ f.hi) && decide (0 ≤ f.lo) && decide (f.hi ≤ 2 ^ n - 1)) = false := by simp [ca]
   rw [e]
   go_enter Try.func77, Try.ntmps77
   go_upto_region 1 with (fail)
   go_quiet (fail)
   go_wp2_with fail
   go_ret
   exact ⟨rfl, below_drewN (by go_grown) _⟩
set_option maxRecDepth 100000 in
theorem zero_any (f : Fd) (A : Option Addr) (w : World) : Calls Try.prog 30 #[.agg (f.cells A).toArray] w fun e w' => e = .returned (.bool (f.report == 0)) ∧ Kept w w' := by
 unfold Fd.cells
 go_enter Try.func30, Try.ntmps30
 go_wp2_with fail
 go_ret
 exact ⟨rfl, by go_grown⟩
theorem clip31 (A : Option Addr) (n c : Nat) (hn : n ≤ c) (hc : c ≤ maxLen) (w : World) : Calls Try.prog 31 #[.slice A n c] w fun e w' => e = .returned (.slice A n n) ∧ w = w' := by
 unfold maxLen at hc
 go_enter Try.func31, Try.ntmps31
 go_wp2
 go_ret
 exact ⟨rfl, rfl⟩
theorem clip32 (A : Option Addr) (n c : Nat) (hn : n ≤ c) (hc : c ≤ maxLen) (w : World) : Calls Try.prog 32 #[.slice A n c] w fun e w' => e = .returned (.slice A n n) ∧ w = w' := by
 unfold maxLen at hc
 go_enter Try.func32, Try.ntmps32
 go_wp2
 go_ret
 exact ⟨rfl, rfl⟩
set_option maxRecDepth 100000 in
theorem index56 (A : Option Addr) (n c : Nat) (l : List Fd) (w : World) (hn : n ≤ 256) (hl : Sl fdT w (low w.heap.size) A n l) :
  Calls Try.prog 56 #[.slice A n c, .func (.func 30) #[] #[]] w fun e w' => (∃ i : Int, e = .returned (.int .i64 i) ∧ decide (0 ≤ i) = l.any (fun f => f.report == 0)) ∧ Kept w w' := by
 go_enter Try.func56, Try.ntmps56
 go_wp2_with fail
 go_loopg [8] n (fun g s8 wr => ∃ i : Nat, i + g = n ∧ s8 = .int .i64 i ∧ Kept w wr ∧ ∀ j f, j < i → l[j]? = some f → (f.report == 0) = false)
 case atStart => exact ⟨0, by omega, rfl, Below.refl _ _, fun j f hj => by omega⟩
 case round =>
  obtain ⟨i, hi, rfl, hk, hno⟩ := hrel
  have Hno := hide hno
  have Hi := hide hi
  clear hno hi
  by_cases hlt : i < n
  ·obtain ⟨f, b, off, cs, hf, rfl, hbb, ⟨A', rfl, hul, _⟩, hcs⟩ := (hl.kept hk).at hlt
   have hcs' : ∀ (j : Nat) v, (f.cells A')[j]? = some v → wr.cell? ⟨b, off + i * 13 + j, none⟩ = some v := fun j v h => hcs j v h
   have x0 : wr.cell? ⟨b, off + i * 13, none⟩ = _ := hcs' 0 _ rfl
   have x1 := hcs' 1 _ rfl
   have x2 := hcs' 2 _ rfl
   have x3 := hcs' 3 _ rfl
   have x4 := hcs' 4 _ rfl
   have x5 := hcs' 5 _ rfl
   have x6 := hcs' 6 _ rfl
   have x7 := hcs' 7 _ rfl
   have x8 := hcs' 8 _ rfl
   have x9 := hcs' 9 _ rfl
   have x10 := hcs' 10 _ rfl
   have x11 := hcs' 11 _ rfl
   have x12 := hcs' 12 _ rfl
   have hbl : b < wr.heap.size := hbb
   have hz := fun w' => zero_any f A' w'
   unfold Fd.cells at hz
   have hi0 : (0 : Int) ≤ (i : Int) := by omega
   have hlt' : (i : Int) < (n : Int) := by omega
   have Hf := hide hf
   clear hcs hcs' hf
   by_cases hr : (f.report == 0) = true
   ·rw [hr] at hz
    go_wp2_with (go_at_call 30; refine (hz _).mono ?_; rintro e w1 ⟨rfl, hk1⟩)
    go_ret
    refine ⟨⟨i, rfl, ?_⟩, hk.trans' hk1⟩
    rw [show l.any (fun f => f.report == 0) = true from List.any_eq_true.2 ⟨f, List.mem_of_getElem? Hf.out, hr⟩]
    simp
   ·have hr' : (f.report == 0) = false := by simpa using hr
    rw [hr'] at hz
    go_wp2_with (go_at_call 30; refine (hz _).mono ?_; rintro e w1 ⟨rfl, hk1⟩)
    go_roundg (gk - 1)
    case measure => have := Hi.out; omega
    case rel =>
     refine ⟨i + 1, by have := Hi.out; omega, by go_num, hk.trans' hk1, fun j g hj hg => ?_⟩
     by_cases e : j = i
     ·subst e
      rw [Hf.out] at hg
      injection hg with hg
      subst hg
      exact hr'
     ·exact Hno.out j g (by omega) hg
  ·have hge : (n : Int) ≤ (i : Int) := by omega
   go_wp2_with fail
   go_ret
   refine ⟨⟨-1, rfl, ?_⟩, hk⟩
   have e : l.any (fun f => f.report == 0) = false := by
    rw [List.any_eq_false]
    intro f hf
    obtain ⟨j, hj, rfl⟩ := List.getElem_of_mem hf
    have hln := hl.1
    have hii := Hi.out
    simpa using Hno.out j l[j] (by omega) (List.getElem?_eq_getElem hj)
   rw [e]; rfl
set_option maxRecDepth 100000 in
theorem contains29 (A : Option Addr) (n c : Nat) (l : List Fd) (w : World) (hn : n ≤ 256) (hl : Sl fdT w (low w.heap.size) A n l) :
  Calls Try.prog 29 #[.slice A n c, .func (.func 30) #[] #[]] w fun e w' => e = .returned (.bool (l.any (fun f => f.report == 0))) ∧ Kept w w' := by
 have h56 := index56 A n c l w hn hl
 go_enter Try.func29, Try.ntmps29
 go_wp2_with (go_at_call 56; refine h56.mono ?_; rintro e w1 ⟨⟨i, rfl, hi⟩, hk⟩)
 go_ret
 exact ⟨rfl, hk⟩
end Go.Proofs.Ytegdigfcgeoboaa
namespace Go.Proofs.Ytegdigfcgeoboaa
open Go.RowKit Go.Maps
attribute [local go_sem ↓] Go.wp_at_zero Go.wp_at_succ
variable {u0 u1 u3 u4 u5 u7 u8 u9 gI kI gJ jY eG eH u16 eE eF dX dY dZ eA eB eC eD eI eJ eK eL eM eN u32 eO eP iN iO iP iQ iR fK iS iT iU iV iW iX gK gL gM gN gO gP gQ gR gS gT iY iZ jA jB jC jD jE u64 jF jG jH jJ jK jL jM jN jO jP jQ jR jZ kE kF kG kH jS jT jU jV jW jX kJ kK kM kN kO kP kQ kR kS kT kU kV aK aG aA aB aC aD aE aF aH aI aJ aL : Value}
noncomputable def codeE : Code := (Try.f14.body.bind (fromR 20)).getD .skip
noncomputable def opsE : Array Oper := opsOf (headC codeE)
theorem of_drew' {w w1 : World} {B : Nat} (h : Below B w w1) : Below B w w1.drew := ⟨h.os, h.tape, h.output, h.size, h.block⟩
theorem cell_five {W : World} {R D b o : Nat} {u1 u2 u3 u4 u5 : Value} (h2 : b ≠ R) (h3 : b ≠ D) : (((((W.setCell ⟨R, 12, none⟩ u1).setCell ⟨R, 13, none⟩ u2).setCell ⟨D, 0, none⟩ u3).setCell ⟨D, 1, none⟩ u4).setCell ⟨D, 2, none⟩ u5).drew.cell? ⟨b, o, none⟩ = W.cell? ⟨b, o, none⟩ := by
 have hR : ∀ (V : World) i u, (V.setCell ⟨R, i, none⟩ u).cell? ⟨b, o, none⟩ = V.cell? ⟨b, o, none⟩ := fun V i u => World.cell?_setCell_other _ _ _ _ (fun e => h2 (by have := congrArg Addr.block e; exact this.symm))
 have hD : ∀ (V : World) i u, (V.setCell ⟨D, i, none⟩ u).cell? ⟨b, o, none⟩ = V.cell? ⟨b, o, none⟩ := fun V i u => World.cell?_setCell_other _ _ _ _ (fun e => h3 (by have := congrArg Addr.block e; exact this.symm))
 rw [World.cell?_drew, hD, hD, hD, hR, hR]
def ParsePost (w : World) (E : Int) (s : RS) (e : Ending) (w' : World) : Prop := Kept w w' ∧
 ((E ≠ 0 ∧ e = .returned (.tuple #[.agg #[.slice none 0 0, .slice none 0 0, .bool false], .int .i64 E])) ∨
  (E = 0 ∧ ∃ Af Ac, e = .returned (.tuple #[.agg #[.slice Af s.fields.length s.fields.length, .slice Ac s.colls.length s.colls.length, .bool s.numbered], .int .i64 0]) ∧ Sl fdT w' (low w'.heap.size) Af s.fields.length s.fields ∧ Sl coT w' (low w'.heap.size) Ac s.colls.length s.colls))
theorem sl_ne {w : World} {F : Nat → Prop} {A : Option Addr} {n D : Nat} {l : List Int} {a b c : Value} (h : Sl u32T w F A n l) (hD : w.heap[D]? = some (.cells #[a, b, c] 40 (0, 0))) (ha : ∀ x, a ≠ .int .u32 x) (hb : ∀ x, b ≠ .int .u32 x) (hc : ∀ x, c ≠ .int .u32 x) : Sl u32T w (fun g => F g ∧ g ≠ D) A n l := by
 refine ⟨h.1, fun i x hx => ?_⟩
 obtain ⟨g, off, cs, e, hg, ⟨rfl, hok⟩, hcs⟩ := h.2 i x hx
 refine ⟨g, off, _, e, ⟨hg, fun e2 => ?_⟩, ⟨rfl, hok⟩, hcs⟩
 subst e2
 have h1 : w.cell? ⟨g, off + i * 1, none⟩ = some (.int .u32 x) := hcs 0 _ rfl
 rw [cell_of_row _ _ _ _ _ _ hD] at h1
 generalize off + i * 1 = j at h1
 rcases j with _ | _ | _ | j
 ·exact ha x (by simpa using h1)
 ·exact hb x (by simpa using h1)
 ·exact hc x (by simpa using h1)
 ·simp at h1
theorem fields_read {w w' : World} {base R m D : Nat} {vs vu vf vc : Value} {s : RS} {A : Option Addr} {c : Nat} (h : Rd w base R m vs vu vf vc s) (hv : vf = .slice A s.fields.length c) (hD : w.heap[D]? = some (.cells #[.slice none 0 0, .slice none 0 0, .bool false] 40 (0, 0))) (hDb : D < base)
  (hsz : w.heap.size ≤ w'.heap.size) (hc : ∀ b o, b < w.heap.size → b ≠ R → b ≠ D → w'.cell? ⟨b, o, none⟩ = w.cell? ⟨b, o, none⟩) : Sl fdT w' (low w'.heap.size) A s.fields.length s.fields := by
 subst hv
 have h1 : Sl (fdT.on (Busy R m vs vu (.slice A s.fields.length c) vc)) w (fun b => b < w.heap.size ∧ b ≠ R ∧ b ≠ D) A s.fields.length s.fields := h.fs.sl_of _ (fun g h1 h2 => ⟨h2, by have := h.low.1; omega, by omega⟩) (fun f cs hr => by
  obtain ⟨A', e, hl, hs⟩ := hr
  exact ⟨A', e, hl, (sl_ne hs hD (fun x e => by cases e) (fun x e => by cases e) (fun x e => by cases e)).keep (fun g hg => ⟨⟨hg.1.1.1, hg.1.2.1, hg.2⟩, hg.1.2⟩) (fun _ _ _ => rfl)⟩)
 refine ⟨h1.1, fun i x hx => ?_⟩
 obtain ⟨b, off, cs, e, hb, ⟨A', e1, hl, hs⟩, hcs⟩ := h1.2 i x hx
 exact ⟨b, off, cs, e, Nat.lt_of_lt_of_le hb.1 hsz, ⟨A', e1, hl, hs.keep (fun g hg => Nat.lt_of_lt_of_le hg.1.1 hsz) (fun g o hg => hc g o hg.1.1 hg.1.2.1 hg.1.2.2)⟩, fun j v hv => (hc b _ hb.1 hb.2.1 hb.2.2).trans (hcs j v hv)⟩
theorem colls_read {w w' : World} {base R m D : Nat} {vs vu vf vc : Value} {s : RS} {A : Option Addr} {c : Nat} (h : Rd w base R m vs vu vf vc s) (hv : vc = .slice A s.colls.length c) (hDb : D < base)
  (hsz : w.heap.size ≤ w'.heap.size) (hc : ∀ b o, b < w.heap.size → b ≠ R → b ≠ D → w'.cell? ⟨b, o, none⟩ = w.cell? ⟨b, o, none⟩) : Sl coT w' (low w'.heap.size) A s.colls.length s.colls := by
 subst hv
 have h1 : Sl coT w (fun b => b < w.heap.size ∧ b ≠ R ∧ b ≠ D) A s.colls.length s.colls := h.cs.sl_of _ (fun g h1 h2 => ⟨h2, by have := h.low.1; omega, by omega⟩) (fun f cs hr => hr)
 exact h1.keep (fun g hg => Nat.lt_of_lt_of_le hg.1 hsz) (fun g o hg => hc g o hg.1 hg.2.1 hg.2.2)
set_option maxRecDepth 1000000 in
theorem parse_end {w W : World} {base R m D : Nat} {vs vu vf vc : Value} {s : RS} (hr : Rd W base R m vs vu vf vc s) (hk : Kept w W) (hs : s.Fine) (hD : W.heap[D]? = some (.cells #[.slice none 0 0, .slice none 0 0, .bool false] 40 (0, 0))) (hDw : w.heap.size ≤ D) (hDR : D < R)
  (K0 : Act → World → Prop) (hK0 : ∀ a w', Code.wp Try.prog (restC codeE) (bodyPost Try.prog Try.f14 (ParsePost w 0 s)) a w' → K0 a w') :
  Code.wp Try.prog (headC codeE) (Exit.then K0 (bodyPost Try.prog Try.f14 (ParsePost w 0 s))) ⟨#[u0, u1, .pointer (some ⟨D, 0, none⟩), u3, u4, u5, .pointer (some ⟨R, 0, none⟩), u7, u8, u9, gI, kI, gJ, jY, eG, eH, u16, eE, eF, dX, dY, dZ, eA, eB, eC, eD, eI, eJ, eK, eL, eM, eN, u32, eO, eP, iN, iO, iP, iQ, iR, fK, iS, iT, iU, iV, iW, iX, gK, gL, gM, gN, gO, gP, gQ, gR, gS, gT, iY, iZ, jA, jB, jC, jD, jE, u64, jF, jG, jH, jJ, jK, jL, jM, jN, jO, jP, jQ, jR, jZ, kE, kF, kG, kH, jS, jT, jU, jV, jW, jX, kJ, kK, kM, kN, kO, kP, kQ, kR, kS, kT, kU, kV, aK, aG, aA, aB, aC, aD, aE, aF, aH, aI, aJ, aL], []⟩ W := by
 conv at hK0 => enter [a, w', 1, 2]; whnf
 obtain ⟨Af, cf, rfl, hf1, hf2⟩ := hr.fs.isSlice
 obtain ⟨Ac, cc, rfl, hc1, hc2⟩ := hr.cs.isSlice
 have hRl := heap_lt hr.box
 have hDl := heap_lt hD
 have hlow := hr.low
 have hRb := hlow.1
 have e12 : W.cell? ⟨R, 12, none⟩ = some (.slice Af s.fields.length cf) := cell_heap hr.box (o := 12) rfl
 have e13 : W.cell? ⟨R, 13, none⟩ = some (.slice Ac s.colls.length cc) := cell_heap hr.box (o := 13) rfl
 have e14 : W.cell? ⟨R, 14, none⟩ = some (.bool s.numbered) := cell_heap hr.box (o := 14) rfl
 have f12 := frozen_heap hr.box (o := 12)
 have f13 := frozen_heap hr.box (o := 13)
 have d0 : W.cell? ⟨D, 0, none⟩ = some (.slice none 0 0) := cell_heap hD (o := 0) rfl
 have d1 : W.cell? ⟨D, 1, none⟩ = some (.slice none 0 0) := cell_heap hD (o := 1) rfl
 have d2 : W.cell? ⟨D, 2, none⟩ = some (.bool false) := cell_heap hD (o := 2) rfl
 have q0 := frozen_heap hD (o := 0)
 have q1 := frozen_heap hD (o := 1)
 have q2 := frozen_heap hD (o := 2)
 have hne : ¬ D = R := by omega
 have hne2 : ¬ R = D := by omega
 have Hr := hide hr
 have Hs := hide hs
 have Hf2 := hide hf2
 have Hc2 := hide hc2
 have Hlow := hide hlow
 clear hr hs hlow hf2 hc2
 refine wp_region_held_named (ops' := opsE) (n := 22) (S := fun w' => True ∧ True) (by kernel_rfl) (by kernel_rfl) (by kernel_rfl) ⟨trivial, trivial⟩ (fun hS => ?_)
 have ho := opE opsE 0 (by kernel_rfl)
 conv at ho => rhs; arg 1; whnf
 refine tk0 (v := ?_) ho (by kernel_rfl) hS ?_ ?_ <;> clear ho
 rotate_left
 ·intro w' hq hq2; first | (go_simp; done) | (go_simp; with_reducible rfl)
 try simp only [Act.put, zp1, zp2, zp3, zp4, zp5, zp6]
 have ho := opE opsE 1 (by kernel_rfl)
 conv at ho => rhs; arg 1; whnf
 refine tk0 (v := ?_) ho (by kernel_rfl) hS ?_ ?_ <;> clear ho
 rotate_left
 ·intro w' hq hq2; first | (go_simp; done) | (go_simp; with_reducible rfl)
 try simp only [Act.put, zp1, zp2, zp3, zp4, zp5, zp6]
 have ho := opE opsE 2 (by kernel_rfl)
 conv at ho => rhs; arg 1; whnf
 refine tk0 (v := ?_) ho (by kernel_rfl) hS ?_ ?_ <;> clear ho
 rotate_left
 ·intro w' hq hq2; first | (go_simp; done) | (go_simp; with_reducible rfl)
 try simp only [Act.put, zp1, zp2, zp3, zp4, zp5, zp6]
 have ho := opE opsE 3 (by kernel_rfl)
 conv at ho => rhs; arg 1; whnf
 refine tk0 (v := ?_) ho (by kernel_rfl) hS ?_ ?_ <;> clear ho
 rotate_left
 ·intro w' hq hq2; first | (go_simp; done) | (go_simp; with_reducible rfl)
 try simp only [Act.put, zp1, zp2, zp3, zp4, zp5, zp6]
 have ho := opE opsE 4 (by kernel_rfl)
 conv at ho => rhs; arg 1; whnf
 refine tk0 (v := ?_) ho (by kernel_rfl) hS ?_ ?_ <;> clear ho
 rotate_left
 ·intro w' hq hq2; first | (go_simp; done) | (go_simp; with_reducible rfl)
 try simp only [Act.put, zp1, zp2, zp3, zp4, zp5, zp6]
 have ho := opE opsE 5 (by kernel_rfl)
 conv at ho => rhs; arg 1; whnf
 refine tk0 (v := ?_) ho (by kernel_rfl) hS ?_ ?_ <;> clear ho
 rotate_left
 ·intro w' hq hq2; first | (go_simp; done) | (go_simp; with_reducible rfl)
 try simp only [Act.put, zp1, zp2, zp3, zp4, zp5, zp6]
 have ho := opE opsE 8 (by kernel_rfl)
 conv at ho => rhs; arg 1; whnf
 refine tk0 (v := ?_) ho (by kernel_rfl) hS ?_ ?_ <;> clear ho
 rotate_left
 ·intro w' hq hq2; first | (go_simp; done) | (go_simp; with_reducible rfl)
 try simp only [Act.put, zp1, zp2, zp3, zp4, zp5, zp6]
 have ho := opE opsE 9 (by kernel_rfl)
 conv at ho => rhs; arg 1; whnf
 refine tk0 (v := ?_) ho (by kernel_rfl) hS ?_ ?_ <;> clear ho
 rotate_left
 ·intro w' hq hq2; first | (go_simp; done) | (go_simp; with_reducible rfl)
 try simp only [Act.put, zp1, zp2, zp3, zp4, zp5, zp6]
 have ho := opE opsE 10 (by kernel_rfl)
 conv at ho => rhs; arg 1; whnf
 refine tk0 (v := ?_) ho (by kernel_rfl) hS ?_ ?_ <;> clear ho
 rotate_left
 ·intro w' hq hq2; first | (go_simp; done) | (go_simp; with_reducible rfl)
 try simp only [Act.put, zp1, zp2, zp3, zp4, zp5, zp6]
 have ho := opE opsE 11 (by kernel_rfl)
 conv at ho => rhs; arg 1; whnf
 refine tk0 (v := ?_) ho (by kernel_rfl) hS ?_ ?_ <;> clear ho
 rotate_left
 ·intro w' hq hq2; first | (go_simp; done) | (go_simp; with_reducible rfl)
 try simp only [Act.put, zp1, zp2, zp3, zp4, zp5, zp6]
 have ho6 := opE opsE 6 (by kernel_rfl)
 conv at ho6 => rhs; arg 1; whnf
 have ho12 := opE opsE 12 (by kernel_rfl)
 conv at ho12 => rhs; arg 1; whnf
 refine wpAnyH_ready (rs := [6, 12]) (by kernel_rfl) (by simp) ?_
 refine (AllReadyH.cons ho6 (fun K hK => ?_) (AllReadyH.cons ho12 (fun K hK => ?_) AllReadyH.nil))
 all_goals clear ho6 ho12
 ·go_simp
  try dsimp only
  refine hK.out _ _ ?_ (fun hS => ?_)
  ·exact hS
  clear hK K
  try simp only [Act.put, zp1, zp2, zp3, zp4, zp5, zp6]
  have ho7 := opE opsE 7 (by kernel_rfl)
  conv at ho7 => rhs; arg 1; whnf
  have ho12 := opE opsE 12 (by kernel_rfl)
  conv at ho12 => rhs; arg 1; whnf
  refine wpAnyH_ready (rs := [7, 12]) (by kernel_rfl) (by simp) ?_
  refine (AllReadyH.cons ho7 (fun K hK => ?_) (AllReadyH.cons ho12 (fun K hK => ?_) AllReadyH.nil))
  all_goals clear ho7 ho12
  ·go_simp
   go_at_call 31
   refine (clip31 _ _ _ hf1 Hf2.out _).mono ?_
   rintro e w9 ⟨rfl, rfl⟩
   try dsimp only
   refine hK.out _ _ ?_ (fun hS => ?_)
   ·exact hS
   clear hK K
   try simp only [Act.put, zp1, zp2, zp3, zp4, zp5, zp6]
   have ho12 := opE opsE 12 (by kernel_rfl)
   conv at ho12 => rhs; arg 1; whnf
   refine wpAnyH_ready (rs := [12]) (by kernel_rfl) (by simp) ?_
   refine (AllReadyH.cons ho12 (fun K hK => ?_) AllReadyH.nil)
   all_goals clear ho12
   go_simp
   try dsimp only
   refine hK.out _ _ ?_ (fun hS => ?_)
   ·exact hS
   clear hK K
   try simp only [Act.put, zp1, zp2, zp3, zp4, zp5, zp6]
   have ho13 := opE opsE 13 (by kernel_rfl)
   conv at ho13 => rhs; arg 1; whnf
   refine wpAnyH_ready (rs := [13]) (by kernel_rfl) (by simp) ?_
   refine (AllReadyH.cons ho13 (fun K hK => ?_) AllReadyH.nil)
   all_goals clear ho13
   go_simp
   go_at_call 32
   refine (clip32 _ _ _ hc1 Hc2.out _).mono ?_
   rintro e w9 ⟨rfl, rfl⟩
   try dsimp only
   refine hK.out _ _ ?_ (fun hS => ?_)
   ·exact hS
   clear hK K
   try simp only [Act.put, zp1, zp2, zp3, zp4, zp5, zp6]
   have ho := opE opsE 14 (by kernel_rfl)
   conv at ho => rhs; arg 1; whnf
   refine tk0 (v := ?_) ho (by kernel_rfl) hS ?_ ?_ <;> clear ho
   rotate_left
   ·intro w' hq hq2; first | (go_simp; done) | (go_simp; with_reducible rfl)
   try simp only [Act.put, zp1, zp2, zp3, zp4, zp5, zp6]
   have ho := opE opsE 15 (by kernel_rfl)
   conv at ho => rhs; arg 1; whnf
   refine tk0 (v := ?_) ho (by kernel_rfl) hS ?_ ?_ <;> clear ho
   rotate_left
   ·intro w' hq hq2; first | (go_simp; done) | (go_simp; with_reducible rfl)
   try simp only [Act.put, zp1, zp2, zp3, zp4, zp5, zp6]
   have ho := opE opsE 16 (by kernel_rfl)
   conv at ho => rhs; arg 1; whnf
   refine tk0 (v := ?_) ho (by kernel_rfl) hS ?_ ?_ <;> clear ho
   rotate_left
   ·intro w' hq hq2; first | (go_simp; done) | (go_simp; with_reducible rfl)
   try simp only [Act.put, zp1, zp2, zp3, zp4, zp5, zp6]
   have ho17 := opE opsE 17 (by kernel_rfl)
   conv at ho17 => rhs; arg 1; whnf
   refine wpAnyH_ready (rs := [17]) (by kernel_rfl) (by simp) ?_
   refine (AllReadyH.cons ho17 (fun K hK => ?_) AllReadyH.nil)
   all_goals clear ho17
   go_simp
   try dsimp only
   refine hK.out _ _ ?_ (fun hS => ?_)
   ·exact hS
   clear hK K
   try simp only [Act.put, zp1, zp2, zp3, zp4, zp5, zp6]
   have ho := opE opsE 18 (by kernel_rfl)
   conv at ho => rhs; arg 1; whnf
   refine tk0 (v := ?_) ho (by kernel_rfl) hS ?_ ?_ <;> clear ho
   rotate_left
   ·intro w' hq hq2; first | (go_simp; done) | (go_simp; with_reducible rfl)
   try simp only [Act.put, zp1, zp2, zp3, zp4, zp5, zp6]
   have ho := opE opsE 19 (by kernel_rfl)
   conv at ho => rhs; arg 1; whnf
   refine tk0 (v := ?_) ho (by kernel_rfl) hS ?_ ?_ <;> clear ho
   rotate_left
   ·intro w' hq hq2; first | (go_simp; done) | (go_simp; with_reducible rfl)
   try simp only [Act.put, zp1, zp2, zp3, zp4, zp5, zp6]
   have ho := opE opsE 20 (by kernel_rfl)
   conv at ho => rhs; arg 1; whnf
   refine tk0 (v := ?_) ho (by kernel_rfl) hS ?_ ?_ <;> clear ho
   rotate_left
   ·intro w' hq hq2; first | (go_simp; done) | (go_simp; with_reducible rfl)
   try simp only [Act.put, zp1, zp2, zp3, zp4, zp5, zp6]
   have ho21 := opE opsE 21 (by kernel_rfl)
   conv at ho21 => rhs; arg 1; whnf
   refine wpAnyH_ready (rs := [21]) (by kernel_rfl) (by simp) ?_
   refine (AllReadyH.cons ho21 (fun K hK => ?_) AllReadyH.nil)
   all_goals clear ho21
   go_simp
   try dsimp only
   refine hK.out _ _ ?_ (fun hS => ?_)
   ·exact hS
   clear hK K
   try simp only [Act.put, zp1, zp2, zp3, zp4, zp5, zp6]
   refine wpAnyH_done (by kernel_rfl) ?_ _
   refine hK0 _ _ ?_
   clear hK0 hS
   go_wp2_with fail
   refine bodyPost_ret (v := .tuple #[.agg #[.slice Af s.fields.length s.fields.length, .slice Ac s.colls.length s.colls.length, .bool s.numbered], .int .i64 0]) (by simp [results, Try.results14, go_sem, *]) rfl ?_
   refine ⟨of_drew' (((((hk.setCell (p := ⟨R, 12, none⟩) (Nat.le_of_lt (Nat.lt_of_le_of_lt hDw hDR)) _).setCell (p := ⟨R, 13, none⟩) (Nat.le_of_lt (Nat.lt_of_le_of_lt hDw hDR)) _).setCell (p := ⟨D, 0, none⟩) hDw _).setCell (p := ⟨D, 1, none⟩) hDw _).setCell (p := ⟨D, 2, none⟩) hDw _), .inr ⟨rfl, Af, Ac, rfl, ?_, ?_⟩⟩
   ·exact fields_read Hr.out rfl hD (by omega) (by simp) (fun b o _ h2 h3 => cell_five h2 h3)
   ·exact colls_read Hr.out rfl (D := D) (by omega) (by simp) (fun b o _ h2 h3 => cell_five h2 h3)
  ·go_simp
   try dsimp only
   refine hK.out _ _ ?_ (fun hS => ?_)
   ·exact hS
   clear hK K
   try simp only [Act.put, zp1, zp2, zp3, zp4, zp5, zp6]
   have ho7 := opE opsE 7 (by kernel_rfl)
   conv at ho7 => rhs; arg 1; whnf
   refine wpAnyH_ready (rs := [7]) (by kernel_rfl) (by simp) ?_
   refine (AllReadyH.cons ho7 (fun K hK => ?_) AllReadyH.nil)
   all_goals clear ho7
   go_simp
   go_at_call 31
   refine (clip31 _ _ _ hf1 Hf2.out _).mono ?_
   rintro e w9 ⟨rfl, rfl⟩
   try dsimp only
   refine hK.out _ _ ?_ (fun hS => ?_)
   ·exact hS
   clear hK K
   try simp only [Act.put, zp1, zp2, zp3, zp4, zp5, zp6]
   have ho13 := opE opsE 13 (by kernel_rfl)
   conv at ho13 => rhs; arg 1; whnf
   refine wpAnyH_ready (rs := [13]) (by kernel_rfl) (by simp) ?_
   refine (AllReadyH.cons ho13 (fun K hK => ?_) AllReadyH.nil)
   all_goals clear ho13
   go_simp
   go_at_call 32
   refine (clip32 _ _ _ hc1 Hc2.out _).mono ?_
   rintro e w9 ⟨rfl, rfl⟩
   try dsimp only
   refine hK.out _ _ ?_ (fun hS => ?_)
   ·exact hS
   clear hK K
   try simp only [Act.put, zp1, zp2, zp3, zp4, zp5, zp6]
   have ho := opE opsE 14 (by kernel_rfl)
   conv at ho => rhs; arg 1; whnf
   refine tk0 (v := ?_) ho (by kernel_rfl) hS ?_ ?_ <;> clear ho
   rotate_left
   ·intro w' hq hq2; first | (go_simp; done) | (go_simp; with_reducible rfl)
   try simp only [Act.put, zp1, zp2, zp3, zp4, zp5, zp6]
   have ho := opE opsE 15 (by kernel_rfl)
   conv at ho => rhs; arg 1; whnf
   refine tk0 (v := ?_) ho (by kernel_rfl) hS ?_ ?_ <;> clear ho
   rotate_left
   ·intro w' hq hq2; first | (go_simp; done) | (go_simp; with_reducible rfl)
   try simp only [Act.put, zp1, zp2, zp3, zp4, zp5, zp6]
   have ho := opE opsE 16 (by kernel_rfl)
   conv at ho => rhs; arg 1; whnf
   refine tk0 (v := ?_) ho (by kernel_rfl) hS ?_ ?_ <;> clear ho
   rotate_left
   ·intro w' hq hq2; first | (go_simp; done) | (go_simp; with_reducible rfl)
   try simp only [Act.put, zp1, zp2, zp3, zp4, zp5, zp6]
   have ho17 := opE opsE 17 (by kernel_rfl)
   conv at ho17 => rhs; arg 1; whnf
   refine wpAnyH_ready (rs := [17]) (by kernel_rfl) (by simp) ?_
   refine (AllReadyH.cons ho17 (fun K hK => ?_) AllReadyH.nil)
   all_goals clear ho17
   go_simp
   try dsimp only
   refine hK.out _ _ ?_ (fun hS => ?_)
   ·exact hS
   clear hK K
   try simp only [Act.put, zp1, zp2, zp3, zp4, zp5, zp6]
   have ho := opE opsE 18 (by kernel_rfl)
   conv at ho => rhs; arg 1; whnf
   refine tk0 (v := ?_) ho (by kernel_rfl) hS ?_ ?_ <;> clear ho
   rotate_left
   ·intro w' hq hq2; first | (go_simp; done) | (go_simp; with_reducible rfl)
   try simp only [Act.put, zp1, zp2, zp3, zp4, zp5, zp6]
   have ho := opE opsE 19 (by kernel_rfl)
   conv at ho => rhs; arg 1; whnf
   refine tk0 (v := ?_) ho (by kernel_rfl) hS ?_ ?_ <;> clear ho
   rotate_left
   ·intro w' hq hq2; first | (go_simp; done) | (go_simp; with_reducible rfl)
   try simp only [Act.put, zp1, zp2, zp3, zp4, zp5, zp6]
   have ho := opE opsE 20 (by kernel_rfl)
   conv at ho => rhs; arg 1; whnf
   refine tk0 (v := ?_) ho (by kernel_rfl) hS ?_ ?_ <;> clear ho
   rotate_left
   ·intro w' hq hq2; first | (go_simp; done) | (go_simp; with_reducible rfl)
   try simp only [Act.put, zp1, zp2, zp3, zp4, zp5, zp6]
   have ho21 := opE opsE 21 (by kernel_rfl)
   conv at ho21 => rhs; arg 1; whnf
   refine wpAnyH_ready (rs := [21]) (by kernel_rfl) (by simp) ?_
   refine (AllReadyH.cons ho21 (fun K hK => ?_) AllReadyH.nil)
   all_goals clear ho21
   go_simp
   try dsimp only
   refine hK.out _ _ ?_ (fun hS => ?_)
   ·exact hS
   clear hK K
   try simp only [Act.put, zp1, zp2, zp3, zp4, zp5, zp6]
   refine wpAnyH_done (by kernel_rfl) ?_ _
   refine hK0 _ _ ?_
   clear hK0 hS
   go_wp2_with fail
   refine bodyPost_ret (v := .tuple #[.agg #[.slice Af s.fields.length s.fields.length, .slice Ac s.colls.length s.colls.length, .bool s.numbered], .int .i64 0]) (by simp [results, Try.results14, go_sem, *]) rfl ?_
   refine ⟨of_drew' (((((hk.setCell (p := ⟨R, 12, none⟩) (Nat.le_of_lt (Nat.lt_of_le_of_lt hDw hDR)) _).setCell (p := ⟨R, 13, none⟩) (Nat.le_of_lt (Nat.lt_of_le_of_lt hDw hDR)) _).setCell (p := ⟨D, 0, none⟩) hDw _).setCell (p := ⟨D, 1, none⟩) hDw _).setCell (p := ⟨D, 2, none⟩) hDw _), .inr ⟨rfl, Af, Ac, rfl, ?_, ?_⟩⟩
   ·exact fields_read Hr.out rfl hD (by omega) (by simp) (fun b o _ h2 h3 => cell_five h2 h3)
   ·exact colls_read Hr.out rfl (D := D) (by omega) (by simp) (fun b o _ h2 h3 => cell_five h2 h3)
 ·go_simp
  try dsimp only
  refine hK.out _ _ ?_ (fun hS => ?_)
  ·exact hS
  clear hK K
  try simp only [Act.put, zp1, zp2, zp3, zp4, zp5, zp6]
  have ho6 := opE opsE 6 (by kernel_rfl)
  conv at ho6 => rhs; arg 1; whnf
  refine wpAnyH_ready (rs := [6]) (by kernel_rfl) (by simp) ?_
  refine (AllReadyH.cons ho6 (fun K hK => ?_) AllReadyH.nil)
  all_goals clear ho6
  go_simp
  try dsimp only
  refine hK.out _ _ ?_ (fun hS => ?_)
  ·exact hS
  clear hK K
  try simp only [Act.put, zp1, zp2, zp3, zp4, zp5, zp6]
  have ho7 := opE opsE 7 (by kernel_rfl)
  conv at ho7 => rhs; arg 1; whnf
  refine wpAnyH_ready (rs := [7]) (by kernel_rfl) (by simp) ?_
  refine (AllReadyH.cons ho7 (fun K hK => ?_) AllReadyH.nil)
  all_goals clear ho7
  go_simp
  go_at_call 31
  refine (clip31 _ _ _ hf1 Hf2.out _).mono ?_
  rintro e w9 ⟨rfl, rfl⟩
  try dsimp only
  refine hK.out _ _ ?_ (fun hS => ?_)
  ·exact hS
  clear hK K
  try simp only [Act.put, zp1, zp2, zp3, zp4, zp5, zp6]
  have ho13 := opE opsE 13 (by kernel_rfl)
  conv at ho13 => rhs; arg 1; whnf
  refine wpAnyH_ready (rs := [13]) (by kernel_rfl) (by simp) ?_
  refine (AllReadyH.cons ho13 (fun K hK => ?_) AllReadyH.nil)
  all_goals clear ho13
  go_simp
  go_at_call 32
  refine (clip32 _ _ _ hc1 Hc2.out _).mono ?_
  rintro e w9 ⟨rfl, rfl⟩
  try dsimp only
  refine hK.out _ _ ?_ (fun hS => ?_)
  ·exact hS
  clear hK K
  try simp only [Act.put, zp1, zp2, zp3, zp4, zp5, zp6]
  have ho := opE opsE 14 (by kernel_rfl)
  conv at ho => rhs; arg 1; whnf
  refine tk0 (v := ?_) ho (by kernel_rfl) hS ?_ ?_ <;> clear ho
  rotate_left
  ·intro w' hq hq2; first | (go_simp; done) | (go_simp; with_reducible rfl)
  try simp only [Act.put, zp1, zp2, zp3, zp4, zp5, zp6]
  have ho := opE opsE 15 (by kernel_rfl)
  conv at ho => rhs; arg 1; whnf
  refine tk0 (v := ?_) ho (by kernel_rfl) hS ?_ ?_ <;> clear ho
  rotate_left
  ·intro w' hq hq2; first | (go_simp; done) | (go_simp; with_reducible rfl)
  try simp only [Act.put, zp1, zp2, zp3, zp4, zp5, zp6]
  have ho := opE opsE 16 (by kernel_rfl)
  conv at ho => rhs; arg 1; whnf
  refine tk0 (v := ?_) ho (by kernel_rfl) hS ?_ ?_ <;> clear ho
  rotate_left
  ·intro w' hq hq2; first | (go_simp; done) | (go_simp; with_reducible rfl)
  try simp only [Act.put, zp1, zp2, zp3, zp4, zp5, zp6]
  have ho17 := opE opsE 17 (by kernel_rfl)
  conv at ho17 => rhs; arg 1; whnf
  refine wpAnyH_ready (rs := [17]) (by kernel_rfl) (by simp) ?_
  refine (AllReadyH.cons ho17 (fun K hK => ?_) AllReadyH.nil)
  all_goals clear ho17
  go_simp
  try dsimp only
  refine hK.out _ _ ?_ (fun hS => ?_)
  ·exact hS
  clear hK K
  try simp only [Act.put, zp1, zp2, zp3, zp4, zp5, zp6]
  have ho := opE opsE 18 (by kernel_rfl)
  conv at ho => rhs; arg 1; whnf
  refine tk0 (v := ?_) ho (by kernel_rfl) hS ?_ ?_ <;> clear ho
  rotate_left
  ·intro w' hq hq2; first | (go_simp; done) | (go_simp; with_reducible rfl)
  try simp only [Act.put, zp1, zp2, zp3, zp4, zp5, zp6]
  have ho := opE opsE 19 (by kernel_rfl)
  conv at ho => rhs; arg 1; whnf
  refine tk0 (v := ?_) ho (by kernel_rfl) hS ?_ ?_ <;> clear ho
  rotate_left
  ·intro w' hq hq2; first | (go_simp; done) | (go_simp; with_reducible rfl)
  try simp only [Act.put, zp1, zp2, zp3, zp4, zp5, zp6]
  have ho := opE opsE 20 (by kernel_rfl)
  conv at ho => rhs; arg 1; whnf
  refine tk0 (v := ?_) ho (by kernel_rfl) hS ?_ ?_ <;> clear ho
  rotate_left
  ·intro w' hq hq2; first | (go_simp; done) | (go_simp; with_reducible rfl)
  try simp only [Act.put, zp1, zp2, zp3, zp4, zp5, zp6]
  have ho21 := opE opsE 21 (by kernel_rfl)
  conv at ho21 => rhs; arg 1; whnf
  refine wpAnyH_ready (rs := [21]) (by kernel_rfl) (by simp) ?_
  refine (AllReadyH.cons ho21 (fun K hK => ?_) AllReadyH.nil)
  all_goals clear ho21
  go_simp
  try dsimp only
  refine hK.out _ _ ?_ (fun hS => ?_)
  ·exact hS
  clear hK K
  try simp only [Act.put, zp1, zp2, zp3, zp4, zp5, zp6]
  refine wpAnyH_done (by kernel_rfl) ?_ _
  refine hK0 _ _ ?_
  clear hK0 hS
  go_wp2_with fail
  refine bodyPost_ret (v := .tuple #[.agg #[.slice Af s.fields.length s.fields.length, .slice Ac s.colls.length s.colls.length, .bool s.numbered], .int .i64 0]) (by simp [results, Try.results14, go_sem, *]) rfl ?_
  refine ⟨of_drew' (((((hk.setCell (p := ⟨R, 12, none⟩) (Nat.le_of_lt (Nat.lt_of_le_of_lt hDw hDR)) _).setCell (p := ⟨R, 13, none⟩) (Nat.le_of_lt (Nat.lt_of_le_of_lt hDw hDR)) _).setCell (p := ⟨D, 0, none⟩) hDw _).setCell (p := ⟨D, 1, none⟩) hDw _).setCell (p := ⟨D, 2, none⟩) hDw _), .inr ⟨rfl, Af, Ac, rfl, ?_, ?_⟩⟩
  ·exact fields_read Hr.out rfl hD (by omega) (by simp) (fun b o _ h2 h3 => cell_five h2 h3)
  ·exact colls_read Hr.out rfl (D := D) (by omega) (by simp) (fun b o _ h2 h3 => cell_five h2 h3)
theorem info68 : (Try.prog.info? 68).map (fun i => (i.zero, i.size, i.bytes)) = some (some (.agg #[.int .u8 0, .int .u32 0, .int .i64 0]), 3, 16) := by kernel_rfl
set_option maxRecDepth 100000 in
theorem begin_any {w : World} {base R m : Nat} {vs vu vf vc : Value} {s : RS} (h : Rd w base R m vs vu vf vc s) (hb : base ≤ w.heap.size) (hs : s.Fine) (x : It) (hw : x.wide = true) (hok : x.ok) (h1 : x.ty = 0) (h2 : x.tg = 10) :
  Calls Try.prog 41 #[.pointer (some ⟨R, 0, none⟩), itV x] w (Did base R m w (effS s x)) := by
 obtain ⟨d0, d1, _⟩ := data_lt hw hok
 have hE : effS s x = if 64 ≤ s.colls.length then (3, s) else (0, { s with opn := s.colls.length, colls := s.colls ++ [⟨x.data % 256, s.usages.headD 0, s.opn⟩] }) := by simp [effS, h1, h2]
 rw [hE]
 clear hE
 have hW : IntKind.u8.wrap x.data = x.data % 256 := by rw [IntKind.wrap_u8]
 have hcl := hs.colls.1
 have hul := hs.usages.1
 have c7 : w.cell? ⟨R, 7, none⟩ = some vu := cell_heap h.box (o := 7) rfl
 have c10 : w.cell? ⟨R, 10, none⟩ = some (.int .i64 s.opn) := cell_heap h.box (o := 10) rfl
 have f10 := frozen_heap h.box (o := 10)
 have c13 : w.cell? ⟨R, 13, none⟩ = some vc := cell_heap h.box (o := 13) rfl
 have hRl := heap_lt h.box
 have hRb := h.low.1
 have hRl1 : R < w.heap.size + 1 := by omega
 have hRl2 : R < w.heap.size + 1 + 1 := by omega
 have hRl3 : R < w.heap.size + 2 := by omega
 obtain ⟨A, cc, rfl, hA1, hA2⟩ := h.cs.isSlice
 obtain ⟨U, cu, rfl, hU1, hU2⟩ := h.us.isSlice
 obtain ⟨i1, hi1, hz0, hz1, hz2⟩ := info_parts info68
 have k2 := h.set 10 (.int .i64 s.colls.length) (s' := { s with opn := s.colls.length }) rfl rfl rfl rfl rfl
 unfold itV
 by_cases c : 64 ≤ s.colls.length
 ·rw [if_pos c]
  have c' : (64 : Int) ≤ (s.colls.length : Int) := by omega
  go_enter Try.func41, Try.ntmps41
  go_wp2_with fail
  go_ret
  exact ⟨rfl, Fr.kept (by go_grown) hb, fun e => by cases e⟩
 ·rw [if_neg c]
  have c' : (s.colls.length : Int) < 64 := by omega
  by_cases hu0 : s.usages.length = 0
  ·have hhd : s.usages.headD 0 = 0 := by rw [List.eq_nil_of_length_eq_zero hu0]; rfl
   rw [hhd]
   have hui : (s.usages.length : Int) = 0 := by omega
   go_enter Try.func41, Try.ntmps41
   go_wp2_with fail
   go_region
   go_wp2_with fail
   go_region_law (first
    | (refine step_append_el (T := coT) rfl (.tmp 48) (.tmp 50) 38 rfl base 68 i1 _ 16 Try.underlying38 hi1 hz0 hz1 hz2 rfl (by decide) _ s.colls.length s.colls (by rfl) (((((k2.cs.alloc _).alloc _).drew).drew).alloc _) (w.heap.size + 1 + 1) _ _ ⟨x.data % 256, 0, s.opn⟩ (by rfl) (heap_at _ (by simp)) ⟨rfl, trivial⟩ (by simp [Value.oneCell']) (by unfold maxLen; omega) (by omega) (by simp; omega) ?_; intro g cap w4 hown4 hg4 hb4 hat4 hlt4; have hbx4 := (hb4.block R hRb).trans (heap_kept (show Kept (w.setCell ⟨R, 10, none⟩ (.int .i64 s.colls.length)) _ by go_grown) k2.box); have c6' := cell_heap hbx4 (o := 13) rfl; have f6' := frozen_heap hbx4 (o := 13); have hl4 := heap_lt hbx4))
   all_goals
    go_wp2_with fail
    go_ret
    have hkW := (show Kept (w.setCell ⟨R, 10, none⟩ (.int .i64 s.colls.length)) ((((w.setCell ⟨R, 10, none⟩ (.int .i64 s.colls.length)).alloc (.cells #[.int .u8 0, .int .u8 10, .int .i64 x.size, .int .u32 x.data] 29)).alloc (.cells #[.int .u8 (x.data % 256), .int .u32 0, .int .i64 s.opn] 68)).alloc (.cells #[.int .u8 (x.data % 256), .int .u32 0, .int .i64 s.opn] 68)).drew.drew by go_grown)
    exact ⟨rfl, (((Fr.set 10 _).trans (Fr.kept hkW (by rw [World.size_setCell]; exact hb))).trans (Fr.grow hb4 hg4 (((((k2.cs.alloc _).alloc _).drew).drew).alloc _) (by decide))).trans (Fr.set 13 _), fun _ => ⟨_, _, _, _, (k2.kept hkW).collsAdd hg4 hown4 hat4⟩⟩
  ·obtain ⟨u0, b, off, cs, hy, rfl, hbb, ⟨rfl, _⟩, hcs⟩ := h.us.sl.at (show 0 < s.usages.length by omega)
   have hhd : s.usages.headD 0 = u0 := by
    cases hl : s.usages with
    | nil => rw [hl] at hu0; exact absurd rfl hu0
    | cons a l => rw [hl] at hy; injection hy
   rw [hhd]
   have q0 : w.cell? ⟨b, off, none⟩ = some (.int .u32 u0) := by simpa using hcs 0 _ rfl
   have hui : 0 < (s.usages.length : Int) := by omega
   have hbl : b < w.heap.size := hbb
   go_enter Try.func41, Try.ntmps41
   go_wp2_with fail
   go_region
   go_wp2_with fail
   go_region_law (first
    | (refine step_append_el (T := coT) rfl (.tmp 48) (.tmp 50) 38 rfl base 68 i1 _ 16 Try.underlying38 hi1 hz0 hz1 hz2 rfl (by decide) _ s.colls.length s.colls (by rfl) (((((k2.cs.alloc _).alloc _).drew).drew).alloc _) (w.heap.size + 1 + 1) _ _ ⟨x.data % 256, u0, s.opn⟩ (by rfl) (heap_at _ (by simp)) ⟨rfl, trivial⟩ (by simp [Value.oneCell']) (by unfold maxLen; omega) (by omega) (by simp; omega) ?_; intro g cap w4 hown4 hg4 hb4 hat4 hlt4; have hbx4 := (hb4.block R hRb).trans (heap_kept (show Kept (w.setCell ⟨R, 10, none⟩ (.int .i64 s.colls.length)) _ by go_grown) k2.box); have c6' := cell_heap hbx4 (o := 13) rfl; have f6' := frozen_heap hbx4 (o := 13); have hl4 := heap_lt hbx4))
   all_goals
    go_wp2_with fail
    go_ret
    have hkW := (show Kept (w.setCell ⟨R, 10, none⟩ (.int .i64 s.colls.length)) ((((w.setCell ⟨R, 10, none⟩ (.int .i64 s.colls.length)).alloc (.cells #[.int .u8 0, .int .u8 10, .int .i64 x.size, .int .u32 x.data] 29)).alloc (.cells #[.int .u8 (x.data % 256), .int .u32 u0, .int .i64 s.opn] 68)).alloc (.cells #[.int .u8 (x.data % 256), .int .u32 u0, .int .i64 s.opn] 68)).drew.drew by go_grown)
    exact ⟨rfl, (((Fr.set 10 _).trans (Fr.kept hkW (by rw [World.size_setCell]; exact hb))).trans (Fr.grow hb4 hg4 (((((k2.cs.alloc _).alloc _).drew).drew).alloc _) (by decide))).trans (Fr.set 13 _), fun _ => ⟨_, _, _, _, (k2.kept hkW).collsAdd hg4 hown4 hat4⟩⟩
end Go.Proofs.Ytegdigfcgeoboaa
