/- The law of the chapter on reports, part 20: Gc Ge Gd. -/
import Derived.Test.YtegdigfcgeoboaaK19
set_option maxHeartbeats 16000000
set_option linter.unusedVariables false
set_option linter.unusedSimpArgs false
set_option linter.unusedSectionVars false
namespace Go.Proofs.Ytegdigfcgeoboaa
open Go.RowKit
attribute [local go_sem ↓] Go.wp_at_zero Go.wp_at_succ
variable {u0 u1 u3 u4 u5 u6 u7 u8 u9 gI eG eE eF dX dY dZ eA eB eC eD eI eJ eK eL eM eN u32 eO eP iN iO iP iQ iR fK iS iT iU iV iW iX gK gL gM gN gO gP gQ gR gS gT iY iZ jA jB jC jD jE u64 jF jG jH jJ jK jL jM jN jO jP jQ jR jZ kE kF kG kH jS jT jU jV jW jX kJ kK kM kN kO kP kQ kR kS kT kU kV aK aG aA aB aC aD aE aF aH aI aJ aL bC bD bE bF bG bH bI bJ bK bL aR aM aN aO aP aQ aS aT aU aV aW aX aY aZ bA bM bN bP bQ bS bR bT bU bV bW bX cW cX cY cZ dA dB dC dD dE dF dG dH dI dJ dK dL dM dN bY bZ cA cB cC cD cE cF cG cH cI cJ cK cM cN cO cP cQ cR cS cT cU cV eQ eR eS eT eU eV eW eX eY eZ fA fB fC fD fF fG fH fI fJ : Value}
noncomputable def code20g : Code := (Try.f22.body.bind (findQ 20)).getD .skip
set_option maxRecDepth 1000000 in
theorem g20 {W : World} {FB i c' : Nat} {A' : Option Addr} {f : Fd} {u a0 b0 e0 : Int} (hB : W.heap[FB]? = some (.cells (f.cellsC A' c').toArray 59 (0, 0))) (hu : Sl u32T W (low W.heap.size) A' f.usages.length f.usages) (hul : f.usages.length ≤ 10) (hct : 1 ≤ f.count ∧ f.count ≤ 256)
  (Q : Exit → Act → World → Prop) (K : Act → World → Prop) (hK : ∀ a w', Code.wp Try.prog (restC code20g) Q a w' → K a w')
  (hQ : ∀ (tZ qZ rA rB rC rD rE rF rG rH rI rJ rK jI lP lS lT lU lO lV lW kX kY kZ lA lB lC lE lG lH lI lJ lK lN lX lY : Value) (a1 b1 e1 : Int) (w' : World), Kept W w' → ((f.const = true ∧ a1 = a0 ∧ b1 = b0 ∧ e1 = e0) ∨ (f.const = false ∧ SufIs f.usages 0 u f.array f.count (i : Int) a0 b0 e0 a1 b1 e1)) → Q .normal ⟨#[u0, u1, .int .u32 u, u3, u4, u5, u6, u7, u8, u9, gI, .int .i64 a1, .int .i64 b1, .int .i64 e1, eG, .int .i64 (i : Int), .pointer (some ⟨FB, 0, none⟩), tZ, eF, dX, dY, dZ, eA, eB, eC, eD, eI, eJ, eK, eL, eM, eN, u32, eO, eP, iN, iO, iP, iQ, iR, fK, iS, iT, iU, iV, iW, iX, gK, gL, gM, gN, gO, gP, gQ, gR, gS, gT, iY, iZ, jA, jB, jC, jD, jE, u64, jF, jG, jH, jJ, jK, jL, jM, jN, jO, jP, jQ, jR, jZ, kE, kF, kG, kH, jS, jT, jU, jV, jW, jX, qZ, rA, rB, rC, rD, rE, rF, rG, rH, rI, rJ, rK, jI, lP, lS, lT, lU, lO, lV, lW, kX, kY, kZ, lA, lB, lC, lE, lG, lH, lI, lJ, lK, lN, lX, lY, aM, aN, aO, aP, aQ, aS, aT, aU, aV, aW, aX, aY, aZ, bA, bM, bN, bP, bQ, bS, bR, bT, bU, bV, bW, bX, cW, cX, cY, cZ, dA, dB, dC, dD, dE, dF, dG, dH, dI, dJ, dK, dL, dM, dN, bY, bZ, cA, cB, cC, cD, cE, cF, cG, cH, cI, cJ, cK, cM, cN, cO, cP, cQ, cR, cS, cT, cU, cV, eQ, eR, eS, eT, eU, eV, eW, eX, eY, eZ, fA, fB, fC, fD, fF, fG, fH, fI, fJ], []⟩ w') :
  Code.wp Try.prog (headC code20g) (Exit.then K Q) ⟨#[u0, u1, .int .u32 u, u3, u4, u5, u6, u7, u8, u9, gI, .int .i64 a0, .int .i64 b0, .int .i64 e0, eG, .int .i64 (i : Int), .pointer (some ⟨FB, 0, none⟩), eE, eF, dX, dY, dZ, eA, eB, eC, eD, eI, eJ, eK, eL, eM, eN, u32, eO, eP, iN, iO, iP, iQ, iR, fK, iS, iT, iU, iV, iW, iX, gK, gL, gM, gN, gO, gP, gQ, gR, gS, gT, iY, iZ, jA, jB, jC, jD, jE, u64, jF, jG, jH, jJ, jK, jL, jM, jN, jO, jP, jQ, jR, jZ, kE, kF, kG, kH, jS, jT, jU, jV, jW, jX, kJ, kK, kM, kN, kO, kP, kQ, kR, kS, kT, kU, kV, aK, aG, aA, aB, aC, aD, aE, aF, aH, aI, aJ, aL, bC, bD, bE, bF, bG, bH, bI, bJ, bK, bL, aR, aM, aN, aO, aP, aQ, aS, aT, aU, aV, aW, aX, aY, aZ, bA, bM, bN, bP, bQ, bS, bR, bT, bU, bV, bW, bX, cW, cX, cY, cZ, dA, dB, dC, dD, dE, dF, dG, dH, dI, dJ, dK, dL, dM, dN, bY, bZ, cA, cB, cC, cD, cE, cF, cG, cH, cI, cJ, cK, cM, cN, cO, cP, cQ, cR, cS, cT, cU, cV, eQ, eR, eS, eT, eU, eV, eW, eX, eY, eZ, fA, fB, fC, fD, fF, fG, fH, fI, fJ], []⟩ W := by
 obtain ⟨un, hun⟩ : ∃ n, f.usages.length = n := ⟨_, rfl⟩
 unfold Fd.cellsC at hB
 rw [hun] at hB hu hul
 obtain ⟨c1, c2⟩ := hct
 have y3 : W.cell? ⟨FB, 3, none⟩ = some (.slice A' un c') := cell_heap hB (o := 3) rfl
 have lF := heap_lt hB
 have hwu : IntKind.i64.wrap ((un : Int) - 1) = (un : Int) - 1 := by rw [IntKind.wrap_i64]; omega
 have HB := hide hB
 have Hu := hide hu
 have Hun := hide hun
 have HQ := hide hQ
 clear hB hu hun hQ
 conv => arg 2; whnf
 conv at hK => enter [a, w', 1, 2]; whnf
 go_wp2_with fail
 go_loopg [11, 12, 13, 17] un (fun g' tP tN tO tZ wr => ∃ (m : Nat) (a b e : Int), g' = m ∧ m ≤ un ∧ tP = .int .i64 a ∧ tN = .int .i64 b ∧ tO = .int .i64 e ∧ tZ = .int .i64 ((m : Int) - 1) ∧ Kept W wr ∧ SufIs f.usages m u f.array f.count (i : Int) a0 b0 e0 a b e ∧ (f.const = true → m = un))
 case atStart => exact ⟨un, a0, b0, e0, rfl, Nat.le_refl _, rfl, rfl, rfl, rfl, Below.refl _ _, suf_start (by rw [Hun.out]; exact Nat.le_refl _), fun _ => rfl⟩
 case round =>
  obtain ⟨m, a, b, e, hg, hmu, rfl, rfl, rfl, rfl, hk, hs, hcu⟩ := hrel
  have Hg := hide hg
  have Hs := hide hs
  have Hcu := hide hcu
  have hB' := heap_kept hk HB.out
  have y3 : wr.cell? ⟨FB, 3, none⟩ = some (.slice A' un c') := cell_heap hB' (o := 3) rfl
  have y7 : wr.cell? ⟨FB, 7, none⟩ = some (.int .i64 f.count) := cell_heap hB' (o := 7) rfl
  have y9 : wr.cell? ⟨FB, 9, none⟩ = some (.bool f.const) := cell_heap hB' (o := 9) rfl
  have y10 : wr.cell? ⟨FB, 10, none⟩ = some (.bool f.array) := cell_heap hB' (o := 10) rfl
  have lF := heap_lt hB'
  have Hk := hide hk
  clear hg hs hcu hB' hk
  cases hcb : f.const with
  | true =>
   have hmun : m = un := Hcu.out hcb
   rw [hcb] at y9
   have Hcb := hide hcb
   have hfin : a = a0 ∧ b = b0 ∧ e = e0 := by
    rcases Hs.out with ⟨z, h1, h2, _⟩ | ⟨_, h2⟩
    ·have := (List.getElem?_eq_some_iff.1 h2).1; have := Hun.out; omega
    ·exact h2
   have Hfin := hide hfin
   clear hcb hfin
   by_cases hm0 : m = 0
   ·have hd0 : decide (0 ≤ (m : Int) - 1) = false := decide_eq_false (by omega)
    have hd1 : ¬ 0 ≤ (m : Int) - 1 := by omega
    clear hm0 hmun
    go_wp2_with fail
    exact HQ.out _ _ _ _ _ _ _ _ _ _ _ _ _ _ _ _ _ _ _ _ _ _ _ _ _ _ _ _ _ _ _ _ _ _ _ _ _ _ _ _ Hk.out (.inl ⟨Hcb.out, Hfin.out⟩)
   ·have hd0 : decide (0 ≤ (m : Int) - 1) = true := decide_eq_true (by omega)
    have hd1 : 0 ≤ (m : Int) - 1 := by omega
    clear hm0 hmun
    go_wp2_with fail
    exact HQ.out _ _ _ _ _ _ _ _ _ _ _ _ _ _ _ _ _ _ _ _ _ _ _ _ _ _ _ _ _ _ _ _ _ _ _ _ _ _ _ _ Hk.out (.inl ⟨Hcb.out, Hfin.out⟩)
  | false =>
   rw [hcb] at y9
   have Hcb := hide hcb
   clear hcb
   cases m with
   | zero =>
    have hd0 : decide (0 ≤ ((0 : Nat) : Int) - 1) = false := decide_eq_false (by omega)
    have hd1 : ¬ 0 ≤ ((0 : Nat) : Int) - 1 := by omega
    go_wp2_with fail
    exact HQ.out _ _ _ _ _ _ _ _ _ _ _ _ _ _ _ _ _ _ _ _ _ _ _ _ _ _ _ _ _ _ _ _ _ _ _ _ _ _ _ _ Hk.out (.inr ⟨Hcb.out, Hs.out⟩)
   | succ q =>
    obtain ⟨x, ub, uo, ucs, hx, hA, hub, ⟨rfl, _⟩, hcs⟩ := (Hu.out.kept Hk.out).at (show q < un by omega)
    subst hA
    have xq : wr.cell? ⟨ub, uo + q, none⟩ = some (.int .u32 x) := by have := hcs 0 _ rfl; simpa [u32T, Ty.flat] using this
    have hubl : ub < wr.heap.size := hub
    have hq0 : (0 : Int) ≤ (q : Int) := by omega
    have hqn : (q : Int) < (un : Int) := by omega
    have hsub : (((q + 1 : Nat) : Int) - 1) = (q : Int) := by omega
    have hwq : IntKind.i64.wrap ((q : Int) - 1) = (q : Int) - 1 := by rw [IntKind.wrap_i64]; omega
    have hwc : IntKind.i64.wrap (f.count - 1) = f.count - 1 := by rw [IntKind.wrap_i64]; omega
    rw [hsub]
    have Hx := hide hx
    clear hx hcs hub
    by_cases hxu : x = u
    ·subst hxu
     have Hy := hide (suf_yes (arr := f.array) (ct := f.count) (i := (i : Int)) (a0 := a0) (b0 := b0) (e0 := e0) Hx.out)
     cases harr : f.array with
     | true =>
      rw [harr] at y10 Hy
      have Har := hide harr
      clear harr
      go_wp2_with fail
      go_roundg (gk - 1)
      case measure => have := Hg.out; omega
      case rel => exact ⟨q, _, _, _, by have := Hg.out; omega, by omega, rfl, rfl, rfl, by first | rfl | (rw [hwq]), Hk.out.trans' (by go_grown), by rw [Har.out]; exact Hy.out, fun h => by rw [Hcb.out] at h; cases h⟩
     | false =>
      rw [harr] at y10 Hy
      have Har := hide harr
      clear harr
      by_cases hlt : f.count - 1 < (q : Int)
      ·have hmin : min (q : Int) (f.count - 1) = f.count - 1 := by omega
       have Hmin := hide hmin
       clear hmin
       go_wp2_with fail
       go_roundg (gk - 1)
       case measure => have := Hg.out; omega
       case rel => exact ⟨q, _, _, _, by have := Hg.out; omega, by omega, rfl, rfl, rfl, by first | rfl | (rw [hwq]), Hk.out.trans' (by go_grown), by rw [Har.out]; have h := Hy.out; rw [if_neg (by decide), Hmin.out] at h; exact h, fun h => by rw [Hcb.out] at h; cases h⟩
      ·have hmin : min (q : Int) (f.count - 1) = (q : Int) := by omega
       have Hmin := hide hmin
       clear hmin
       go_wp2_with fail
       go_roundg (gk - 1)
       case measure => have := Hg.out; omega
       case rel => exact ⟨q, _, _, _, by have := Hg.out; omega, by omega, rfl, rfl, rfl, by first | rfl | (rw [hwq]), Hk.out.trans' (by go_grown), by rw [Har.out]; have h := Hy.out; rw [if_neg (by decide), Hmin.out] at h; exact h, fun h => by rw [Hcb.out] at h; cases h⟩
    ·have hne : (x == u) = false := by simpa using hxu
     have Hno := hide (suf_no Hx.out hxu Hs.out)
     clear hxu
     go_wp2_with fail
     go_roundg (gk - 1)
     case measure => have := Hg.out; omega
     case rel => exact ⟨q, _, _, _, by have := Hg.out; omega, by omega, rfl, rfl, rfl, by first | rfl | (rw [hwq]), Hk.out.trans' (by go_grown), Hno.out, fun h => by rw [Hcb.out] at h; cases h⟩
variable {eH u16 : Value}
def repB (l : List Fd) (k r : Int) : Bool := l.any (fun f => f.kind == k && f.report == r)
theorem repB_cons (f : Fd) (l : List Fd) (k r : Int) : repB (f :: l) k r = ((f.kind == k && f.report == r) || repB l k r) := rfl
theorem bitsR_cons (f : Fd) (l : List Fd) (k r : Int) : bitsS (f :: l) k r = bitsS l k r + if (f.kind == k && f.report == r) then f.size * f.count else 0 := by
 unfold bitsS
 rw [List.filter_cons]
 cases h : (f.kind == k && f.report == r) with
 | true => simp only [if_true, List.map_cons, List.sum_cons]; omega
 | false => simp
theorem lenS_at {nb : Bool} {l : List Fd} {k r : Int} : lenS nb l k r = (bitsS l k r + 7) / 8 + if repB l k r && nb then 1 else 0 := rfl
theorem drop_at {l : List Fd} {q : Nat} {f : Fd} (h : l[q]? = some f) : l.drop q = f :: l.drop (q + 1) := by
 obtain ⟨h1, h2⟩ := List.getElem?_eq_some_iff.1 h
 rw [List.drop_eq_getElem_cons h1, h2]
theorem repB_mem {l : List Fd} {k r : Int} : repB l k r = true ↔ ∃ f ∈ l, f.kind = k ∧ f.report = r := by
 unfold repB
 rw [List.any_eq_true]
 refine ⟨fun ⟨f, h1, h2⟩ => ⟨f, h1, ?_⟩, fun ⟨f, h1, h2, h3⟩ => ⟨f, h1, ?_⟩⟩
 ·simpa using h2
 ·simp [h2, h3]
structure FS (w wr : World) (B3 HB : Nat) (A C : Option Addr) (n c nc cc : Nat) (nb : Bool) (l : List Fd) (kd r u : Int) (m : Nat) (bt so fa ix er : Int) : Prop where
 kept : Kept w wr
 box : wr.heap[B3]? = some (.cells #[.slice A n c, .slice C nc cc, .bool nb] 40 (0, 0))
 has : HasIs wr HB (fun q => repB (l.drop m) kd q)
 low : w.heap.size ≤ B3 ∧ w.heap.size ≤ HB
 bits : bt = bitsS (l.drop m) kd r
 some : 0 ≤ so ∧ so ≤ ((l.length - m : Nat) : Int) ∧ (0 < so ↔ repB (l.drop m) kd r = true)
 find : FindSt l kd u m fa ix er
noncomputable def code32g : Code := (Try.f22.body.bind (findQ 32)).getD .skip
set_option maxRecDepth 1000000 in
theorem g32 {w wr : World} {B3 HB n c nc cc : Nat} {A C : Option Addr} {nb : Bool} {l : List Fd} {kd r u fa ix er LV : Int} (hbx : wr.heap[B3]? = some (.cells #[.slice A n c, .slice C nc cc, .bool nb] 40 (0, 0))) (hkw : Kept w wr) (hhas : HasIs wr HB (fun q => repB l kd q))
  (hfd : ∀ w2, Kept wr w2 → Calls Try.prog 23 #[.agg #[.slice A n c, .slice C nc cc, .bool nb], .int .u8 kd, .int .u32 u] w2 fun e w' => e = .returned (.tuple #[.int .i64 fa, .int .i64 ix, .int .i64 er]) ∧ Kept w2 w')
  (hnu : ∀ w2, Kept wr w2 → Calls Try.prog 20 #[.agg #[.slice A n c, .slice C nc cc, .bool nb], .int .u8 kd] w2 fun e w' => (∃ A' L, e = .returned (.slice A' L.length L.length) ∧ NumsIs l kd L ∧ Sl u8T w' (low w'.heap.size) A' L.length L) ∧ Kept w2 w')
  (hle : ∀ w2, Kept wr w2 → Calls Try.prog 21 #[.agg #[.slice A n c, .slice C nc cc, .bool nb], .int .u8 kd, .int .u8 r] w2 fun e w' => e = .returned (.int .i64 LV) ∧ Kept w2 w') (hrep : ∀ f ∈ l, 0 ≤ f.report ∧ f.report ≤ 3)
  (K : Act → World → Prop) (hK : ∀ a w', Code.wp Try.prog (restC code32g) (bodyPost Try.prog Try.f22 fun e w' => e = .returned (.bool true) ∧ Kept w w') a w' → K a w') :
  Code.wp Try.prog (headC code32g) (Exit.then K (bodyPost Try.prog Try.f22 fun e w' => e = .returned (.bool true) ∧ Kept w w')) ⟨#[u0, u1, .int .u32 u, .pointer (some ⟨B3, 0, none⟩), u4, u5, u6, .int .u8 kd, .int .u8 r, u9, gI, .int .i64 fa, .int .i64 ix, .int .i64 er, .pointer (some ⟨HB, 0, none⟩), eH, u16, eE, .int .i64 LV, dX, dY, dZ, eA, eB, eC, eD, eI, eJ, eK, eL, eM, eN, u32, eO, eP, iN, iO, iP, iQ, iR, fK, iS, iT, iU, iV, iW, iX, gK, gL, gM, gN, gO, gP, gQ, gR, gS, gT, iY, iZ, jA, jB, jC, jD, jE, u64, jF, jG, jH, jJ, jK, jL, jM, jN, jO, jP, jQ, jR, jZ, kE, kF, kG, kH, jS, jT, jU, jV, jW, jX, kJ, kK, kM, kN, kO, kP, kQ, kR, kS, kT, kU, kV, aK, aG, aA, aB, aC, aD, aE, aF, aH, aI, aJ, aL, bC, bD, bE, bF, bG, bH, bI, bJ, bK, bL, aR, aM, aN, aO, aP, aQ, aS, aT, aU, aV, aW, aX, aY, aZ, bA, bM, bN, bP, bQ, bS, bR, bT, bU, bV, bW, bX, cW, cX, cY, cZ, dA, dB, dC, dD, dE, dF, dG, dH, dI, dJ, dK, dL, dM, dN, bY, bZ, cA, cB, cC, cD, cE, cF, cG, cH, cI, cJ, cK, cM, cN, cO, cP, cQ, cR, cS, cT, cU, cV, eQ, eR, eS, eT, eU, eV, eW, eX, eY, eZ, fA, fB, fC, fD, fF, fG, fH, fI, fJ], []⟩ wr := by
 have m0 : wr.cell? ⟨B3, 0, none⟩ = some (.slice A n c) := cell_heap hbx (o := 0) rfl
 have m1 : wr.cell? ⟨B3, 1, none⟩ = some (.slice C nc cc) := cell_heap hbx (o := 1) rfl
 have m2 : wr.cell? ⟨B3, 2, none⟩ = some (.bool nb) := cell_heap hbx (o := 2) rfl
 have lB3 := heap_lt hbx
 have Hbx := hide hbx
 have Hkw := hide hkw
 have Hhas := hide hhas
 have Hle := hide hle
 have Hrep := hide hrep
 have Hnu := hide hnu
 have Hfd := hide hfd
 clear hbx hkw hhas hle hrep hnu hfd
 conv => arg 2; whnf
 conv at hK => enter [a, w', 1, 2]; whnf
 go_upto_region 33 with (go_at_call 23; refine (Hfd.out _ (Below.refl _ _)).mono ?_; rintro e w1 ⟨rfl, hk1⟩; try dsimp only)
 have hbx1 := heap_kept hk1 Hbx.out
 clear m0 m1 m2 lB3
 have m0 : w1.cell? ⟨B3, 0, none⟩ = some (.slice A n c) := cell_heap hbx1 (o := 0) rfl
 have m1 : w1.cell? ⟨B3, 1, none⟩ = some (.slice C nc cc) := cell_heap hbx1 (o := 1) rfl
 have m2 : w1.cell? ⟨B3, 2, none⟩ = some (.bool nb) := cell_heap hbx1 (o := 2) rfl
 have lB3 := heap_lt hbx1
 clear hbx1
 go_upto_region 34 with (go_at_call 20; refine (Hnu.out _ hk1).mono ?_; rintro e w2 ⟨⟨An, L, rfl, hLn, hLs⟩, hk2⟩; try dsimp only)
 obtain ⟨ln, hln⟩ : ∃ m, L.length = m := ⟨_, rfl⟩
 rw [hln] at hLs ⊢
 have hL03 : ∀ y ∈ L, 0 ≤ y ∧ y ≤ 3 := fun y hy => by
  obtain ⟨f, hf, _, rfl⟩ := (hLn.2 y).1 hy
  exact Hrep.out f hf
 have hln4 : ln ≤ 4 := by
  rw [← hln]
  refine nodup_le [0, 1, 2, 3] L (hLn.1.imp (fun h => by omega)) (fun y hy => ?_)
  have := hL03 y hy
  simp only [List.mem_cons, List.not_mem_nil, or_false]
  omega
 have hk02 := hk1.trans' hk2
 have HLn := hide hLn
 have HLs := hide hLs
 have Hln := hide hln
 have HL03 := hide hL03
 have Hk02 := hide hk02
 clear hLn hLs hln hL03 hk1 hk2 m0 m1 m2 lB3 hk02
 go_wp2_with fail
 go_loopg [23, 24] 256 (fun g' s23 s24 wz => ∃ i : Nat, i + g' = 256 ∧ s24 = .int .i64 (i : Int) ∧ s23 = .int .i64 (lessN L (i : Int) : Int) ∧ Kept w2 wz)
 case atStart => exact ⟨0, rfl, rfl, by rw [show lessN L ((0 : Nat) : Int) = 0 from lessN_zero (fun y hy => by have := (HL03.out y hy).1; omega)]; rfl, Below.refl _ _⟩
 case round =>
  obtain ⟨i, hi, rfl, rfl, hk⟩ := hrel
  have Hi := hide hi
  have hkz := Hk02.out.trans' hk
  have Hk := hide hk
  obtain ⟨at', hat⟩ : ∃ m, lessN L (i : Int) = m := ⟨_, rfl⟩
  have hatl : at' ≤ ln := by rw [← hat, ← Hln.out]; exact lessN_le _ _
  have hstep := lessN_at (i := (i : Int)) HLn.out.1
  rw [hat] at hstep ⊢
  have Hat := hide hat
  have Hstep := hide hstep
  clear hi hk hat hstep
  by_cases hlt : i < 256
  case neg =>
   have hi256 : i = 256 := by have := Hi.out; omega
   have hge : ¬ (i : Int) < 256 := by omega
   have hend : at' = ln := by rw [← Hat.out, ← Hln.out]; exact lessN_all (fun y hy => by have := HL03.out y hy; omega)
   subst hend
   have hbx2 := heap_kept hkz Hbx.out
   have m0 : wr.cell? ⟨B3, 0, none⟩ = some (.slice A n c) := cell_heap hbx2 (o := 0) rfl
   have m1 : wr.cell? ⟨B3, 1, none⟩ = some (.slice C nc cc) := cell_heap hbx2 (o := 1) rfl
   have m2 : wr.cell? ⟨B3, 2, none⟩ = some (.bool nb) := cell_heap hbx2 (o := 2) rfl
   have lB3 := heap_lt hbx2
   have Hle9 := hide (Hle.out _ hkz)
   have Hkz := hide hkz
   clear hbx2 hi256 hkz
   go_wp2_with (first
    | (go_at_call 21; refine Hle9.out.mono ?_; rintro e w8 ⟨rfl, hk8⟩; try dsimp only)
    | (go_at_call 8; refine (lives_any _).mono ?_; rintro e w9 ⟨rfl, hk9⟩; try dsimp only))
   go_ret
   exact ⟨rfl, ((Hkw.out.trans' Hkz.out).trans' hk8).trans' hk9⟩
  case pos =>
   obtain ⟨z1, _, z3⟩ := (Hhas.out.keep hkz).at hlt
   have hi0 : (0 : Int) ≤ (i : Int) := by omega
   have hi1 : (i : Int) < 256 := by omega
   have hwi : IntKind.i64.wrap ((i : Int) + 1) = ((i + 1 : Nat) : Int) := by rw [IntKind.wrap_i64]; omega
   have hwa : IntKind.i64.wrap ((at' : Int) + 1) = ((at' + 1 : Nat) : Int) := by rw [IntKind.wrap_i64]; omega
   obtain ⟨hb, hhb⟩ : ∃ b, repB l kd (i : Int) = b := ⟨_, rfl⟩
   have z1' : wr.cell? ⟨HB, i, none⟩ = some (.bool hb) := by rw [← hhb]; exact z1
   have Hhb := hide hhb
   clear z1 hhb
   cases hb with
   | false =>
    have hno : (i : Int) ∉ L := fun h => by
     have := repB_mem.2 ((HLn.out.2 _).1 h)
     rw [Hhb.out] at this
     cases this
    have Hn := hide (Hstep.out.2 hno)
    clear hno hkz
    go_wp2_with fail
    go_roundg (gk - 1)
    case measure => have := Hi.out; omega
    case rel => exact ⟨i + 1, by have := Hi.out; omega, by first | rfl | (rw [hwi]), by rw [show ((i + 1 : Nat) : Int) = (i : Int) + 1 by omega, Hn.out], Hk.out.trans' (by go_grown)⟩
   | true =>
    have hyes : (i : Int) ∈ L := (HLn.out.2 _).2 (repB_mem.1 Hhb.out)
    obtain ⟨g1, g2⟩ := Hstep.out.1 hyes
    have hatn : at' < ln := by rw [← Hln.out]; exact (List.getElem?_eq_some_iff.1 g1).1
    obtain ⟨y, ub, uo, ucs, hy, hA, hub, ⟨rfl, _⟩, hcs⟩ := (HLs.out.kept Hk.out).at hatn
    obtain rfl : (i : Int) = y := by rw [g1] at hy; injection hy
    subst hA
    have xq : wr.cell? ⟨ub, uo + at', none⟩ = some (.int .u8 (i : Int)) := by have := hcs 0 _ rfl; simpa [u8T, Ty.flat] using this
    have hubl : ub < wr.heap.size := hub
    have ha0 : (0 : Int) ≤ (at' : Int) := by omega
    have ha1 : (at' : Int) < (ln : Int) := by omega
    have ha2 : ¬ (ln : Int) ≤ (at' : Int) := by omega
    have hwi0 : IntKind.i64.wrap (i : Int) = (i : Int) := by rw [IntKind.wrap_i64]; omega
    have Hn := hide g2
    clear hyes g1 g2 hcs hub hy hkz
    go_wp2_with fail
    go_roundg (gk - 1)
    case measure => have := Hi.out; omega
    case rel => exact ⟨i + 1, by have := Hi.out; omega, by first | rfl | (rw [hwi]), by rw [show ((i + 1 : Nat) : Int) = (i : Int) + 1 by omega, Hn.out]; first | rfl | (rw [hwa]), Hk.out.trans' (by go_grown)⟩
theorem zero99c : Try.zeroCells99 = Array.replicate 256 (.bool false) := by kernel_rfl
theorem zero99 : Try.zeroCells99.size = 256 ∧ ∀ r : Nat, r < 256 → Try.zeroCells99[r]? = some (.bool false) := by
 rw [zero99c]
 exact ⟨by simp, fun r hr => by simp [hr]⟩
set_option maxRecDepth 1000000 in
theorem find_law (A C : Option Addr) (n c nc cc : Nat) (nb : Bool) (l : List Fd) (k u : Int) (w : World) (hn20 : n ≤ 20) (hk8 : u8k k) (hs : SizesOk l) (hrep : ∀ f ∈ l, 0 ≤ f.report ∧ f.report ≤ 3) (hus : ∀ f ∈ l, f.usages.length ≤ 10) (hl : Sl fdM w (low w.heap.size) A n l) :
  Calls Try.prog 22 #[.agg #[.slice A n c, .slice C nc cc, .bool nb], .int .u8 k, .int .u32 u] w fun e w' => e = .returned (.bool true) ∧ Kept w w' := by
 have hn := hl.1
 obtain ⟨k0, k1⟩ := hk8
 obtain ⟨kd, hkd⟩ : ∃ z, k % 5 = z := ⟨_, rfl⟩
 obtain ⟨r, hr⟩ : ∃ z, k / 5 % 3 = z := ⟨_, rfl⟩
 have hkd2 : k.tmod 5 = kd := by rw [Int.tmod_eq_emod_of_nonneg (by omega)]; exact hkd
 have hr2 : (k.tdiv 5).tmod 3 = r := by rw [Int.tdiv_eq_ediv_of_nonneg (by omega), Int.tmod_eq_emod_of_nonneg (by omega)]; exact hr
 obtain ⟨kq, hkq⟩ : ∃ z, k.tdiv 5 = z := ⟨_, rfl⟩
 have hkq0 : 0 ≤ kq ∧ kq < 52 := by rw [← hkq, Int.tdiv_eq_ediv_of_nonneg (by omega)]; omega
 obtain ⟨kq0, kq1⟩ := hkq0
 rw [hkq] at hr2
 have hkd0 : 0 ≤ kd ∧ kd < 5 := by omega
 have hr0 : 0 ≤ r ∧ r < 3 := by omega
 obtain ⟨kd0, kd1⟩ := hkd0
 obtain ⟨r0, r1⟩ := hr0
 have hw1 : IntKind.u8.wrap kd = kd := wrap8 (by omega) (by omega)
 have hw2 : IntKind.u8.wrap kq = kq := wrap8 (by omega) (by omega)
 have hw3 : IntKind.u8.wrap r = r := wrap8 (by omega) (by omega)
 have hwn : IntKind.i64.wrap ((n : Int) - 1) = (n : Int) - 1 := by rw [IntKind.wrap_i64]; omega
 have hn20' : ¬ (20 : Int) < (n : Int) := by omega
 have Hn := hide hn
 have Hs := hide hs
 have Hrep := hide hrep
 have Hus := hide hus
 have Hl := hide hl
 clear hn hs hrep hus hl hkd hr
 go_enter Try.func22, Try.ntmps22
 go_upto_region 8 with fail
 refine wp_at (fun W => W.heap[w.heap.size]? = some (.cells #[.slice A n c, .slice C nc cc, .bool nb] 40 (0, 0)) ∧ HasIs W (w.heap.size + 1) (fun q => repB (l.drop n) kd q) ∧ Kept w W) ⟨heap_past (heap_at _ rfl), ⟨_, heap_at _ (by simp), zero99.1, fun q hq => by rw [← Hn.out, List.drop_length]; exact zero99.2 q hq⟩, by go_grown⟩ (fun W hW => ?_)
 obtain ⟨hB3, hHB, hkW⟩ := hW
 obtain ⟨B3, hB3d⟩ : ∃ b, w.heap.size = b := ⟨_, rfl⟩
 obtain ⟨HB, hHBd⟩ : ∃ b, w.heap.size + 1 = b := ⟨_, rfl⟩
 rw [hHBd] at hHB
 rw [hB3d] at hB3
 simp only [hHBd]
 simp only [hB3d]
 have hlow : w.heap.size ≤ B3 ∧ w.heap.size ≤ HB := by omega
 clear hB3d hHBd
 have hSt : FS w W B3 HB A C n c nc cc nb l kd r u n 0 0 0 0 7 := ⟨hkW, hB3, hHB, hlow, by rw [← Hn.out, List.drop_length]; rfl, ⟨by omega, by rw [Hn.out]; omega, by rw [← Hn.out, List.drop_length]; exact ⟨fun h => by omega, fun h => by cases h⟩⟩, by rw [← Hn.out]; exact find_start⟩
 have m0 : W.cell? ⟨B3, 0, none⟩ = some (.slice A n c) := cell_heap hB3 (o := 0) rfl
 have lB3 := heap_lt hB3
 have HSt := hide hSt
 clear hSt hB3 hHB hkW hlow
 go_wp2_with fail
 go_loopg [9, 10, 11, 12, 13, 15] n (fun g' s9 tM tP tN tO tQ wr => ∃ (m : Nat) (bt so fa ix er : Int), g' = m ∧ m ≤ n ∧ s9 = .int .i64 bt ∧ tM = .int .i64 so ∧ tP = .int .i64 fa ∧ tN = .int .i64 ix ∧ tO = .int .i64 er ∧ tQ = .int .i64 ((m : Int) - 1) ∧ FS w wr B3 HB A C n c nc cc nb l kd r u m bt so fa ix er)
 case atStart => exact ⟨n, 0, 0, 0, 0, 7, rfl, Nat.le_refl _, rfl, rfl, rfl, rfl, rfl, rfl, HSt.out⟩
 case round =>
  clear HSt m0 lB3
  obtain ⟨m, bt, so, fa, ix, er, hg, hmn, rfl, rfl, rfl, rfl, rfl, rfl, hS⟩ := hrel
  have Hg := hide hg
  clear hg
  have m0 : wr.cell? ⟨B3, 0, none⟩ = some (.slice A n c) := cell_heap hS.box (o := 0) rfl
  have m1 : wr.cell? ⟨B3, 1, none⟩ = some (.slice C nc cc) := cell_heap hS.box (o := 1) rfl
  have m2 : wr.cell? ⟨B3, 2, none⟩ = some (.bool nb) := cell_heap hS.box (o := 2) rfl
  have lB3 := heap_lt hS.box
  cases m with
  | zero =>
   obtain ⟨hkw, hbx, hhas, hlo, hbits, ⟨so1, so2, so3⟩, hfind⟩ := hS
   rw [List.drop_zero] at hbits so3 hhas
   have hbd := bits_le l kd r (fun g hg => Hs.out.2 g hg)
   rw [← hbits] at hbd
   have hb1 : 0 ≤ bt := hbd.1
   have hb2 : bt ≤ 200000 := by have := hbd.2; have := Hn.out; omega
   obtain ⟨q8, hq8⟩ : ∃ z, bt / 8 = z := ⟨_, rfl⟩
   obtain ⟨r8, hr8⟩ : ∃ z, bt % 8 = z := ⟨_, rfl⟩
   obtain ⟨q9, hq9⟩ : ∃ z, (bt + 7) / 8 = z := ⟨_, rfl⟩
   have hdv : bt.tdiv 8 = q8 := by rw [Int.tdiv_eq_ediv_of_nonneg hb1]; exact hq8
   have hmd : bt.tmod 8 = r8 := by rw [Int.tmod_eq_emod_of_nonneg hb1]; exact hr8
   have h98 : (r8 = 0 → q9 = q8) ∧ (r8 ≠ 0 → q9 = q8 + 1) := by omega
   have hq80 : 0 ≤ q8 ∧ q8 ≤ 30000 := by omega
   obtain ⟨q80, q81⟩ := hq80
   obtain ⟨rb, hrb⟩ : ∃ b, repB l kd r = b := ⟨_, rfl⟩
   rw [hrb] at so3
   obtain ⟨LV, hLV⟩ : ∃ z, lenS nb l kd r = z := ⟨_, rfl⟩
   have hlv : LV = q9 + if rb && nb then 1 else 0 := by rw [← hLV, lenS_at, ← hbits, hq9, hrb]
   have hw8 : IntKind.i64.wrap q8 = q8 := by rw [IntKind.wrap_i64]; omega
   have hw81 : IntKind.i64.wrap (q8 + 1) = q8 + 1 := by rw [IntKind.wrap_i64]; omega
   have hw9 : IntKind.i64.wrap (q9 + 1) = q9 + 1 := by rw [IntKind.wrap_i64]; omega
   have hfd : ∀ w2, Kept wr w2 → Calls Try.prog 23 #[.agg #[.slice A n c, .slice C nc cc, .bool nb], .int .u8 kd, .int .u32 u] w2 fun e w' => e = .returned (.tuple #[.int .i64 fa, .int .i64 ix, .int .i64 er]) ∧ Kept w2 w' := fun w2 hk2 =>
    (find23M A C n c nc cc nb l kd u w2 (by omega) (fun f hf => by obtain ⟨_, _, g3, g4⟩ := Hs.out.2 f hf; exact ⟨g3, g4⟩) (Hl.out.kept (hkw.trans' hk2))).mono fun e w' ⟨⟨a, b, e2, h1, h2⟩, h3⟩ => by
     obtain ⟨rfl, rfl, rfl⟩ := find_unique hfind h2
     exact ⟨h1, h3⟩
   have hnu := fun w2 (hk2 : Kept wr w2) => numbers20 A C n c nc cc nb l kd w2 (by omega) Hrep.out (Hl.out.kept (hkw.trans' hk2))
   have hle : ∀ w2, Kept wr w2 → Calls Try.prog 21 #[.agg #[.slice A n c, .slice C nc cc, .bool nb], .int .u8 kd, .int .u8 r] w2 fun e w' => e = .returned (.int .i64 LV) ∧ Kept w2 w' := fun w2 hk2 => by
    have h := length21M A C n c nc cc nb l kd r w2 Hs.out (Hl.out.kept (hkw.trans' hk2))
    rw [hLV] at h
    exact h
   have H98 := hide h98
   have Hlv := hide hlv
   have Hso := hide so3
   have Hfd := hide hfd
   have Hnu := hide hnu
   have Hle := hide hle
   have Hhas := hide hhas
   have Hbx := hide hbx
   have Hkw := hide hkw
   clear hbd hq8 hr8 hq9 h98 hrb hLV hlv hfd hnu hle so3 so2 hhas hbx hkw hfind hbits hlo
   by_cases hz : r8 = 0
   ·have hz1 : (r8 != 0) = false := by rw [hz]; rfl
    have hz2 : (r8 == 0) = true := by rw [hz]; rfl
    have Hq := hide (H98.out.1 hz)
    clear hz
    cases rb with
    | false =>
     have hso0 : ¬ (0 : Int) < so := fun h => by have := Hso.out.1 h; cases this
     have hso1 : decide ((0 : Int) < so) = false := decide_eq_false hso0
     have HL := hide (show LV = q8 from by rw [Hlv.out, Hq.out]; simp)
     rw [HL.out] at Hle
     clear HL Hlv
     go_upto_region 32 with fail
     refine g32 (A := A) (C := C) (n := n) (c := c) (nc := nc) (cc := cc) (nb := nb) (l := l) (kd := kd) (r := r) (u := u) Hbx.out Hkw.out Hhas.out Hfd.out Hnu.out Hle.out Hrep.out _ ?_
     assumption
    | true =>
     have hso0 : (0 : Int) < so := Hso.out.2 rfl
     have hso1 : decide ((0 : Int) < so) = true := decide_eq_true hso0
     cases nb with
     | false =>
      have HL := hide (show LV = q8 from by rw [Hlv.out, Hq.out]; simp)
      rw [HL.out] at Hle
      clear HL Hlv
      go_upto_region 32 with fail
      refine g32 (A := A) (C := C) (n := n) (c := c) (nc := nc) (cc := cc) (nb := false) (l := l) (kd := kd) (r := r) (u := u) Hbx.out Hkw.out Hhas.out Hfd.out Hnu.out Hle.out Hrep.out _ ?_
      assumption
     | true =>
      have HL := hide (show LV = q8 + 1 from by rw [Hlv.out, Hq.out]; simp)
      rw [HL.out] at Hle
      clear HL Hlv
      go_upto_region 32 with fail
      refine g32 (A := A) (C := C) (n := n) (c := c) (nc := nc) (cc := cc) (nb := true) (l := l) (kd := kd) (r := r) (u := u) Hbx.out Hkw.out Hhas.out Hfd.out Hnu.out Hle.out Hrep.out _ ?_
      assumption
   ·have hz1 : (r8 != 0) = true := by simpa using hz
    have hz2 : (r8 == 0) = false := by simpa using hz
    have Hq := hide (H98.out.2 hz)
    have hw82 : IntKind.i64.wrap (q8 + 1 + 1) = q8 + 1 + 1 := by rw [IntKind.wrap_i64]; omega
    clear hz
    cases rb with
    | false =>
     have hso0 : ¬ (0 : Int) < so := fun h => by have := Hso.out.1 h; cases this
     have hso1 : decide ((0 : Int) < so) = false := decide_eq_false hso0
     have HL := hide (show LV = (q8 + 1) from by rw [Hlv.out, Hq.out]; simp)
     rw [HL.out] at Hle
     clear HL Hlv
     go_upto_region 32 with fail
     refine g32 (A := A) (C := C) (n := n) (c := c) (nc := nc) (cc := cc) (nb := nb) (l := l) (kd := kd) (r := r) (u := u) Hbx.out Hkw.out Hhas.out Hfd.out Hnu.out Hle.out Hrep.out _ ?_
     assumption
    | true =>
     have hso0 : (0 : Int) < so := Hso.out.2 rfl
     have hso1 : decide ((0 : Int) < so) = true := decide_eq_true hso0
     cases nb with
     | false =>
      have HL := hide (show LV = (q8 + 1) from by rw [Hlv.out, Hq.out]; simp)
      rw [HL.out] at Hle
      clear HL Hlv
      go_upto_region 32 with fail
      refine g32 (A := A) (C := C) (n := n) (c := c) (nc := nc) (cc := cc) (nb := false) (l := l) (kd := kd) (r := r) (u := u) Hbx.out Hkw.out Hhas.out Hfd.out Hnu.out Hle.out Hrep.out _ ?_
      assumption
     | true =>
      have HL := hide (show LV = (q8 + 1) + 1 from by rw [Hlv.out, Hq.out]; simp)
      rw [HL.out] at Hle
      clear HL Hlv
      go_upto_region 32 with fail
      refine g32 (A := A) (C := C) (n := n) (c := c) (nc := nc) (cc := cc) (nb := true) (l := l) (kd := kd) (r := r) (u := u) Hbx.out Hkw.out Hhas.out Hfd.out Hnu.out Hle.out Hrep.out _ ?_
      assumption
  | succ q =>
   obtain ⟨f, b, off, cs, hf, hA, hbb0, ⟨A', c', rfl, hul, hcm, hsu⟩, hcs⟩ := Hl.out.at (show q < n by omega)
   subst hA
   have hbb : b < wr.heap.size := Nat.lt_of_lt_of_le hbb0 hS.kept.size
   have hcs' : ∀ (j : Nat) v, (f.cellsC A' c')[j]? = some v → wr.cell? ⟨b, off + q * 13 + j, none⟩ = some v := fun j v h => (hS.kept.cell (p := ⟨b, off + q * 13 + j, none⟩) hbb0).trans (hcs j v h)
   have x0 : wr.cell? ⟨b, off + q * 13, none⟩ = _ := hcs' 0 _ rfl
   have x1 := hcs' 1 _ rfl
   have x2 := hcs' 2 _ rfl
   have x3 := hcs' 3 _ rfl
   have x4 := hcs' 4 _ rfl
   have x5 := hcs' 5 _ rfl
   have x6 := hcs' 6 _ rfl
   have x7 := hcs' 7 _ rfl
   have x8 := hcs' 8 _ rfl
   have x9 := hcs' 9 _ rfl
   have x10 := hcs' 10 _ rfl
   have x11 := hcs' 11 _ rfl
   have x12 := hcs' 12 _ rfl
   have hbl : b < wr.heap.size := hbb
   have hq0 : (0 : Int) ≤ (q : Int) := by omega
   have hqn : (q : Int) < (n : Int) := by omega
   have hsub : (((q + 1 : Nat) : Int) - 1) = (q : Int) := by omega
   have hwq : IntKind.i64.wrap ((q : Int) - 1) = (q : Int) - 1 := by rw [IntKind.wrap_i64]; omega
   have hmem := List.mem_of_getElem? hf
   obtain ⟨a1, a2, a3, a4⟩ := Hs.out.2 f hmem
   obtain ⟨p1, p2⟩ := Hrep.out f hmem
   have hu10 := Hus.out f hmem
   have hu10' : ¬ (10 : Int) < (f.usages.length : Int) := by omega
   have hc9 : ¬ f.count = -9223372036854775808 := by omega
   have hc9' : (f.count == -9223372036854775808) = false := beq_false_of_ne hc9
   have hdr := drop_at hf
   rw [hsub]
   have Hf := hide hf
   have Hdr := hide hdr
   have HS := hide hS
   have Hsu := hide hsu
   clear hcs hcs' hf hbb hbb0 hmem hdr hS hsu hcm hul
   go_upto_region 12 with fail
   refine wp_at (fun V => ∃ FB, V.heap[FB]? = some (.cells (f.cellsC A' c').toArray 59 (0, 0)) ∧ FB = wr.heap.size ∧ Kept wr V) ⟨_, heap_at _ rfl, rfl, by go_grown⟩ (fun V hV => ?_)
   obtain ⟨FB, hFB, hFBd, hkV⟩ := hV
   rw [← hFBd]
   have hFB' : V.heap[FB]? = some (.cells #[.int .u8 f.kind, .int .u8 f.report, .int .i64 f.parent, .slice A' f.usages.length c', .int .i64 f.lo, .int .i64 f.hi, .int .i64 f.size, .int .i64 f.count, .int .i64 f.pos, .bool f.const, .bool f.array, .bool f.signed, .bool f.rel] 59 (0, 0)) := hFB
   have y0 : V.cell? ⟨FB, 0, none⟩ = some (.int .u8 f.kind) := cell_heap hFB' (o := 0) rfl
   have y1 : V.cell? ⟨FB, 1, none⟩ = some (.int .u8 f.report) := cell_heap hFB' (o := 1) rfl
   have y3 : V.cell? ⟨FB, 3, none⟩ = some (.slice A' f.usages.length c') := cell_heap hFB' (o := 3) rfl
   have y6 : V.cell? ⟨FB, 6, none⟩ = some (.int .i64 f.size) := cell_heap hFB' (o := 6) rfl
   have y7 : V.cell? ⟨FB, 7, none⟩ = some (.int .i64 f.count) := cell_heap hFB' (o := 7) rfl
   have lF := heap_lt hFB
   have hSV : FS w V B3 HB (some ⟨b, off, none⟩) C n c nc cc nb l kd r u (q + 1) bt so fa ix er := ⟨HS.out.kept.trans' hkV, heap_kept hkV HS.out.box, HS.out.has.keep hkV, HS.out.low, HS.out.bits, HS.out.some, HS.out.find⟩
   have HSV := hide hSV
   have HFB := hide hFB
   clear hSV hFB hFB' hkV HS hFBd x0 x1 x2 x3 x4 x5 x6 x7 x8 x9 x10 x11 x12 m0 m1 m2 lB3 hbl
   by_cases ck : f.kind = kd
   case neg =>
    have ck1 : (f.kind != kd) = true := by simpa using ck
    have ck2 : (f.kind == kd) = false := by simpa using ck
    have hfin : FS w V B3 HB (some ⟨b, off, none⟩) C n c nc cc nb l kd r u q bt so fa ix er := by
     refine ⟨HSV.out.kept, HSV.out.box, ?_, HSV.out.low, ?_, ?_, find_keep Hf.out (fun h => ck h.1) HSV.out.find⟩
     ·rw [Hdr.out]
      have h := HSV.out.has
      simp only [repB_cons, ck2, Bool.false_and, Bool.false_or]
      exact h
     ·rw [Hdr.out, bitsR_cons, ck2]; simpa using HSV.out.bits
     ·obtain ⟨h1, h2, h3⟩ := HSV.out.some
      rw [Hdr.out, repB_cons, ck2]
      exact ⟨h1, by omega, by simpa using h3⟩
    have Hfin := hide hfin
    clear ck hfin
    go_wp2_with fail
    go_roundg (gk - 1)
    case measure => have := Hg.out; omega
    case rel => exact ⟨q, _, _, _, _, _, by have := Hg.out; omega, by omega, rfl, rfl, rfl, rfl, rfl, by first | rfl | (rw [hwq]), Hfin.out⟩
   case pos =>
    have ck1 : (f.kind != kd) = false := by simpa using ck
    have ck2 : (f.kind == kd) = true := by simpa using ck
    obtain ⟨rp, hrp⟩ : ∃ rp : Nat, f.report = (rp : Int) := ⟨f.report.toNat, by omega⟩
    rw [hrp] at y1 p1 p2
    have hrp256 : rp < 256 := by omega
    obtain ⟨z1, z2, z3⟩ := HSV.out.has.at hrp256
    have hrpn : (rp : Int) < 256 := by omega
    have hFH : ¬ FB = HB := fun e => by
     obtain ⟨cs2, hh1, _⟩ := HSV.out.has
     have hh2 := HFB.out
     rw [e, hh1] at hh2
     injection hh2 with hh2
     injection hh2 with _ hh2 _
     exact absurd hh2 (by decide)
    have hBH : ¬ B3 = HB := fun e => by
     obtain ⟨cs2, hh1, _⟩ := HSV.out.has
     have hh2 := HSV.out.box
     rw [e, hh1] at hh2
     injection hh2 with hh2
     injection hh2 with _ hh2 _
     exact absurd hh2 (by decide)
    have Ck := hide ck
    have Hck2 := hide ck2
    have Hrp := hide hrp
    clear ck hrp ck2
    go_upto_region 16 with fail
    refine wp_at (fun U => U.heap[FB]? = some (.cells (f.cellsC A' c').toArray 59 (0, 0)) ∧ U.heap[B3]? = some (.cells #[.slice (some ⟨b, off, none⟩) n c, .slice C nc cc, .bool nb] 40 (0, 0)) ∧ HasIs U HB (fun q2 => repB (l.drop q) kd q2) ∧ Kept w U) ⟨?_, ?_, ?_, ?_⟩ (fun U hU => ?_)
    ·exact heap_grown (grown_at grown_self rp (.bool true) : V.grownBy (V.setCell ⟨HB, rp, none⟩ (.bool true)) (some HB)) HFB.out (fun e => hFH (by injection e))
    ·exact heap_grown (grown_at grown_self rp (.bool true) : V.grownBy (V.setCell ⟨HB, rp, none⟩ (.bool true)) (some HB)) HSV.out.box (fun e => hBH (by injection e))
    ·refine HSV.out.has.put hrp256 (fun q2 hq2 => ?_)
     rw [Hdr.out, repB_cons, Hck2.out, Hrp.out]
     by_cases e : q2 = rp
     ·rw [e, if_pos rfl]; simp
     ·rw [if_neg e, beq_false_of_ne (fun h => e (by omega))]; simp
    ·exact HSV.out.kept.trans ((Below.refl _ _).setCell (p := ⟨HB, rp, none⟩) HSV.out.low.2 _)
    obtain ⟨hFU, hUb, hUh, hUk⟩ := hU
    have hFU' : U.heap[FB]? = some (.cells #[.int .u8 f.kind, .int .u8 f.report, .int .i64 f.parent, .slice A' f.usages.length c', .int .i64 f.lo, .int .i64 f.hi, .int .i64 f.size, .int .i64 f.count, .int .i64 f.pos, .bool f.const, .bool f.array, .bool f.signed, .bool f.rel] 59 (0, 0)) := hFU
    clear y0 y1 y3 y6 y7 lF z1 z2 z3
    have y1 : U.cell? ⟨FB, 1, none⟩ = some (.int .u8 (rp : Int)) := by rw [← Hrp.out]; exact cell_heap hFU' (o := 1) rfl
    have y6 : U.cell? ⟨FB, 6, none⟩ = some (.int .i64 f.size) := cell_heap hFU' (o := 6) rfl
    have y7 : U.cell? ⟨FB, 7, none⟩ = some (.int .i64 f.count) := cell_heap hFU' (o := 7) rfl
    have lF := heap_lt hFU
    have HFU := hide hFU
    have HUb := hide hUb
    have HUh := hide hUh
    have HUk := hide hUk
    clear hFU hFU' hUb hUh hUk
    by_cases cr : (rp : Int) = r
    case pos =>
     have cr1 : ((rp : Int) == r) = true := by simpa using cr
     have Hboth := hide (show (f.kind == kd && f.report == r) = true from by rw [Hck2.out, Hrp.out, cr1]; rfl)
     obtain ⟨so1, so2, _⟩ := HSV.out.some
     have hbd := bits_le (l.drop (q + 1)) kd r (fun g hg => Hs.out.2 g (List.mem_of_mem_drop hg))
     rw [← HSV.out.bits] at hbd
     have hld : ((l.drop (q + 1)).length : Int) ≤ 20 := by rw [List.length_drop]; have := Hn.out; omega
     have hb1 : 0 ≤ bt := hbd.1
     have hb2 : bt ≤ 200000 := by have := hbd.2; omega
     have hp1 : f.size * f.count ≤ 32 * f.count := Int.mul_le_mul_of_nonneg_right (by omega) (by omega)
     have hp2 : 1 * f.count ≤ f.size * f.count := Int.mul_le_mul_of_nonneg_right (by omega) (by omega)
     have hv1 : IntKind.i64.wrap (f.size * f.count) = f.size * f.count := by rw [IntKind.wrap_i64]; omega
     have hv2 : IntKind.i64.wrap (bt + f.size * f.count) = bt + f.size * f.count := by rw [IntKind.wrap_i64]; omega
     have hv3 : IntKind.i64.wrap (so + 1) = so + 1 := by rw [IntKind.wrap_i64]; have := Hn.out; omega
     have hm1 : min f.size 32 = f.size := by omega
     have hm2 : min f.count 256 = f.count := by omega
     have hs0 : (0 : Int) < f.size := by omega
     have hs1 : (0 : Int) < f.count := by omega
     clear cr hbd hld
     go_upto_region 20 with fail
     refine g20 (f := f) (A' := A') (c' := c') (i := q) HFU.out (Hsu.out.kept HUk.out) hu10 ⟨a3, a4⟩ _ _ ?_ ?_
     ·assumption
     intro tZ qZ rA rB rC rD rE rF rG rH rI rJ rK jI lP lS lT lU lO lV lW kX kY kZ lA lB lC lE lG lH lI lJ lK lN lX lY a9 b9 e9 W9 hk9 hcase
     have hfin : FS w W9 B3 HB (some ⟨b, off, none⟩) C n c nc cc nb l kd r u q (bt + f.size * f.count) (so + 1) a9 b9 e9 := by
      refine ⟨HUk.out.trans' hk9, heap_kept hk9 HUb.out, HUh.out.keep hk9, HSV.out.low, ?_, ?_, ?_⟩
      ·rw [Hdr.out, bitsR_cons, Hboth.out, ← HSV.out.bits]; rfl
      ·obtain ⟨h1, h2, h3⟩ := HSV.out.some
       rw [Hdr.out, repB_cons, Hboth.out]
       exact ⟨by omega, by have := Hn.out; omega, ⟨fun _ => rfl, fun _ => by omega⟩⟩
      ·rcases hcase with ⟨g1, rfl, rfl, rfl⟩ | ⟨g1, g2⟩
       ·exact find_const Hf.out g1 HSV.out.find
       ·exact find_step Hf.out Ck.out g1 g2 HSV.out.find
     have Hfin := hide hfin
     clear hcase hfin hk9
     go_wp2_with fail
     go_roundg (gk - 1)
     case measure => have := Hg.out; omega
     case rel => exact ⟨q, _, _, _, _, _, by have := Hg.out; omega, by omega, rfl, rfl, rfl, rfl, rfl, by first | rfl | (rw [hwq]), Hfin.out⟩
    case neg =>
     have cr1 : ((rp : Int) == r) = false := by simpa using cr
     have Hboth := hide (show (f.kind == kd && f.report == r) = false from by rw [Hck2.out, Hrp.out, cr1]; rfl)
     clear cr
     go_upto_region 20 with fail
     refine g20 (f := f) (A' := A') (c' := c') (i := q) HFU.out (Hsu.out.kept HUk.out) hu10 ⟨a3, a4⟩ _ _ ?_ ?_
     ·assumption
     intro tZ qZ rA rB rC rD rE rF rG rH rI rJ rK jI lP lS lT lU lO lV lW kX kY kZ lA lB lC lE lG lH lI lJ lK lN lX lY a9 b9 e9 W9 hk9 hcase
     have hfin : FS w W9 B3 HB (some ⟨b, off, none⟩) C n c nc cc nb l kd r u q bt so a9 b9 e9 := by
      refine ⟨HUk.out.trans' hk9, heap_kept hk9 HUb.out, HUh.out.keep hk9, HSV.out.low, ?_, ?_, ?_⟩
      ·rw [Hdr.out, bitsR_cons, Hboth.out]; simpa using HSV.out.bits
      ·obtain ⟨h1, h2, h3⟩ := HSV.out.some
       rw [Hdr.out, repB_cons, Hboth.out]
       exact ⟨h1, by omega, by simpa using h3⟩
      ·rcases hcase with ⟨g1, rfl, rfl, rfl⟩ | ⟨g1, g2⟩
       ·exact find_const Hf.out g1 HSV.out.find
       ·exact find_step Hf.out Ck.out g1 g2 HSV.out.find
     have Hfin := hide hfin
     clear hcase hfin hk9
     go_wp2_with fail
     go_roundg (gk - 1)
     case measure => have := Hg.out; omega
     case rel => exact ⟨q, _, _, _, _, _, by have := Hg.out; omega, by omega, rfl, rfl, rfl, rfl, rfl, by first | rfl | (rw [hwq]), Hfin.out⟩
end Go.Proofs.Ytegdigfcgeoboaa
