/- The law of the chapter on reports, part 23: Wp Wq Wr Ws. -/
import Derived.Test.YtegdigfcgeoboaaK22
set_option maxHeartbeats 16000000
set_option linter.unusedVariables false
set_option linter.unusedSimpArgs false
set_option linter.unusedSectionVars false
namespace Go.Proofs.Ytegdigfcgeoboaa
open Go.RowKit
attribute [local go_sem ↓] Go.wp_at_zero Go.wp_at_succ
variable {u0 u3 u4 gI kI gJ jY eG eH u16 eE eF dX dY dZ eA eB eC eD eI eJ eK eL eM eN u32 eO eP iN iO iP iQ iR fK iS iT iU iV iW iX gK gL gM gN gO gP gQ gR gS gT iY iZ jA jB jC jD jE u64 jF jG jH jJ jK jL jM jN jO jP jQ jR jZ kE kF kG kH jS jT jU jV jW jX kJ kK kM kN kO kP kQ kR kS kT kU kV aK aG aA aB aC aD aE aF aH aI aJ aL bC bD bE bF bG bH bI bJ bK bL aR aM aN aO aP aQ aS aT aU aV aW aX aY aZ bA bM bN bP bQ bS bR bT bU bV bW bX cW cX cY cZ dA dB dC dD dE dF dG dH dI dJ dK dL dM dN bY bZ cA cB cC cD cE cF cG cH cI cJ cK cM cN cO cP cQ cR cS cT cU cV eQ eR eS eT eU eV eW eX eY eZ fA fB fC fD fF fG fH fI fJ fL fM fN gU gV gW gX gY gZ hH fO fP fQ fR fS fT fU fV fW fX fY fZ gA iA iB iC iD iE iF iG iH iJ iK iL iM gB gC gD gE gF gG gH dO dP dQ dR dS dT dU dV dW : Value}
noncomputable def after16i : Code := (Try.f18.body.bind (afterQ 16)).getD .skip
set_option maxRecDepth 1000000 in
theorem p16 {w W : World} {DB LB FB ba oa n cap m B BF i dd dfin : Nat} {nb : Bool} {way w3 w2 : Int} {mm : Nat} {fi : Int} {v vl vg : Value} {outL fin : List It} {l g : Fd} {us : List Int} {f : PF} (hS : IS w W DB LB FB nb (some ⟨ba, oa, none⟩) n cap m B v vl vg outL l g us) (h7 : w.cell? ⟨ba, oa + i * 8 + 7, none⟩ = some (.int .u8 f.flags)) (hba : ba < w.heap.size) (hin : (i : Int) < (n : Int)) (hfl : u8k f.flags) (hkd : g.kind = 1 ∨ g.kind = 2 ∨ g.kind = 3) (hfi : 0 ≤ fi ∧ fi < 256) (hmm : mm ≤ 5) (hus : usesI w2 f = if w2 = 0 then [itemS 2 1 fi false, itemS 2 2 (fi + (mm : Int)) false] else (List.range (mm + 1)).map fun (k : Nat) => itemS 2 0 (fi + (k : Int)) false) (hw : (way.tdiv 3).tmod 2 = w2) (hway : u8k way) (he : outL ++ (i4 w3 i l g ++ (i5 w3 i l g ++ (i6 w3 i l g ++ (i7 nb w3 i l g ++ (usesI w2 f ++ (i9 f g ++ i10 f dd)))))) = fin) (hd : d2 f dd = dfin) (hB : B + 12 ≤ BF) (hBF : BF ≤ 900) (hd6 : dd ≤ 6) (hul : us = (List.range (mm + 1)).map fun (q : Nat) => 458752 + fi + (q : Int)) (hw3 : way.tmod 3 = w3) (hgreport : 0 ≤ g.report ∧ g.report < 4294967296) (hgcount : 0 ≤ g.count ∧ g.count < 4294967296) (hgsize : 0 ≤ g.size ∧ g.size < 4294967296) (hghi : -32768 ≤ g.hi ∧ g.hi < 2147483648)
  (Q : Exit → Act → World → Prop) (K K2 : Act → World → Prop) (hK : ∀ a w', Code.wp Try.prog (restC code16i) (Exit.then K2 Q) a w' → K a w') (hK2 : ∀ a w', Code.wp Try.prog after16i Q a w' → K2 a w') (hQ : ∀ (tM tP tN tO rX rY rZ sA sB sD sE sF sG sH sI tB tC tD tE tF tG tH tI tJ tK tL sJ sK sL sM sN sO sP sQ sR sS sT oD rL rM rN rO rP rQ rR rS rT rU rV rW sU sV sW sX sY sZ tA qZ rA rB rC rD rE rF rG rH rI rJ rK jI lP lS lT lU lO lV lW kX kY kZ lA lB lC lE lG lH lI lJ lK lN lX lY mO mP mQ mR mS mA mB mD mE mF mG mH mI mJ mK mL mM mN mT oE oF oG oH oI oJ mU mV mW mX mY mZ nA nB nC nD nE nF nG nH nI nJ nK oK oL oM oN oO oP oQ oR oS oT oU oV oW oX oY oZ pA pB pC pD pE pF pG pH pI pJ pK pL pM pN pO pP pQ pR pS pT pU pV pW pX pY pZ qA qB qC qD nL nM nN nO nP nQ nR qE qF qG qH qI qJ qK qL qM qN qO qP qQ nS nT nU nV nW nX nY nZ oA oB oC qR qS qT qU qV qW qX qY : Value) (v' : Value) (m' : Nat) (w' : World), IS w w' DB LB FB nb (some ⟨ba, oa, none⟩) n cap m' BF v' vg vg fin g g us → Q .normal ⟨#[u0, .int .u8 way, .pointer (some ⟨DB, 0, none⟩), u3, u4, v', .int .i64 (dfin : Int), .pointer (some ⟨LB, 0, none⟩), .int .i64 (i : Int), .pointer (some ⟨FB, 0, none⟩), tM, tP, tN, tO, eG, eH, u16, eE, eF, dX, dY, dZ, eA, eB, eC, eD, eI, eJ, eK, eL, eM, eN, u32, eO, eP, rX, rY, rZ, sA, sB, sD, sE, sF, sG, sH, sI, tB, tC, tD, tE, tF, tG, tH, tI, tJ, tK, tL, sJ, sK, sL, sM, sN, sO, sP, sQ, sR, sS, sT, oD, rL, rM, rN, rO, rP, rQ, rR, rS, rT, rU, rV, rW, sU, sV, sW, sX, sY, sZ, tA, qZ, rA, rB, rC, rD, rE, rF, rG, rH, rI, rJ, rK, jI, lP, lS, lT, lU, lO, lV, lW, kX, kY, kZ, lA, lB, lC, lE, lG, lH, lI, lJ, lK, lN, lX, lY, mO, mP, mQ, mR, mS, mA, mB, mD, mE, mF, mG, mH, mI, mJ, mK, mL, mM, mN, mT, oE, oF, oG, oH, oI, oJ, mU, mV, mW, mX, mY, mZ, nA, nB, nC, nD, nE, nF, nG, nH, nI, nJ, nK, oK, oL, oM, oN, oO, oP, oQ, oR, oS, oT, oU, oV, oW, oX, oY, oZ, pA, pB, pC, pD, pE, pF, pG, pH, pI, pJ, pK, pL, pM, pN, pO, pP, pQ, pR, pS, pT, pU, pV, pW, pX, pY, pZ, qA, qB, qC, qD, nL, nM, nN, nO, nP, nQ, nR, qE, qF, qG, qH, qI, qJ, qK, qL, qM, qN, qO, qP, qQ, nS, nT, nU, nV, nW, nX, nY, nZ, oA, oB, oC, qR, qS, qT, qU, qV, qW, qX, qY, dO, dP, dQ, dR, dS, dT, dU, dV, dW], []⟩ w') :
  Code.wp Try.prog (headC code16i) (Exit.then K (Exit.then K2 Q)) ⟨#[u0, .int .u8 way, .pointer (some ⟨DB, 0, none⟩), u3, u4, v, .int .i64 (dd : Int), .pointer (some ⟨LB, 0, none⟩), .int .i64 (i : Int), .pointer (some ⟨FB, 0, none⟩), gI, kI, gJ, jY, eG, eH, u16, eE, eF, dX, dY, dZ, eA, eB, eC, eD, eI, eJ, eK, eL, eM, eN, u32, eO, eP, iN, iO, iP, iQ, iR, fK, iS, iT, iU, iV, iW, iX, gK, gL, gM, gN, gO, gP, gQ, gR, gS, gT, iY, iZ, jA, jB, jC, jD, jE, u64, jF, jG, jH, jJ, jK, jL, jM, jN, jO, jP, jQ, jR, jZ, kE, kF, kG, kH, jS, jT, jU, jV, jW, jX, kJ, kK, kM, kN, kO, kP, kQ, kR, kS, kT, kU, kV, aK, aG, aA, aB, aC, aD, aE, aF, aH, aI, aJ, aL, bC, bD, bE, bF, bG, bH, bI, bJ, bK, bL, aR, aM, aN, aO, aP, aQ, aS, aT, aU, aV, aW, aX, aY, aZ, bA, bM, bN, bP, bQ, bS, bR, bT, bU, bV, bW, bX, cW, cX, cY, cZ, dA, dB, dC, dD, dE, dF, dG, dH, dI, dJ, dK, dL, dM, dN, bY, bZ, cA, cB, cC, cD, cE, cF, cG, cH, cI, cJ, cK, cM, cN, cO, cP, cQ, cR, cS, cT, cU, cV, eQ, eR, eS, eT, eU, eV, eW, eX, eY, eZ, fA, fB, fC, fD, fF, fG, fH, fI, fJ, fL, fM, fN, gU, gV, gW, gX, gY, gZ, hH, fO, fP, fQ, fR, fS, fT, fU, fV, fW, fX, fY, fZ, gA, iA, iB, iC, iD, iE, iF, iG, iH, iJ, iK, iL, iM, gB, gC, gD, gE, gF, gG, gH, dO, dP, dQ, dR, dS, dT, dU, dV, dW], []⟩ W := by
 have hgvv : (-32768 ≤ g.hi ∧ g.hi < 2147483648) := hghi
 obtain ⟨gv, hgve⟩ : ∃ z, g.hi = z := ⟨_, rfl⟩
 have hgv := hgvv
 rw [hgve] at hgv
 obtain ⟨i29, hi29, hz0, hz1, hz2⟩ := info_parts info29
 have HS := hide hS
 have HQ := hide hQ
 have hkc : Kept W W := Below.refl _ _
 have hmb := hS.bnd
 obtain ⟨y0, hy0⟩ : ∃ y, itemS 1 2 gv true = y := ⟨_, rfl⟩
 have hit0 := item17n 1 2 gv true (show (-32768 ≤ gv ∧ gv < 2147483648) by exact hgv) y0 hy0
 have hyok : ∀ x ∈ [y0], x.ok := by
  intro x hx
  simp only [List.mem_cons, List.not_mem_nil, or_false] at hx
  rcases hx with rfl
  ·rw [← hy0]; exact (itemS_ok (by omega) (by omega)).2
 have Hy0 := hide hy0
 clear hy0
 have hL := hS.lbox
 have hF := hS.fbox
 have hD := hS.dbox
 have b5 : W.cell? ⟨FB, 5, none⟩ = some (.int .i64 gv) := by rw [← hgve]; exact cell_heap hF (o := 5) rfl
 have lF := heap_lt hF
 have He := hide he
 have Hge := hide hgve
 have Hus := hide hus
 have Hul := hide hul
 have Hkd := hide hkd
 have Hgv := hide hgvv
 clear hS hQ he hgve hus hul hkd hgvv
 conv => arg 2; whnf
 conv at hK => enter [a, w', 1, 2]; whnf
 conv at hK2 => enter [a, w', 1, 2]; whnf
 refine ask_16 (l := l) (g := g) (w3 := w3) (nb := nb) hL hF hD hw3 _ ?_
 intro qZ rA rB rC rD rE rF rG rH rI rJ rK jI
 clear hL hF hD
 cases hb : (ask w3 i l.hi g.hi) with
 | true =>
  have hgr : i4 w3 i l g = [y0] := by unfold i4; rw [hb, Hge.out, Hy0.out]; rfl
  have Hgr := hide hgr
  clear hgr hb
  go_upto_region 18 with (first
   | (go_at_call 17; refine (hit0 _).mono ?_; rintro e w5 ⟨rfl, hkq0⟩; replace hkc := hkc.trans' hkq0; try dsimp only)
   | (at_builtin; refine wpList_append_sl (T := itT) rfl (.tmp 102) (.tmp 106) 22 rfl w.heap.size 29 i29 _ 24 Try.underlying22 hi29 hz0 hz1 hz2 rfl (by decide) _ m outL (by rfl) ((HS.out.ownm.kept hkc).alloc _) (some ⟨_, 0, none⟩) 1 1 [y0] (by rfl) (by exact sl_it_heap (heap_at _ rfl) rfl hyok ⟨by simp, fun e => by have h9 := ((HS.out.ownm.kept hkc).lt e).2; omega⟩) (by_one29 _ _) (by unfold maxLen; omega) (by omega) (by have h9 := HS.out.kept.size; have h8 := hkc.size; simp; omega) ?_; intro v9 w9 hown9 hg9 hb9 hat9))
  refine p18 (f := f) (w2 := w2) (w3 := w3) (((HS.out.keep hkc).keep ((Below.refl _ _).alloc (Nat.le_refl _) _)).grow hg9 hb9 hown9) h7 hba hin hfl Hkd.out hfi hmm Hus.out hw hway (by rw [← He.out, Hgr.out]; simp only [List.append_assoc]) hd (by simp only [List.length_cons, List.length_nil]; omega) hBF hd6 Hul.out hw3 hgreport hgcount hgsize _ _ _ ?_ ?_ HQ.out <;> assumption
 | false =>
  have hgr : i4 w3 i l g = [] := by unfold i4; rw [hb]; rfl
  have Hgr := hide hgr
  clear hgr hb
  go_upto_region 18 with fail
  refine p18 (f := f) (w2 := w2) (w3 := w3) HS.out h7 hba hin hfl Hkd.out hfi hmm Hus.out hw hway (by rw [← He.out, Hgr.out]; rfl) hd (by omega) hBF hd6 Hul.out hw3 hgreport hgcount hgsize _ _ _ ?_ ?_ HQ.out <;> assumption
noncomputable def after14i : Code := (Try.f18.body.bind (afterQ 14)).getD .skip
set_option maxRecDepth 1000000 in
theorem p14 {w W : World} {DB LB FB ba oa n cap m B BF i dd dfin : Nat} {nb : Bool} {way w3 w2 : Int} {mm : Nat} {fi : Int} {v vl vg : Value} {outL fin : List It} {l g : Fd} {us : List Int} {f : PF} (hS : IS w W DB LB FB nb (some ⟨ba, oa, none⟩) n cap m B v vl vg outL l g us) (h7 : w.cell? ⟨ba, oa + i * 8 + 7, none⟩ = some (.int .u8 f.flags)) (hba : ba < w.heap.size) (hin : (i : Int) < (n : Int)) (hfl : u8k f.flags) (hkd : g.kind = 1 ∨ g.kind = 2 ∨ g.kind = 3) (hfi : 0 ≤ fi ∧ fi < 256) (hmm : mm ≤ 5) (hus : usesI w2 f = if w2 = 0 then [itemS 2 1 fi false, itemS 2 2 (fi + (mm : Int)) false] else (List.range (mm + 1)).map fun (k : Nat) => itemS 2 0 (fi + (k : Int)) false) (hw : (way.tdiv 3).tmod 2 = w2) (hway : u8k way) (he : outL ++ (i3 w3 i l g ++ (i4 w3 i l g ++ (i5 w3 i l g ++ (i6 w3 i l g ++ (i7 nb w3 i l g ++ (usesI w2 f ++ (i9 f g ++ i10 f dd))))))) = fin) (hd : d2 f dd = dfin) (hB : B + 13 ≤ BF) (hBF : BF ≤ 900) (hd6 : dd ≤ 6) (hul : us = (List.range (mm + 1)).map fun (q : Nat) => 458752 + fi + (q : Int)) (hw3 : way.tmod 3 = w3) (hgreport : 0 ≤ g.report ∧ g.report < 4294967296) (hgcount : 0 ≤ g.count ∧ g.count < 4294967296) (hgsize : 0 ≤ g.size ∧ g.size < 4294967296) (hghi : -32768 ≤ g.hi ∧ g.hi < 2147483648) (hglo : -32768 ≤ g.lo ∧ g.lo < 2147483648)
  (Q : Exit → Act → World → Prop) (K K2 : Act → World → Prop) (hK : ∀ a w', Code.wp Try.prog (restC code14i) (Exit.then K2 Q) a w' → K a w') (hK2 : ∀ a w', Code.wp Try.prog after14i Q a w' → K2 a w') (hQ : ∀ (tM tP tN tO rX rY rZ sA sB sD sE sF sG sH sI tB tC tD tE tF tG tH tI tJ tK tL sJ sK sL sM sN sO sP sQ sR sS sT oD rL rM rN rO rP rQ rR rS rT rU rV rW sU sV sW sX sY sZ tA qZ rA rB rC rD rE rF rG rH rI rJ rK jI lP lS lT lU lO lV lW kX kY kZ lA lB lC lE lG lH lI lJ lK lN lX lY mO mP mQ mR mS mA mB mD mE mF mG mH mI mJ mK mL mM mN mT oE oF oG oH oI oJ mU mV mW mX mY mZ nA nB nC nD nE nF nG nH nI nJ nK oK oL oM oN oO oP oQ oR oS oT oU oV oW oX oY oZ pA pB pC pD pE pF pG pH pI pJ pK pL pM pN pO pP pQ pR pS pT pU pV pW pX pY pZ qA qB qC qD nL nM nN nO nP nQ nR qE qF qG qH qI qJ qK qL qM qN qO qP qQ nS nT nU nV nW nX nY nZ oA oB oC qR qS qT qU qV qW qX qY : Value) (v' : Value) (m' : Nat) (w' : World), IS w w' DB LB FB nb (some ⟨ba, oa, none⟩) n cap m' BF v' vg vg fin g g us → Q .normal ⟨#[u0, .int .u8 way, .pointer (some ⟨DB, 0, none⟩), u3, u4, v', .int .i64 (dfin : Int), .pointer (some ⟨LB, 0, none⟩), .int .i64 (i : Int), .pointer (some ⟨FB, 0, none⟩), tM, tP, tN, tO, eG, eH, u16, eE, eF, dX, dY, dZ, eA, eB, eC, eD, eI, eJ, eK, eL, eM, eN, u32, eO, eP, rX, rY, rZ, sA, sB, sD, sE, sF, sG, sH, sI, tB, tC, tD, tE, tF, tG, tH, tI, tJ, tK, tL, sJ, sK, sL, sM, sN, sO, sP, sQ, sR, sS, sT, oD, rL, rM, rN, rO, rP, rQ, rR, rS, rT, rU, rV, rW, sU, sV, sW, sX, sY, sZ, tA, qZ, rA, rB, rC, rD, rE, rF, rG, rH, rI, rJ, rK, jI, lP, lS, lT, lU, lO, lV, lW, kX, kY, kZ, lA, lB, lC, lE, lG, lH, lI, lJ, lK, lN, lX, lY, mO, mP, mQ, mR, mS, mA, mB, mD, mE, mF, mG, mH, mI, mJ, mK, mL, mM, mN, mT, oE, oF, oG, oH, oI, oJ, mU, mV, mW, mX, mY, mZ, nA, nB, nC, nD, nE, nF, nG, nH, nI, nJ, nK, oK, oL, oM, oN, oO, oP, oQ, oR, oS, oT, oU, oV, oW, oX, oY, oZ, pA, pB, pC, pD, pE, pF, pG, pH, pI, pJ, pK, pL, pM, pN, pO, pP, pQ, pR, pS, pT, pU, pV, pW, pX, pY, pZ, qA, qB, qC, qD, nL, nM, nN, nO, nP, nQ, nR, qE, qF, qG, qH, qI, qJ, qK, qL, qM, qN, qO, qP, qQ, nS, nT, nU, nV, nW, nX, nY, nZ, oA, oB, oC, qR, qS, qT, qU, qV, qW, qX, qY, dO, dP, dQ, dR, dS, dT, dU, dV, dW], []⟩ w') :
  Code.wp Try.prog (headC code14i) (Exit.then K (Exit.then K2 Q)) ⟨#[u0, .int .u8 way, .pointer (some ⟨DB, 0, none⟩), u3, u4, v, .int .i64 (dd : Int), .pointer (some ⟨LB, 0, none⟩), .int .i64 (i : Int), .pointer (some ⟨FB, 0, none⟩), gI, kI, gJ, jY, eG, eH, u16, eE, eF, dX, dY, dZ, eA, eB, eC, eD, eI, eJ, eK, eL, eM, eN, u32, eO, eP, iN, iO, iP, iQ, iR, fK, iS, iT, iU, iV, iW, iX, gK, gL, gM, gN, gO, gP, gQ, gR, gS, gT, iY, iZ, jA, jB, jC, jD, jE, u64, jF, jG, jH, jJ, jK, jL, jM, jN, jO, jP, jQ, jR, jZ, kE, kF, kG, kH, jS, jT, jU, jV, jW, jX, kJ, kK, kM, kN, kO, kP, kQ, kR, kS, kT, kU, kV, aK, aG, aA, aB, aC, aD, aE, aF, aH, aI, aJ, aL, bC, bD, bE, bF, bG, bH, bI, bJ, bK, bL, aR, aM, aN, aO, aP, aQ, aS, aT, aU, aV, aW, aX, aY, aZ, bA, bM, bN, bP, bQ, bS, bR, bT, bU, bV, bW, bX, cW, cX, cY, cZ, dA, dB, dC, dD, dE, dF, dG, dH, dI, dJ, dK, dL, dM, dN, bY, bZ, cA, cB, cC, cD, cE, cF, cG, cH, cI, cJ, cK, cM, cN, cO, cP, cQ, cR, cS, cT, cU, cV, eQ, eR, eS, eT, eU, eV, eW, eX, eY, eZ, fA, fB, fC, fD, fF, fG, fH, fI, fJ, fL, fM, fN, gU, gV, gW, gX, gY, gZ, hH, fO, fP, fQ, fR, fS, fT, fU, fV, fW, fX, fY, fZ, gA, iA, iB, iC, iD, iE, iF, iG, iH, iJ, iK, iL, iM, gB, gC, gD, gE, gF, gG, gH, dO, dP, dQ, dR, dS, dT, dU, dV, dW], []⟩ W := by
 have hgvv : (-32768 ≤ g.lo ∧ g.lo < 2147483648) := hglo
 obtain ⟨gv, hgve⟩ : ∃ z, g.lo = z := ⟨_, rfl⟩
 have hgv := hgvv
 rw [hgve] at hgv
 obtain ⟨i29, hi29, hz0, hz1, hz2⟩ := info_parts info29
 have HS := hide hS
 have HQ := hide hQ
 have hkc : Kept W W := Below.refl _ _
 have hmb := hS.bnd
 obtain ⟨y0, hy0⟩ : ∃ y, itemS 1 1 gv true = y := ⟨_, rfl⟩
 have hit0 := item17n 1 1 gv true (show (-32768 ≤ gv ∧ gv < 2147483648) by exact hgv) y0 hy0
 have hyok : ∀ x ∈ [y0], x.ok := by
  intro x hx
  simp only [List.mem_cons, List.not_mem_nil, or_false] at hx
  rcases hx with rfl
  ·rw [← hy0]; exact (itemS_ok (by omega) (by omega)).2
 have Hy0 := hide hy0
 clear hy0
 have hL := hS.lbox
 have hF := hS.fbox
 have hD := hS.dbox
 have b4 : W.cell? ⟨FB, 4, none⟩ = some (.int .i64 gv) := by rw [← hgve]; exact cell_heap hF (o := 4) rfl
 have lF := heap_lt hF
 have He := hide he
 have Hge := hide hgve
 have Hus := hide hus
 have Hul := hide hul
 have Hkd := hide hkd
 have Hgv := hide hgvv
 clear hS hQ he hgve hus hul hkd hgvv
 conv => arg 2; whnf
 conv at hK => enter [a, w', 1, 2]; whnf
 conv at hK2 => enter [a, w', 1, 2]; whnf
 refine ask_14 (l := l) (g := g) (w3 := w3) (nb := nb) hL hF hD hw3 _ ?_
 intro oD rL rM rN rO rP rQ rR rS rT rU rV rW
 clear hL hF hD
 cases hb : (ask w3 i l.lo g.lo) with
 | true =>
  have hgr : i3 w3 i l g = [y0] := by unfold i3; rw [hb, Hge.out, Hy0.out]; rfl
  have Hgr := hide hgr
  clear hgr hb
  go_upto_region 16 with (first
   | (go_at_call 17; refine (hit0 _).mono ?_; rintro e w5 ⟨rfl, hkq0⟩; replace hkc := hkc.trans' hkq0; try dsimp only)
   | (at_builtin; refine wpList_append_sl (T := itT) rfl (.tmp 82) (.tmp 86) 22 rfl w.heap.size 29 i29 _ 24 Try.underlying22 hi29 hz0 hz1 hz2 rfl (by decide) _ m outL (by rfl) ((HS.out.ownm.kept hkc).alloc _) (some ⟨_, 0, none⟩) 1 1 [y0] (by rfl) (by exact sl_it_heap (heap_at _ rfl) rfl hyok ⟨by simp, fun e => by have h9 := ((HS.out.ownm.kept hkc).lt e).2; omega⟩) (by_one29 _ _) (by unfold maxLen; omega) (by omega) (by have h9 := HS.out.kept.size; have h8 := hkc.size; simp; omega) ?_; intro v9 w9 hown9 hg9 hb9 hat9))
  refine p16 (f := f) (w2 := w2) (w3 := w3) (((HS.out.keep hkc).keep ((Below.refl _ _).alloc (Nat.le_refl _) _)).grow hg9 hb9 hown9) h7 hba hin hfl Hkd.out hfi hmm Hus.out hw hway (by rw [← He.out, Hgr.out]; simp only [List.append_assoc]) hd (by simp only [List.length_cons, List.length_nil]; omega) hBF hd6 Hul.out hw3 hgreport hgcount hgsize hghi _ _ _ ?_ ?_ HQ.out <;> assumption
 | false =>
  have hgr : i3 w3 i l g = [] := by unfold i3; rw [hb]; rfl
  have Hgr := hide hgr
  clear hgr hb
  go_upto_region 16 with fail
  refine p16 (f := f) (w2 := w2) (w3 := w3) HS.out h7 hba hin hfl Hkd.out hfi hmm Hus.out hw hway (by rw [← He.out, Hgr.out]; rfl) hd (by omega) hBF hd6 Hul.out hw3 hgreport hgcount hgsize hghi _ _ _ ?_ ?_ HQ.out <;> assumption
noncomputable def code12i : Code := (Try.f18.body.bind (findQ 12)).getD .skip
noncomputable def after12i : Code := (Try.f18.body.bind (afterQ 12)).getD .skip
set_option maxRecDepth 1000000 in
theorem p12 {w W : World} {DB LB FB ba oa n cap m B BF i dd dfin : Nat} {nb : Bool} {way w3 w2 : Int} {mm : Nat} {fi : Int} {v vl vg : Value} {outL fin : List It} {l g : Fd} {us : List Int} {f : PF} (hS : IS w W DB LB FB nb (some ⟨ba, oa, none⟩) n cap m B v vl vg outL l g us) (h7 : w.cell? ⟨ba, oa + i * 8 + 7, none⟩ = some (.int .u8 f.flags)) (hba : ba < w.heap.size) (hin : (i : Int) < (n : Int)) (hfl : u8k f.flags) (hkd : g.kind = 1 ∨ g.kind = 2 ∨ g.kind = 3) (hfi : 0 ≤ fi ∧ fi < 256) (hmm : mm ≤ 5) (hus : usesI w2 f = if w2 = 0 then [itemS 2 1 fi false, itemS 2 2 (fi + (mm : Int)) false] else (List.range (mm + 1)).map fun (k : Nat) => itemS 2 0 (fi + (k : Int)) false) (hw : (way.tdiv 3).tmod 2 = w2) (hway : u8k way) (he : outL ++ (i2 w3 ++ (i3 w3 i l g ++ (i4 w3 i l g ++ (i5 w3 i l g ++ (i6 w3 i l g ++ (i7 nb w3 i l g ++ (usesI w2 f ++ (i9 f g ++ i10 f dd)))))))) = fin) (hd : d2 f dd = dfin) (hB : B + 18 ≤ BF) (hBF : BF ≤ 900) (hd6 : dd ≤ 6) (hul : us = (List.range (mm + 1)).map fun (q : Nat) => 458752 + fi + (q : Int)) (hw3 : way.tmod 3 = w3) (hgreport : 0 ≤ g.report ∧ g.report < 4294967296) (hgcount : 0 ≤ g.count ∧ g.count < 4294967296) (hgsize : 0 ≤ g.size ∧ g.size < 4294967296) (hghi : -32768 ≤ g.hi ∧ g.hi < 2147483648) (hglo : -32768 ≤ g.lo ∧ g.lo < 2147483648)
  (Q : Exit → Act → World → Prop) (K K2 : Act → World → Prop) (hK : ∀ a w', Code.wp Try.prog (restC code12i) (Exit.then K2 Q) a w' → K a w') (hK2 : ∀ a w', Code.wp Try.prog after12i Q a w' → K2 a w') (hQ : ∀ (tM tP tN tO rX rY rZ sA sB sD sE sF sG sH sI tB tC tD tE tF tG tH tI tJ tK tL sJ sK sL sM sN sO sP sQ sR sS sT oD rL rM rN rO rP rQ rR rS rT rU rV rW sU sV sW sX sY sZ tA qZ rA rB rC rD rE rF rG rH rI rJ rK jI lP lS lT lU lO lV lW kX kY kZ lA lB lC lE lG lH lI lJ lK lN lX lY mO mP mQ mR mS mA mB mD mE mF mG mH mI mJ mK mL mM mN mT oE oF oG oH oI oJ mU mV mW mX mY mZ nA nB nC nD nE nF nG nH nI nJ nK oK oL oM oN oO oP oQ oR oS oT oU oV oW oX oY oZ pA pB pC pD pE pF pG pH pI pJ pK pL pM pN pO pP pQ pR pS pT pU pV pW pX pY pZ qA qB qC qD nL nM nN nO nP nQ nR qE qF qG qH qI qJ qK qL qM qN qO qP qQ nS nT nU nV nW nX nY nZ oA oB oC qR qS qT qU qV qW qX qY : Value) (v' : Value) (m' : Nat) (w' : World), IS w w' DB LB FB nb (some ⟨ba, oa, none⟩) n cap m' BF v' vg vg fin g g us → Q .normal ⟨#[u0, .int .u8 way, .pointer (some ⟨DB, 0, none⟩), u3, u4, v', .int .i64 (dfin : Int), .pointer (some ⟨LB, 0, none⟩), .int .i64 (i : Int), .pointer (some ⟨FB, 0, none⟩), tM, tP, tN, tO, eG, eH, u16, eE, eF, dX, dY, dZ, eA, eB, eC, eD, eI, eJ, eK, eL, eM, eN, u32, eO, eP, rX, rY, rZ, sA, sB, sD, sE, sF, sG, sH, sI, tB, tC, tD, tE, tF, tG, tH, tI, tJ, tK, tL, sJ, sK, sL, sM, sN, sO, sP, sQ, sR, sS, sT, oD, rL, rM, rN, rO, rP, rQ, rR, rS, rT, rU, rV, rW, sU, sV, sW, sX, sY, sZ, tA, qZ, rA, rB, rC, rD, rE, rF, rG, rH, rI, rJ, rK, jI, lP, lS, lT, lU, lO, lV, lW, kX, kY, kZ, lA, lB, lC, lE, lG, lH, lI, lJ, lK, lN, lX, lY, mO, mP, mQ, mR, mS, mA, mB, mD, mE, mF, mG, mH, mI, mJ, mK, mL, mM, mN, mT, oE, oF, oG, oH, oI, oJ, mU, mV, mW, mX, mY, mZ, nA, nB, nC, nD, nE, nF, nG, nH, nI, nJ, nK, oK, oL, oM, oN, oO, oP, oQ, oR, oS, oT, oU, oV, oW, oX, oY, oZ, pA, pB, pC, pD, pE, pF, pG, pH, pI, pJ, pK, pL, pM, pN, pO, pP, pQ, pR, pS, pT, pU, pV, pW, pX, pY, pZ, qA, qB, qC, qD, nL, nM, nN, nO, nP, nQ, nR, qE, qF, qG, qH, qI, qJ, qK, qL, qM, qN, qO, qP, qQ, nS, nT, nU, nV, nW, nX, nY, nZ, oA, oB, oC, qR, qS, qT, qU, qV, qW, qX, qY, dO, dP, dQ, dR, dS, dT, dU, dV, dW], []⟩ w') :
  Code.wp Try.prog (headC code12i) (Exit.then K (Exit.then K2 Q)) ⟨#[u0, .int .u8 way, .pointer (some ⟨DB, 0, none⟩), u3, u4, v, .int .i64 (dd : Int), .pointer (some ⟨LB, 0, none⟩), .int .i64 (i : Int), .pointer (some ⟨FB, 0, none⟩), gI, kI, gJ, jY, eG, eH, u16, eE, eF, dX, dY, dZ, eA, eB, eC, eD, eI, eJ, eK, eL, eM, eN, u32, eO, eP, iN, iO, iP, iQ, iR, fK, iS, iT, iU, iV, iW, iX, gK, gL, gM, gN, gO, gP, gQ, gR, gS, gT, iY, iZ, jA, jB, jC, jD, jE, u64, jF, jG, jH, jJ, jK, jL, jM, jN, jO, jP, jQ, jR, jZ, kE, kF, kG, kH, jS, jT, jU, jV, jW, jX, kJ, kK, kM, kN, kO, kP, kQ, kR, kS, kT, kU, kV, aK, aG, aA, aB, aC, aD, aE, aF, aH, aI, aJ, aL, bC, bD, bE, bF, bG, bH, bI, bJ, bK, bL, aR, aM, aN, aO, aP, aQ, aS, aT, aU, aV, aW, aX, aY, aZ, bA, bM, bN, bP, bQ, bS, bR, bT, bU, bV, bW, bX, cW, cX, cY, cZ, dA, dB, dC, dD, dE, dF, dG, dH, dI, dJ, dK, dL, dM, dN, bY, bZ, cA, cB, cC, cD, cE, cF, cG, cH, cI, cJ, cK, cM, cN, cO, cP, cQ, cR, cS, cT, cU, cV, eQ, eR, eS, eT, eU, eV, eW, eX, eY, eZ, fA, fB, fC, fD, fF, fG, fH, fI, fJ, fL, fM, fN, gU, gV, gW, gX, gY, gZ, hH, fO, fP, fQ, fR, fS, fT, fU, fV, fW, fX, fY, fZ, gA, iA, iB, iC, iD, iE, iF, iG, iH, iJ, iK, iL, iM, gB, gC, gD, gE, gF, gG, gH, dO, dP, dQ, dR, dS, dT, dU, dV, dW], []⟩ W := by
 obtain ⟨i29, hi29, hz0, hz1, hz2⟩ := info_parts info29
 have HS := hide hS
 have HQ := hide hQ
 have hkc : Kept W W := Below.refl _ _
 have hmb := hS.bnd
 obtain ⟨y0, hy0⟩ : ∃ y, itemS 1 10 0 false = y := ⟨_, rfl⟩
 have hit0 := item17n 1 10 0 false (by decide) y0 hy0
 obtain ⟨y1, hy1⟩ : ∃ y, itemS 1 0 9 false = y := ⟨_, rfl⟩
 have hit1 := item17n 1 0 9 false (by decide) y1 hy1
 obtain ⟨y2, hy2⟩ : ∃ y, itemS 1 1 (-5) true = y := ⟨_, rfl⟩
 have hit2 := item17n 1 1 (-5) true (by decide) y2 hy2
 obtain ⟨y3, hy3⟩ : ∃ y, itemS 1 7 9 false = y := ⟨_, rfl⟩
 have hit3 := item17n 1 7 9 false (by decide) y3 hy3
 obtain ⟨y4, hy4⟩ : ∃ y, itemS 1 11 0 false = y := ⟨_, rfl⟩
 have hit4 := item17n 1 11 0 false (by decide) y4 hy4
 have hyok : ∀ x ∈ [y0, y1, y2, y3, y4], x.ok := by
  intro x hx
  simp only [List.mem_cons, List.not_mem_nil, or_false] at hx
  rcases hx with rfl | rfl | rfl | rfl | rfl
  ·rw [← hy0]; exact (itemS_ok (by omega) (by omega)).2
  ·rw [← hy1]; exact (itemS_ok (by omega) (by omega)).2
  ·rw [← hy2]; exact (itemS_ok (by omega) (by omega)).2
  ·rw [← hy3]; exact (itemS_ok (by omega) (by omega)).2
  ·rw [← hy4]; exact (itemS_ok (by omega) (by omega)).2
 have Hy0 := hide hy0
 have Hy1 := hide hy1
 have Hy2 := hide hy2
 have Hy3 := hide hy3
 have Hy4 := hide hy4
 clear hy0 hy1 hy2 hy3 hy4
 have He := hide he
 have Hus := hide hus
 have Hul := hide hul
 have Hkd := hide hkd
 clear hS hQ he hus hul hkd
 conv => arg 2; whnf
 conv at hK => enter [a, w', 1, 2]; whnf
 conv at hK2 => enter [a, w', 1, 2]; whnf
 by_cases hb : w3 = 2
 ·have hgr : i2 w3 = [y0, y1, y2, y3, y4] := by unfold i2 betweenI; rw [if_pos hb, Hy0.out, Hy1.out, Hy2.out, Hy3.out, Hy4.out]
  have hbe : (w3 == 2) = true := by rw [hb]; rfl
  have Hgr := hide hgr
  clear hgr hb
  go_upto_region 14 with (first
   | (go_at_call 17; have hg0 := hkq3; refine (hit4 _).mono ?_; rintro e w5 ⟨rfl, hkq4⟩; replace hkc := hkc.trans' hkq4; try dsimp only)
   | (go_at_call 17; have hg0 := hkq2; refine (hit3 _).mono ?_; rintro e w5 ⟨rfl, hkq3⟩; replace hkc := hkc.trans' hkq3; try dsimp only)
   | (go_at_call 17; have hg0 := hkq1; refine (hit2 _).mono ?_; rintro e w5 ⟨rfl, hkq2⟩; replace hkc := hkc.trans' hkq2; try dsimp only)
   | (go_at_call 17; have hg0 := hkq0; refine (hit1 _).mono ?_; rintro e w5 ⟨rfl, hkq1⟩; replace hkc := hkc.trans' hkq1; try dsimp only)
   | (go_at_call 17; refine (hit0 _).mono ?_; rintro e w5 ⟨rfl, hkq0⟩; replace hkc := hkc.trans' hkq0; try dsimp only)
   | (at_builtin; refine wpList_append_sl (T := itT) rfl (.tmp 60) (.tmp 66) 22 rfl w.heap.size 29 i29 _ 24 Try.underlying22 hi29 hz0 hz1 hz2 rfl (by decide) _ m outL (by rfl) ((HS.out.ownm.kept hkc).alloc _) (some ⟨_, 0, none⟩) 5 5 [y0, y1, y2, y3, y4] (by rfl) (by exact sl_it_heap (heap_at _ rfl) rfl hyok ⟨by simp, fun e => by have h9 := ((HS.out.ownm.kept hkc).lt e).2; omega⟩) (by_one29 _ _) (by unfold maxLen; omega) (by omega) (by have h9 := HS.out.kept.size; have h8 := hkc.size; simp; omega) ?_; intro v9 w9 hown9 hg9 hb9 hat9))
  refine p14 (f := f) (w2 := w2) (w3 := w3) (((HS.out.keep hkc).keep ((Below.refl _ _).alloc (Nat.le_refl _) _)).grow hg9 hb9 hown9) h7 hba hin hfl Hkd.out hfi hmm Hus.out hw hway (by rw [← He.out, Hgr.out]; simp only [List.append_assoc]) hd (by simp only [List.length_cons, List.length_nil]; omega) hBF hd6 Hul.out hw3 hgreport hgcount hgsize hghi hglo _ _ _ ?_ ?_ HQ.out <;> assumption
 ·have hgr : i2 w3 = [] := by unfold i2; rw [if_neg hb]
  have hbe : (w3 == 2) = false := by simpa using hb
  have Hgr := hide hgr
  clear hgr hb
  go_upto_region 14 with fail
  refine p14 (f := f) (w2 := w2) (w3 := w3) HS.out h7 hba hin hfl Hkd.out hfi hmm Hus.out hw hway (by rw [← He.out, Hgr.out]; rfl) hd (by omega) hBF hd6 Hul.out hw3 hgreport hgcount hgsize hghi hglo _ _ _ ?_ ?_ HQ.out <;> assumption
noncomputable def after9i : Code := (Try.f18.body.bind (afterQ 9)).getD .skip
set_option maxRecDepth 1000000 in
theorem p9 {w W : World} {DB LB FB ba oa n cap m B BF i dd dfin : Nat} {nb : Bool} {way w3 w2 : Int} {mm : Nat} {fi : Int} {v vl vg : Value} {outL fin : List It} {l g : Fd} {us : List Int} {f : PF} (hS : IS w W DB LB FB nb (some ⟨ba, oa, none⟩) n cap m B v vl vg outL l g us) (h7 : w.cell? ⟨ba, oa + i * 8 + 7, none⟩ = some (.int .u8 f.flags)) (hba : ba < w.heap.size) (hin : (i : Int) < (n : Int)) (hfl : u8k f.flags) (hkd : g.kind = 1 ∨ g.kind = 2 ∨ g.kind = 3) (hfi : 0 ≤ fi ∧ fi < 256) (hmm : mm ≤ 5) (hus : usesI w2 f = if w2 = 0 then [itemS 2 1 fi false, itemS 2 2 (fi + (mm : Int)) false] else (List.range (mm + 1)).map fun (k : Nat) => itemS 2 0 (fi + (k : Int)) false) (hw : (way.tdiv 3).tmod 2 = w2) (hway : u8k way) (he : outL ++ (i1 f i dd ++ (i2 w3 ++ (i3 w3 i l g ++ (i4 w3 i l g ++ (i5 w3 i l g ++ (i6 w3 i l g ++ (i7 nb w3 i l g ++ (usesI w2 f ++ (i9 f g ++ i10 f (d1 f dd)))))))))) = fin) (hd : d2 f (d1 f dd) = dfin) (hB : B + 20 ≤ BF) (hBF : BF ≤ 900) (hd6 : dd ≤ 5) (hi20 : i < 20) (hul : us = (List.range (mm + 1)).map fun (q : Nat) => 458752 + fi + (q : Int)) (hw3 : way.tmod 3 = w3) (hgreport : 0 ≤ g.report ∧ g.report < 4294967296) (hgcount : 0 ≤ g.count ∧ g.count < 4294967296) (hgsize : 0 ≤ g.size ∧ g.size < 4294967296) (hghi : -32768 ≤ g.hi ∧ g.hi < 2147483648) (hglo : -32768 ≤ g.lo ∧ g.lo < 2147483648)
  (Q : Exit → Act → World → Prop) (K K2 : Act → World → Prop) (hK : ∀ a w', Code.wp Try.prog (restC code9i) (Exit.then K2 Q) a w' → K a w') (hK2 : ∀ a w', Code.wp Try.prog after9i Q a w' → K2 a w') (hQ : ∀ (tM tP tN tO rX rY rZ sA sB sD sE sF sG sH sI tB tC tD tE tF tG tH tI tJ tK tL sJ sK sL sM sN sO sP sQ sR sS sT oD rL rM rN rO rP rQ rR rS rT rU rV rW sU sV sW sX sY sZ tA qZ rA rB rC rD rE rF rG rH rI rJ rK jI lP lS lT lU lO lV lW kX kY kZ lA lB lC lE lG lH lI lJ lK lN lX lY mO mP mQ mR mS mA mB mD mE mF mG mH mI mJ mK mL mM mN mT oE oF oG oH oI oJ mU mV mW mX mY mZ nA nB nC nD nE nF nG nH nI nJ nK oK oL oM oN oO oP oQ oR oS oT oU oV oW oX oY oZ pA pB pC pD pE pF pG pH pI pJ pK pL pM pN pO pP pQ pR pS pT pU pV pW pX pY pZ qA qB qC qD nL nM nN nO nP nQ nR qE qF qG qH qI qJ qK qL qM qN qO qP qQ nS nT nU nV nW nX nY nZ oA oB oC qR qS qT qU qV qW qX qY : Value) (v' : Value) (m' : Nat) (w' : World), IS w w' DB LB FB nb (some ⟨ba, oa, none⟩) n cap m' BF v' vg vg fin g g us → Q .normal ⟨#[u0, .int .u8 way, .pointer (some ⟨DB, 0, none⟩), u3, u4, v', .int .i64 (dfin : Int), .pointer (some ⟨LB, 0, none⟩), .int .i64 (i : Int), .pointer (some ⟨FB, 0, none⟩), tM, tP, tN, tO, eG, eH, u16, eE, eF, dX, dY, dZ, eA, eB, eC, eD, eI, eJ, eK, eL, eM, eN, u32, eO, eP, rX, rY, rZ, sA, sB, sD, sE, sF, sG, sH, sI, tB, tC, tD, tE, tF, tG, tH, tI, tJ, tK, tL, sJ, sK, sL, sM, sN, sO, sP, sQ, sR, sS, sT, oD, rL, rM, rN, rO, rP, rQ, rR, rS, rT, rU, rV, rW, sU, sV, sW, sX, sY, sZ, tA, qZ, rA, rB, rC, rD, rE, rF, rG, rH, rI, rJ, rK, jI, lP, lS, lT, lU, lO, lV, lW, kX, kY, kZ, lA, lB, lC, lE, lG, lH, lI, lJ, lK, lN, lX, lY, mO, mP, mQ, mR, mS, mA, mB, mD, mE, mF, mG, mH, mI, mJ, mK, mL, mM, mN, mT, oE, oF, oG, oH, oI, oJ, mU, mV, mW, mX, mY, mZ, nA, nB, nC, nD, nE, nF, nG, nH, nI, nJ, nK, oK, oL, oM, oN, oO, oP, oQ, oR, oS, oT, oU, oV, oW, oX, oY, oZ, pA, pB, pC, pD, pE, pF, pG, pH, pI, pJ, pK, pL, pM, pN, pO, pP, pQ, pR, pS, pT, pU, pV, pW, pX, pY, pZ, qA, qB, qC, qD, nL, nM, nN, nO, nP, nQ, nR, qE, qF, qG, qH, qI, qJ, qK, qL, qM, qN, qO, qP, qQ, nS, nT, nU, nV, nW, nX, nY, nZ, oA, oB, oC, qR, qS, qT, qU, qV, qW, qX, qY, dO, dP, dQ, dR, dS, dT, dU, dV, dW], []⟩ w') :
  Code.wp Try.prog (headC code9i) (Exit.then K (Exit.then K2 Q)) ⟨#[u0, .int .u8 way, .pointer (some ⟨DB, 0, none⟩), u3, u4, v, .int .i64 (dd : Int), .pointer (some ⟨LB, 0, none⟩), .int .i64 (i : Int), .pointer (some ⟨FB, 0, none⟩), gI, kI, gJ, jY, eG, eH, u16, eE, eF, dX, dY, dZ, eA, eB, eC, eD, eI, eJ, eK, eL, eM, eN, u32, eO, eP, iN, iO, iP, iQ, iR, fK, iS, iT, iU, iV, iW, iX, gK, gL, gM, gN, gO, gP, gQ, gR, gS, gT, iY, iZ, jA, jB, jC, jD, jE, u64, jF, jG, jH, jJ, jK, jL, jM, jN, jO, jP, jQ, jR, jZ, kE, kF, kG, kH, jS, jT, jU, jV, jW, jX, kJ, kK, kM, kN, kO, kP, kQ, kR, kS, kT, kU, kV, aK, aG, aA, aB, aC, aD, aE, aF, aH, aI, aJ, aL, bC, bD, bE, bF, bG, bH, bI, bJ, bK, bL, aR, aM, aN, aO, aP, aQ, aS, aT, aU, aV, aW, aX, aY, aZ, bA, bM, bN, bP, bQ, bS, bR, bT, bU, bV, bW, bX, cW, cX, cY, cZ, dA, dB, dC, dD, dE, dF, dG, dH, dI, dJ, dK, dL, dM, dN, bY, bZ, cA, cB, cC, cD, cE, cF, cG, cH, cI, cJ, cK, cM, cN, cO, cP, cQ, cR, cS, cT, cU, cV, eQ, eR, eS, eT, eU, eV, eW, eX, eY, eZ, fA, fB, fC, fD, fF, fG, fH, fI, fJ, fL, fM, fN, gU, gV, gW, gX, gY, gZ, hH, fO, fP, fQ, fR, fS, fT, fU, fV, fW, fX, fY, fZ, gA, iA, iB, iC, iD, iE, iF, iG, iH, iJ, iK, iL, iM, gB, gC, gD, gE, gF, gG, gH, dO, dP, dQ, dR, dS, dT, dU, dV, dW], []⟩ W := by
 have hk0 := hS.kept
 obtain ⟨i4, hi4⟩ : ∃ z : Nat, i % 4 = z := ⟨_, rfl⟩
 have hi44 : i4 < 4 := by omega
 have hmi : (i : Int).tmod 4 = (i4 : Int) := by rw [Int.tmod_eq_emod_of_nonneg (by omega)]; omega
 obtain ⟨i29, hi29, hz0, hz1, hz2⟩ := info_parts info29
 have HS := hide hS
 have HQ := hide hQ
 have hkc : Kept W W := Below.refl _ _
 have hmb := hS.bnd
 obtain ⟨y0, hy0⟩ : ∃ y, itemS 2 0 (i : Int) false = y := ⟨_, rfl⟩
 have hit0 := item17n 2 0 (i : Int) false (show 0 ≤ (i : Int) ∧ (i : Int) < 4294967296 by omega) y0 hy0
 obtain ⟨y1, hy1⟩ : ∃ y, itemS 0 10 (i4 : Int) false = y := ⟨_, rfl⟩
 have hit1 := item17n 0 10 (i4 : Int) false (show 0 ≤ (i4 : Int) ∧ (i4 : Int) < 4294967296 by omega) y1 hy1
 have hyok : ∀ x ∈ [y0, y1], x.ok := by
  intro x hx
  simp only [List.mem_cons, List.not_mem_nil, or_false] at hx
  rcases hx with rfl | rfl
  ·rw [← hy0]; exact (itemS_ok (by omega) (by omega)).2
  ·rw [← hy1]; exact (itemS_ok (by omega) (by omega)).2
 have Hy0 := hide hy0
 have Hy1 := hide hy1
 clear hy0 hy1
 have hD := hS.dbox
 have h7W := (hk0.cell (p := ⟨ba, oa + i * 8 + 7, none⟩) hba).trans h7
 have hbaW := Nat.lt_of_lt_of_le hba hk0.size
 have He := hide he
 have Hus := hide hus
 have Hul := hide hul
 have Hkd := hide hkd
 have Hi4 := hide hi4
 clear hS hQ he hus hul hkd hi4
 conv => arg 2; whnf
 conv at hK => enter [a, w', 1, 2]; whnf
 conv at hK2 => enter [a, w', 1, 2]; whnf
 refine ask_9 hD h7W hbaW hin hfl _ ?_
 intro rX rY rZ sA sB sD sE sF sG sH sI
 clear hD h7W hbaW
 cases hb : beginsB f dd with
 | true =>
  have hd1 : d1 f dd = dd + 1 := by unfold d1; rw [hb]; rfl
  have hgr : i1 f i dd = [y0, y1] := by unfold i1 beginI; rw [hb, Hi4.out, Hy0.out, Hy1.out]; rfl
  have hdd : dd < 5 := by
   unfold beginsB at hb
   simp only [Bool.and_eq_true, decide_eq_true_eq] at hb
   exact hb.2
  have hwd : IntKind.i64.wrap ((dd : Int) + 1) = ((dd + 1 : Nat) : Int) := by rw [IntKind.wrap_i64]; omega
  have he2 := He.out
  rw [hd1] at hd he2
  have Hgr := hide hgr
  have He2 := hide he2
  have Hdd := hide hdd
  have Hd := hide hd
  clear hgr hb hd1 he2 hdd He hd
  go_upto_region 12 with (first
   | (go_at_call 17; have hg0 := hkq0; refine (hit1 _).mono ?_; rintro e w5 ⟨rfl, hkq1⟩; replace hkc := hkc.trans' hkq1; try dsimp only)
   | (go_at_call 17; refine (hit0 _).mono ?_; rintro e w5 ⟨rfl, hkq0⟩; replace hkc := hkc.trans' hkq0; try dsimp only)
   | (at_builtin; refine wpList_append_sl (T := itT) rfl (.tmp 47) (.tmp 53) 22 rfl w.heap.size 29 i29 _ 24 Try.underlying22 hi29 hz0 hz1 hz2 rfl (by decide) _ m outL (by rfl) ((HS.out.ownm.kept hkc).alloc _) (some ⟨_, 0, none⟩) 2 2 [y0, y1] (by rfl) (by exact sl_it_heap (heap_at _ rfl) rfl hyok ⟨by simp, fun e => by have h9 := ((HS.out.ownm.kept hkc).lt e).2; omega⟩) (by_one29 _ _) (by unfold maxLen; omega) (by omega) (by have h9 := HS.out.kept.size; have h8 := hkc.size; simp; omega) ?_; intro v9 w9 hown9 hg9 hb9 hat9))
  refine p12 (f := f) (w2 := w2) (w3 := w3) (dd := dd + 1) (((HS.out.keep hkc).keep ((Below.refl _ _).alloc (Nat.le_refl _) _)).grow hg9 hb9 hown9) h7 hba hin hfl Hkd.out hfi hmm Hus.out hw hway (by rw [← He2.out, Hgr.out]; simp only [List.append_assoc]) Hd.out (by simp only [List.length_cons, List.length_nil]; omega) hBF (by have := Hdd.out; omega) Hul.out hw3 hgreport hgcount hgsize hghi hglo _ _ _ ?_ ?_ HQ.out <;> assumption
 | false =>
  have hd1 : d1 f dd = dd := by unfold d1; rw [hb]; rfl
  have hgr : i1 f i dd = [] := by unfold i1; rw [hb]; rfl
  have he2 := He.out
  rw [hd1] at hd he2
  have Hgr := hide hgr
  have He2 := hide he2
  have Hd := hide hd
  clear hgr hb hd1 he2 He hd
  go_upto_region 12 with fail
  refine p12 (f := f) (w2 := w2) (w3 := w3) HS.out h7 hba hin hfl Hkd.out hfi hmm Hus.out hw hway (by rw [← He2.out, Hgr.out]; rfl) Hd.out (by omega) hBF (by omega) Hul.out hw3 hgreport hgcount hgsize hghi hglo _ _ _ ?_ ?_ HQ.out <;> assumption
end Go.Proofs.Ytegdigfcgeoboaa
