/- The law of the chapter on reports, part 21: Wh Wi Wj Wk. -/
import Derived.Test.YtegdigfcgeoboaaK19
set_option maxHeartbeats 16000000
set_option linter.unusedVariables false
set_option linter.unusedSimpArgs false
set_option linter.unusedSectionVars false
namespace Go.Proofs.Ytegdigfcgeoboaa
open Go.RowKit
attribute [local go_sem ↓] Go.wp_at_zero Go.wp_at_succ
variable {u0 u1 u3 u4 u5 u7 u9 gI kI gJ jY eG eH u16 eE eF dX dY dZ eA eB eC eD eI eJ eK eL eM eN u32 eO eP iN iO iP iQ iR fK iS iT iU iV iW iX gK gL gM gN gO gP gQ gR gS gT iY iZ jA jB jC jD jE u64 jF jG jH jJ jK jL jM jN jO jP jQ jR jZ kE kF kG kH jS jT jU jV jW jX kJ kK kM kN kO kP kQ kR kS kT kU kV aK aG aA aB aC aD aE aF aH aI aJ aL bC bD bE bF bG bH bI bJ bK bL aR aM aN aO aP aQ aS aT aU aV aW aX aY aZ bA bM bN bP bQ bS bR bT bU bV bW bX cW cX cY cZ dA dB dC dD dE dF dG dH dI dJ dK dL dM dN bY bZ cA cB cC cD cE cF cG cH cI cJ cK cM cN cO cP cQ cR cS cT cU cV eQ eR eS eT eU eV eW eX eY eZ fA fB fC fD fF fG fH fI fJ fL fM fN gU gV gW gX gY gZ hH fO fP fQ fR fS fT fU fV fW fX fY fZ gA iA iB iC iD iE iF iG iH iJ iK iL iM gB gC gD gE gF gG gH dO dP dQ dR dS dT dU dV dW : Value}
noncomputable def code33i : Code := (Try.f18.body.bind (findQ 33)).getD .skip
set_option maxRecDepth 1000000 in
theorem ask_33 {W : World} {DB ba oa i n cap dd : Nat} {nb : Bool} {f : PF} (hD : W.heap[DB]? = some (.cells #[.bool nb, .slice (some ⟨ba, oa, none⟩) n cap] 52 (0, 0))) (h7 : W.cell? ⟨ba, oa + i * 8 + 7, none⟩ = some (.int .u8 f.flags)) (hba : ba < W.heap.size) (hin : (i : Int) < (n : Int)) (hfl : u8k f.flags)
  (Q : Exit → Act → World → Prop) (hQ : ∀ (nS nT nU nV nW nX nY nZ oA oB oC : Value), Q .normal ⟨#[u0, u1, .pointer (some ⟨DB, 0, none⟩), u3, u4, u5, .int .i64 (dd : Int), u7, .int .i64 (i : Int), u9, gI, kI, gJ, jY, eG, eH, u16, eE, eF, dX, dY, dZ, eA, eB, eC, eD, eI, eJ, eK, eL, eM, eN, u32, eO, eP, iN, iO, iP, iQ, iR, fK, iS, iT, iU, iV, iW, iX, gK, gL, gM, gN, gO, gP, gQ, gR, gS, gT, iY, iZ, jA, jB, jC, jD, jE, u64, jF, jG, jH, jJ, jK, jL, jM, jN, jO, jP, jQ, jR, jZ, kE, kF, kG, kH, jS, jT, jU, jV, jW, jX, kJ, kK, kM, kN, kO, kP, kQ, kR, kS, kT, kU, kV, aK, aG, aA, aB, aC, aD, aE, aF, aH, aI, aJ, aL, bC, bD, bE, bF, bG, bH, bI, bJ, bK, bL, aR, aM, aN, aO, aP, aQ, aS, aT, aU, aV, aW, aX, aY, aZ, bA, bM, bN, bP, bQ, bS, bR, bT, bU, bV, bW, bX, cW, cX, cY, cZ, dA, dB, dC, dD, dE, dF, dG, dH, dI, dJ, dK, dL, dM, dN, bY, bZ, cA, cB, cC, cD, cE, cF, cG, cH, cI, cJ, cK, cM, cN, cO, cP, cQ, cR, cS, cT, cU, cV, eQ, eR, eS, eT, eU, eV, eW, eX, eY, eZ, fA, fB, fC, fD, fF, fG, fH, fI, fJ, fL, fM, fN, gU, gV, gW, gX, gY, gZ, hH, fO, fP, fQ, fR, fS, fT, fU, fV, fW, fX, fY, fZ, gA, nS, nT, nU, nV, nW, nX, nY, nZ, oA, oB, oC, .bool (endsB f dd), gB, gC, gD, gE, gF, gG, gH, dO, dP, dQ, dR, dS, dT, dU, dV, dW], []⟩ W) :
  Code.wp Try.prog (headC code33i) Q ⟨#[u0, u1, .pointer (some ⟨DB, 0, none⟩), u3, u4, u5, .int .i64 (dd : Int), u7, .int .i64 (i : Int), u9, gI, kI, gJ, jY, eG, eH, u16, eE, eF, dX, dY, dZ, eA, eB, eC, eD, eI, eJ, eK, eL, eM, eN, u32, eO, eP, iN, iO, iP, iQ, iR, fK, iS, iT, iU, iV, iW, iX, gK, gL, gM, gN, gO, gP, gQ, gR, gS, gT, iY, iZ, jA, jB, jC, jD, jE, u64, jF, jG, jH, jJ, jK, jL, jM, jN, jO, jP, jQ, jR, jZ, kE, kF, kG, kH, jS, jT, jU, jV, jW, jX, kJ, kK, kM, kN, kO, kP, kQ, kR, kS, kT, kU, kV, aK, aG, aA, aB, aC, aD, aE, aF, aH, aI, aJ, aL, bC, bD, bE, bF, bG, bH, bI, bJ, bK, bL, aR, aM, aN, aO, aP, aQ, aS, aT, aU, aV, aW, aX, aY, aZ, bA, bM, bN, bP, bQ, bS, bR, bT, bU, bV, bW, bX, cW, cX, cY, cZ, dA, dB, dC, dD, dE, dF, dG, dH, dI, dJ, dK, dL, dM, dN, bY, bZ, cA, cB, cC, cD, cE, cF, cG, cH, cI, cJ, cK, cM, cN, cO, cP, cQ, cR, cS, cT, cU, cV, eQ, eR, eS, eT, eU, eV, eW, eX, eY, eZ, fA, fB, fC, fD, fF, fG, fH, fI, fJ, fL, fM, fN, gU, gV, gW, gX, gY, gZ, hH, fO, fP, fQ, fR, fS, fT, fU, fV, fW, fX, fY, fZ, gA, iA, iB, iC, iD, iE, iF, iG, iH, iJ, iK, iL, iM, gB, gC, gD, gE, gF, gG, gH, dO, dP, dQ, dR, dS, dT, dU, dV, dW], []⟩ W := by
 have d1 : W.cell? ⟨DB, 1, none⟩ = some (.slice (some ⟨ba, oa, none⟩) n cap) := cell_heap hD (o := 1) rfl
 have lD := heap_lt hD
 have hi0 : (0 : Int) ≤ (i : Int) := by omega
 obtain ⟨r, hr⟩ : ∃ r, (endsB f dd) = r := ⟨_, rfl⟩
 rw [hr] at hQ
 have HQ := hide hQ
 clear hQ hD
 unfold endsB at hr
 obtain ⟨c1, hc1⟩ : ∃ c, (f.flags / 16 % 2 == 1) = c := ⟨_, rfl⟩
 obtain ⟨c2, hc2⟩ : ∃ c, decide (1 < dd) = c := ⟨_, rfl⟩
 rw [hc1, hc2] at hr
 have n1 : (bits .and .u8 f.flags 16 != 0) = c1 := by rw [bits16 hfl, ← hc1]; rcases (show f.flags / 16 % 2 = 0 ∨ f.flags / 16 % 2 = 1 by omega) with e | e <;> rw [e] <;> rfl
 have n1' : (bits .and .u8 f.flags 16 == 0) = !c1 := by rw [← n1]; simp [bne]
 have n2 : decide (1 < (dd : Int)) = c2 := by rw [← hc2]; congr 1; exact propext (by omega)
 clear hc1 hc2
 conv => arg 2; whnf
 cases c1 with
 | false =>
  subst hr
  go_wp2_with fail
  exact HQ.out _ _ _ _ _ _ _ _ _ _ _ 
 | true =>
 cases c2 with
 | true =>
  have n3 : 1 < (dd : Int) := of_decide_eq_true n2
  subst hr
  go_wp2_with fail
  exact HQ.out _ _ _ _ _ _ _ _ _ _ _ 
 | false =>
  have n3 : ¬ (1 < (dd : Int)) := of_decide_eq_false n2
  subst hr
  go_wp2_with fail
  exact HQ.out _ _ _ _ _ _ _ _ _ _ _ 
noncomputable def code9i : Code := (Try.f18.body.bind (findQ 9)).getD .skip
set_option maxRecDepth 1000000 in
theorem ask_9 {W : World} {DB ba oa i n cap dd : Nat} {nb : Bool} {f : PF} (hD : W.heap[DB]? = some (.cells #[.bool nb, .slice (some ⟨ba, oa, none⟩) n cap] 52 (0, 0))) (h7 : W.cell? ⟨ba, oa + i * 8 + 7, none⟩ = some (.int .u8 f.flags)) (hba : ba < W.heap.size) (hin : (i : Int) < (n : Int)) (hfl : u8k f.flags)
  (Q : Exit → Act → World → Prop) (hQ : ∀ (rX rY rZ sA sB sD sE sF sG sH sI : Value), Q .normal ⟨#[u0, u1, .pointer (some ⟨DB, 0, none⟩), u3, u4, u5, .int .i64 (dd : Int), u7, .int .i64 (i : Int), u9, gI, kI, gJ, jY, eG, eH, u16, eE, eF, dX, dY, dZ, eA, eB, eC, eD, eI, eJ, eK, eL, eM, eN, u32, eO, eP, rX, rY, rZ, sA, sB, sD, sE, sF, sG, sH, sI, .bool (beginsB f dd), gK, gL, gM, gN, gO, gP, gQ, gR, gS, gT, iY, iZ, jA, jB, jC, jD, jE, u64, jF, jG, jH, jJ, jK, jL, jM, jN, jO, jP, jQ, jR, jZ, kE, kF, kG, kH, jS, jT, jU, jV, jW, jX, kJ, kK, kM, kN, kO, kP, kQ, kR, kS, kT, kU, kV, aK, aG, aA, aB, aC, aD, aE, aF, aH, aI, aJ, aL, bC, bD, bE, bF, bG, bH, bI, bJ, bK, bL, aR, aM, aN, aO, aP, aQ, aS, aT, aU, aV, aW, aX, aY, aZ, bA, bM, bN, bP, bQ, bS, bR, bT, bU, bV, bW, bX, cW, cX, cY, cZ, dA, dB, dC, dD, dE, dF, dG, dH, dI, dJ, dK, dL, dM, dN, bY, bZ, cA, cB, cC, cD, cE, cF, cG, cH, cI, cJ, cK, cM, cN, cO, cP, cQ, cR, cS, cT, cU, cV, eQ, eR, eS, eT, eU, eV, eW, eX, eY, eZ, fA, fB, fC, fD, fF, fG, fH, fI, fJ, fL, fM, fN, gU, gV, gW, gX, gY, gZ, hH, fO, fP, fQ, fR, fS, fT, fU, fV, fW, fX, fY, fZ, gA, iA, iB, iC, iD, iE, iF, iG, iH, iJ, iK, iL, iM, gB, gC, gD, gE, gF, gG, gH, dO, dP, dQ, dR, dS, dT, dU, dV, dW], []⟩ W) :
  Code.wp Try.prog (headC code9i) Q ⟨#[u0, u1, .pointer (some ⟨DB, 0, none⟩), u3, u4, u5, .int .i64 (dd : Int), u7, .int .i64 (i : Int), u9, gI, kI, gJ, jY, eG, eH, u16, eE, eF, dX, dY, dZ, eA, eB, eC, eD, eI, eJ, eK, eL, eM, eN, u32, eO, eP, iN, iO, iP, iQ, iR, fK, iS, iT, iU, iV, iW, iX, gK, gL, gM, gN, gO, gP, gQ, gR, gS, gT, iY, iZ, jA, jB, jC, jD, jE, u64, jF, jG, jH, jJ, jK, jL, jM, jN, jO, jP, jQ, jR, jZ, kE, kF, kG, kH, jS, jT, jU, jV, jW, jX, kJ, kK, kM, kN, kO, kP, kQ, kR, kS, kT, kU, kV, aK, aG, aA, aB, aC, aD, aE, aF, aH, aI, aJ, aL, bC, bD, bE, bF, bG, bH, bI, bJ, bK, bL, aR, aM, aN, aO, aP, aQ, aS, aT, aU, aV, aW, aX, aY, aZ, bA, bM, bN, bP, bQ, bS, bR, bT, bU, bV, bW, bX, cW, cX, cY, cZ, dA, dB, dC, dD, dE, dF, dG, dH, dI, dJ, dK, dL, dM, dN, bY, bZ, cA, cB, cC, cD, cE, cF, cG, cH, cI, cJ, cK, cM, cN, cO, cP, cQ, cR, cS, cT, cU, cV, eQ, eR, eS, eT, eU, eV, eW, eX, eY, eZ, fA, fB, fC, fD, fF, fG, fH, fI, fJ, fL, fM, fN, gU, gV, gW, gX, gY, gZ, hH, fO, fP, fQ, fR, fS, fT, fU, fV, fW, fX, fY, fZ, gA, iA, iB, iC, iD, iE, iF, iG, iH, iJ, iK, iL, iM, gB, gC, gD, gE, gF, gG, gH, dO, dP, dQ, dR, dS, dT, dU, dV, dW], []⟩ W := by
 have d1 : W.cell? ⟨DB, 1, none⟩ = some (.slice (some ⟨ba, oa, none⟩) n cap) := cell_heap hD (o := 1) rfl
 have lD := heap_lt hD
 have hi0 : (0 : Int) ≤ (i : Int) := by omega
 obtain ⟨r, hr⟩ : ∃ r, (beginsB f dd) = r := ⟨_, rfl⟩
 rw [hr] at hQ
 have HQ := hide hQ
 clear hQ hD
 unfold beginsB at hr
 obtain ⟨c1, hc1⟩ : ∃ c, (f.flags / 8 % 2 == 1) = c := ⟨_, rfl⟩
 obtain ⟨c2, hc2⟩ : ∃ c, decide (dd < 5) = c := ⟨_, rfl⟩
 rw [hc1, hc2] at hr
 have n1 : (bits .and .u8 f.flags 8 != 0) = c1 := by rw [bits8 hfl, ← hc1]; rcases (show f.flags / 8 % 2 = 0 ∨ f.flags / 8 % 2 = 1 by omega) with e | e <;> rw [e] <;> rfl
 have n1' : (bits .and .u8 f.flags 8 == 0) = !c1 := by rw [← n1]; simp [bne]
 have n2 : decide ((dd : Int) < 5) = c2 := by rw [← hc2]; congr 1; exact propext (by omega)
 clear hc1 hc2
 conv => arg 2; whnf
 cases c1 with
 | false =>
  subst hr
  go_wp2_with fail
  exact HQ.out _ _ _ _ _ _ _ _ _ _ _ 
 | true =>
 cases c2 with
 | true =>
  have n3 : (dd : Int) < 5 := of_decide_eq_true n2
  subst hr
  go_wp2_with fail
  exact HQ.out _ _ _ _ _ _ _ _ _ _ _ 
 | false =>
  have n3 : ¬ ((dd : Int) < 5) := of_decide_eq_false n2
  subst hr
  go_wp2_with fail
  exact HQ.out _ _ _ _ _ _ _ _ _ _ _ 
noncomputable def after33i : Code := (Try.f18.body.bind (afterQ 33)).getD .skip
set_option maxRecDepth 1000000 in
theorem p33 {w W : World} {DB LB FB ba oa n cap m B BF i dd dfin : Nat} {nb : Bool} {way w3 w2 : Int} {v vl vg : Value} {outL fin : List It} {l g : Fd} {us : List Int} {f : PF} (hS : IS w W DB LB FB nb (some ⟨ba, oa, none⟩) n cap m B v vl vg outL l g us) (h7 : w.cell? ⟨ba, oa + i * 8 + 7, none⟩ = some (.int .u8 f.flags)) (hba : ba < w.heap.size) (hin : (i : Int) < (n : Int)) (hfl : u8k f.flags) (he : outL ++ i10 f dd = fin) (hd : d2 f dd = dfin) (hB : B + 1 ≤ BF) (hBF : BF ≤ 900) (hd6 : dd ≤ 6)
  (Q : Exit → Act → World → Prop) (K K2 : Act → World → Prop) (hK : ∀ a w', Code.wp Try.prog (restC code33i) (Exit.then K2 Q) a w' → K a w') (hK2 : ∀ a w', Code.wp Try.prog after33i Q a w' → K2 a w') (hQ : ∀ (tM tP tN tO rX rY rZ sA sB sD sE sF sG sH sI tB tC tD tE tF tG tH tI tJ tK tL sJ sK sL sM sN sO sP sQ sR sS sT oD rL rM rN rO rP rQ rR rS rT rU rV rW sU sV sW sX sY sZ tA qZ rA rB rC rD rE rF rG rH rI rJ rK jI lP lS lT lU lO lV lW kX kY kZ lA lB lC lE lG lH lI lJ lK lN lX lY mO mP mQ mR mS mA mB mD mE mF mG mH mI mJ mK mL mM mN mT oE oF oG oH oI oJ mU mV mW mX mY mZ nA nB nC nD nE nF nG nH nI nJ nK oK oL oM oN oO oP oQ oR oS oT oU oV oW oX oY oZ pA pB pC pD pE pF pG pH pI pJ pK pL pM pN pO pP pQ pR pS pT pU pV pW pX pY pZ qA qB qC qD nL nM nN nO nP nQ nR qE qF qG qH qI qJ qK qL qM qN qO qP qQ nS nT nU nV nW nX nY nZ oA oB oC qR qS qT qU qV qW qX qY : Value) (v' : Value) (m' : Nat) (w' : World), IS w w' DB LB FB nb (some ⟨ba, oa, none⟩) n cap m' BF v' vg vg fin g g us → Q .normal ⟨#[u0, .int .u8 way, .pointer (some ⟨DB, 0, none⟩), u3, u4, v', .int .i64 (dfin : Int), .pointer (some ⟨LB, 0, none⟩), .int .i64 (i : Int), .pointer (some ⟨FB, 0, none⟩), tM, tP, tN, tO, eG, eH, u16, eE, eF, dX, dY, dZ, eA, eB, eC, eD, eI, eJ, eK, eL, eM, eN, u32, eO, eP, rX, rY, rZ, sA, sB, sD, sE, sF, sG, sH, sI, tB, tC, tD, tE, tF, tG, tH, tI, tJ, tK, tL, sJ, sK, sL, sM, sN, sO, sP, sQ, sR, sS, sT, oD, rL, rM, rN, rO, rP, rQ, rR, rS, rT, rU, rV, rW, sU, sV, sW, sX, sY, sZ, tA, qZ, rA, rB, rC, rD, rE, rF, rG, rH, rI, rJ, rK, jI, lP, lS, lT, lU, lO, lV, lW, kX, kY, kZ, lA, lB, lC, lE, lG, lH, lI, lJ, lK, lN, lX, lY, mO, mP, mQ, mR, mS, mA, mB, mD, mE, mF, mG, mH, mI, mJ, mK, mL, mM, mN, mT, oE, oF, oG, oH, oI, oJ, mU, mV, mW, mX, mY, mZ, nA, nB, nC, nD, nE, nF, nG, nH, nI, nJ, nK, oK, oL, oM, oN, oO, oP, oQ, oR, oS, oT, oU, oV, oW, oX, oY, oZ, pA, pB, pC, pD, pE, pF, pG, pH, pI, pJ, pK, pL, pM, pN, pO, pP, pQ, pR, pS, pT, pU, pV, pW, pX, pY, pZ, qA, qB, qC, qD, nL, nM, nN, nO, nP, nQ, nR, qE, qF, qG, qH, qI, qJ, qK, qL, qM, qN, qO, qP, qQ, nS, nT, nU, nV, nW, nX, nY, nZ, oA, oB, oC, qR, qS, qT, qU, qV, qW, qX, qY, dO, dP, dQ, dR, dS, dT, dU, dV, dW], []⟩ w') :
  Code.wp Try.prog (headC code33i) (Exit.then K (Exit.then K2 Q)) ⟨#[u0, .int .u8 way, .pointer (some ⟨DB, 0, none⟩), u3, u4, v, .int .i64 (dd : Int), .pointer (some ⟨LB, 0, none⟩), .int .i64 (i : Int), .pointer (some ⟨FB, 0, none⟩), gI, kI, gJ, jY, eG, eH, u16, eE, eF, dX, dY, dZ, eA, eB, eC, eD, eI, eJ, eK, eL, eM, eN, u32, eO, eP, iN, iO, iP, iQ, iR, fK, iS, iT, iU, iV, iW, iX, gK, gL, gM, gN, gO, gP, gQ, gR, gS, gT, iY, iZ, jA, jB, jC, jD, jE, u64, jF, jG, jH, jJ, jK, jL, jM, jN, jO, jP, jQ, jR, jZ, kE, kF, kG, kH, jS, jT, jU, jV, jW, jX, kJ, kK, kM, kN, kO, kP, kQ, kR, kS, kT, kU, kV, aK, aG, aA, aB, aC, aD, aE, aF, aH, aI, aJ, aL, bC, bD, bE, bF, bG, bH, bI, bJ, bK, bL, aR, aM, aN, aO, aP, aQ, aS, aT, aU, aV, aW, aX, aY, aZ, bA, bM, bN, bP, bQ, bS, bR, bT, bU, bV, bW, bX, cW, cX, cY, cZ, dA, dB, dC, dD, dE, dF, dG, dH, dI, dJ, dK, dL, dM, dN, bY, bZ, cA, cB, cC, cD, cE, cF, cG, cH, cI, cJ, cK, cM, cN, cO, cP, cQ, cR, cS, cT, cU, cV, eQ, eR, eS, eT, eU, eV, eW, eX, eY, eZ, fA, fB, fC, fD, fF, fG, fH, fI, fJ, fL, fM, fN, gU, gV, gW, gX, gY, gZ, hH, fO, fP, fQ, fR, fS, fT, fU, fV, fW, fX, fY, fZ, gA, iA, iB, iC, iD, iE, iF, iG, iH, iJ, iK, iL, iM, gB, gC, gD, gE, gF, gG, gH, dO, dP, dQ, dR, dS, dT, dU, dV, dW], []⟩ W := by
 have hk0 := hS.kept
 obtain ⟨i29, hi29, hz0, hz1, hz2⟩ := info_parts info29
 have HS := hide hS
 have HQ := hide hQ
 have hkc : Kept W W := Below.refl _ _
 have hmb := hS.bnd
 obtain ⟨y0, hy0⟩ : ∃ y, itemS 0 12 0 false = y := ⟨_, rfl⟩
 have hit0 := item17n 0 12 0 false (by decide) y0 hy0
 have hyok : ∀ x ∈ [y0], x.ok := by
  intro x hx
  simp only [List.mem_cons, List.not_mem_nil, or_false] at hx
  rcases hx with rfl
  ·rw [← hy0]; exact (itemS_ok (by omega) (by omega)).2
 have Hy0 := hide hy0
 clear hy0
 have hD := hS.dbox
 have h7W := (hk0.cell (p := ⟨ba, oa + i * 8 + 7, none⟩) hba).trans h7
 have hbaW := Nat.lt_of_lt_of_le hba hk0.size
 clear hS hQ
 conv => arg 2; whnf
 conv at hK => enter [a, w', 1, 2]; whnf
 conv at hK2 => enter [a, w', 1, 2]; whnf
 refine ask_33 hD h7W hbaW hin hfl _ ?_
 intro nS nT nU nV nW nX nY nZ oA oB oC
 clear hD h7W hbaW
 cases hb : endsB f dd with
 | true =>
  unfold i10 at he
  unfold d2 at hd
  rw [hb] at he hd
  simp only [if_true] at he hd
  have hdd : 1 < dd := by
   unfold endsB at hb
   simp only [Bool.and_eq_true, decide_eq_true_eq] at hb
   exact hb.2
  have hwd : IntKind.i64.wrap ((dd : Int) - 1) = (dfin : Int) := by rw [IntKind.wrap_i64]; omega
  go_upto_region 36 with (first
   | (go_at_call 17; refine (hit0 _).mono ?_; rintro e w5 ⟨rfl, hkq0⟩; replace hkc := hkc.trans' hkq0; try dsimp only)
   | (at_builtin; refine wpList_append_sl (T := itT) rfl (.tmp 243) (.tmp 245) 22 rfl w.heap.size 29 i29 _ 24 Try.underlying22 hi29 hz0 hz1 hz2 rfl (by decide) _ m outL (by rfl) ((HS.out.ownm.kept hkc).alloc _) (some ⟨_, 0, none⟩) 1 1 [y0] (by rfl) (by exact sl_it_heap (heap_at _ rfl) rfl hyok ⟨by simp, fun e => by have h9 := ((HS.out.ownm.kept hkc).lt e).2; omega⟩) (by_one29 _ _) (by unfold maxLen; omega) (by omega) (by have h9 := HS.out.kept.size; have h8 := hkc.size; simp; omega) ?_; intro v9 w9 hown9 hg9 hb9 hat9))
  refine p36 (f := f) (w2 := w2) (w3 := w3) (dd := dd) (((HS.out.keep hkc).keep ((Below.refl _ _).alloc (Nat.le_refl _) _)).grow hg9 hb9 hown9) (by rw [← he]; unfold endI; rw [Hy0.out]) (by simp only [List.length_cons, List.length_nil]; omega) _ HQ.out
 | false =>
  unfold i10 at he
  unfold d2 at hd
  rw [hb] at he hd
  simp only [Bool.false_eq_true, if_false] at he hd
  subst hd
  go_upto_region 36 with fail
  refine p36 (f := f) (w2 := w2) (w3 := w3) (dd := dd) HS.out (by rw [← he]; simp) (by omega) _ HQ.out
variable {u2 u6 u8 : Value}
noncomputable def code31i : Code := (Try.f18.body.bind (findQ 31)).getD .skip
set_option maxRecDepth 1000000 in
theorem tag_31 {W : World} {FB : Nat} {kd : Int} (h0 : W.cell? ⟨FB, 0, none⟩ = some (.int .u8 kd)) (lF : FB < W.heap.size) (hk : kd = 1 ∨ kd = 2 ∨ kd = 3)
  (Q : Exit → Act → World → Prop) (hQ : ∀ (nL nM nN nO nP nQ nR : Value) (W' : World), Kept W W' → Q .normal ⟨#[u0, u1, u2, u3, u4, u5, u6, u7, u8, .pointer (some ⟨FB, 0, none⟩), gI, kI, gJ, .int .u8 (tagF kd), eG, eH, u16, eE, eF, dX, dY, dZ, eA, eB, eC, eD, eI, eJ, eK, eL, eM, eN, u32, eO, eP, iN, iO, iP, iQ, iR, fK, iS, iT, iU, iV, iW, iX, gK, gL, gM, gN, gO, gP, gQ, gR, gS, gT, iY, iZ, jA, jB, jC, jD, jE, u64, jF, jG, jH, jJ, jK, jL, jM, jN, jO, jP, jQ, jR, jZ, kE, kF, kG, kH, jS, jT, jU, jV, jW, jX, kJ, kK, kM, kN, kO, kP, kQ, kR, kS, kT, kU, kV, aK, aG, aA, aB, aC, aD, aE, aF, aH, aI, aJ, aL, bC, bD, bE, bF, bG, bH, bI, bJ, bK, bL, aR, aM, aN, aO, aP, aQ, aS, aT, aU, aV, aW, aX, aY, aZ, bA, bM, bN, bP, bQ, bS, bR, bT, bU, bV, bW, bX, cW, cX, cY, cZ, dA, dB, dC, dD, dE, dF, dG, dH, dI, dJ, dK, dL, dM, dN, bY, bZ, cA, cB, cC, cD, cE, cF, cG, cH, cI, cJ, cK, cM, cN, cO, cP, cQ, cR, cS, cT, cU, cV, eQ, eR, eS, eT, eU, eV, eW, eX, eY, eZ, fA, fB, fC, fD, fF, fG, fH, fI, fJ, fL, fM, fN, nL, nM, nN, nO, nP, nQ, nR, fO, fP, fQ, fR, fS, fT, fU, fV, fW, fX, fY, fZ, gA, iA, iB, iC, iD, iE, iF, iG, iH, iJ, iK, iL, iM, gB, gC, gD, gE, gF, gG, gH, dO, dP, dQ, dR, dS, dT, dU, dV, dW], []⟩ W') :
  Code.wp Try.prog (headC code31i) Q ⟨#[u0, u1, u2, u3, u4, u5, u6, u7, u8, .pointer (some ⟨FB, 0, none⟩), gI, kI, gJ, jY, eG, eH, u16, eE, eF, dX, dY, dZ, eA, eB, eC, eD, eI, eJ, eK, eL, eM, eN, u32, eO, eP, iN, iO, iP, iQ, iR, fK, iS, iT, iU, iV, iW, iX, gK, gL, gM, gN, gO, gP, gQ, gR, gS, gT, iY, iZ, jA, jB, jC, jD, jE, u64, jF, jG, jH, jJ, jK, jL, jM, jN, jO, jP, jQ, jR, jZ, kE, kF, kG, kH, jS, jT, jU, jV, jW, jX, kJ, kK, kM, kN, kO, kP, kQ, kR, kS, kT, kU, kV, aK, aG, aA, aB, aC, aD, aE, aF, aH, aI, aJ, aL, bC, bD, bE, bF, bG, bH, bI, bJ, bK, bL, aR, aM, aN, aO, aP, aQ, aS, aT, aU, aV, aW, aX, aY, aZ, bA, bM, bN, bP, bQ, bS, bR, bT, bU, bV, bW, bX, cW, cX, cY, cZ, dA, dB, dC, dD, dE, dF, dG, dH, dI, dJ, dK, dL, dM, dN, bY, bZ, cA, cB, cC, cD, cE, cF, cG, cH, cI, cJ, cK, cM, cN, cO, cP, cQ, cR, cS, cT, cU, cV, eQ, eR, eS, eT, eU, eV, eW, eX, eY, eZ, fA, fB, fC, fD, fF, fG, fH, fI, fJ, fL, fM, fN, gU, gV, gW, gX, gY, gZ, hH, fO, fP, fQ, fR, fS, fT, fU, fV, fW, fX, fY, fZ, gA, iA, iB, iC, iD, iE, iF, iG, iH, iJ, iK, iL, iM, gB, gC, gD, gE, gF, gG, gH, dO, dP, dQ, dR, dS, dT, dU, dV, dW], []⟩ W := by
 have HQ := hide hQ
 clear hQ
 conv => arg 2; whnf
 rcases hk with rfl | rfl | rfl
 ·rw [show tagF 1 = 8 from rfl] at HQ
  go_wp2_with fail
  exact HQ.out _ _ _ _ _ _ _ _  (by go_grown)
 ·rw [show tagF 2 = 9 from rfl] at HQ
  go_wp2_with fail
  exact HQ.out _ _ _ _ _ _ _ _  (by go_grown)
 ·rw [show tagF 3 = 11 from rfl] at HQ
  go_wp2_with fail
  exact HQ.out _ _ _ _ _ _ _ _  (by go_grown)
set_option maxRecDepth 1000000 in
theorem p31 {w W : World} {DB LB FB ba oa n cap m B BF i dd dfin : Nat} {nb : Bool} {way w3 w2 : Int} {v vl vg : Value} {outL fin : List It} {l g : Fd} {us : List Int} {f : PF} (hS : IS w W DB LB FB nb (some ⟨ba, oa, none⟩) n cap m B v vl vg outL l g us) (h7 : w.cell? ⟨ba, oa + i * 8 + 7, none⟩ = some (.int .u8 f.flags)) (hba : ba < w.heap.size) (hin : (i : Int) < (n : Int)) (hfl : u8k f.flags) (hkd : g.kind = 1 ∨ g.kind = 2 ∨ g.kind = 3) (he : outL ++ (i9 f g ++ i10 f dd) = fin) (hd : d2 f dd = dfin) (hB : B + 2 ≤ BF) (hBF : BF ≤ 900) (hd6 : dd ≤ 6)
  (Q : Exit → Act → World → Prop) (K : Act → World → Prop) (hK : ∀ a w', Code.wp Try.prog (restC code31i) Q a w' → K a w') (hQ : ∀ (tM tP tN tO rX rY rZ sA sB sD sE sF sG sH sI tB tC tD tE tF tG tH tI tJ tK tL sJ sK sL sM sN sO sP sQ sR sS sT oD rL rM rN rO rP rQ rR rS rT rU rV rW sU sV sW sX sY sZ tA qZ rA rB rC rD rE rF rG rH rI rJ rK jI lP lS lT lU lO lV lW kX kY kZ lA lB lC lE lG lH lI lJ lK lN lX lY mO mP mQ mR mS mA mB mD mE mF mG mH mI mJ mK mL mM mN mT oE oF oG oH oI oJ mU mV mW mX mY mZ nA nB nC nD nE nF nG nH nI nJ nK oK oL oM oN oO oP oQ oR oS oT oU oV oW oX oY oZ pA pB pC pD pE pF pG pH pI pJ pK pL pM pN pO pP pQ pR pS pT pU pV pW pX pY pZ qA qB qC qD nL nM nN nO nP nQ nR qE qF qG qH qI qJ qK qL qM qN qO qP qQ nS nT nU nV nW nX nY nZ oA oB oC qR qS qT qU qV qW qX qY : Value) (v' : Value) (m' : Nat) (w' : World), IS w w' DB LB FB nb (some ⟨ba, oa, none⟩) n cap m' BF v' vg vg fin g g us → Q .normal ⟨#[u0, .int .u8 way, .pointer (some ⟨DB, 0, none⟩), u3, u4, v', .int .i64 (dfin : Int), .pointer (some ⟨LB, 0, none⟩), .int .i64 (i : Int), .pointer (some ⟨FB, 0, none⟩), tM, tP, tN, tO, eG, eH, u16, eE, eF, dX, dY, dZ, eA, eB, eC, eD, eI, eJ, eK, eL, eM, eN, u32, eO, eP, rX, rY, rZ, sA, sB, sD, sE, sF, sG, sH, sI, tB, tC, tD, tE, tF, tG, tH, tI, tJ, tK, tL, sJ, sK, sL, sM, sN, sO, sP, sQ, sR, sS, sT, oD, rL, rM, rN, rO, rP, rQ, rR, rS, rT, rU, rV, rW, sU, sV, sW, sX, sY, sZ, tA, qZ, rA, rB, rC, rD, rE, rF, rG, rH, rI, rJ, rK, jI, lP, lS, lT, lU, lO, lV, lW, kX, kY, kZ, lA, lB, lC, lE, lG, lH, lI, lJ, lK, lN, lX, lY, mO, mP, mQ, mR, mS, mA, mB, mD, mE, mF, mG, mH, mI, mJ, mK, mL, mM, mN, mT, oE, oF, oG, oH, oI, oJ, mU, mV, mW, mX, mY, mZ, nA, nB, nC, nD, nE, nF, nG, nH, nI, nJ, nK, oK, oL, oM, oN, oO, oP, oQ, oR, oS, oT, oU, oV, oW, oX, oY, oZ, pA, pB, pC, pD, pE, pF, pG, pH, pI, pJ, pK, pL, pM, pN, pO, pP, pQ, pR, pS, pT, pU, pV, pW, pX, pY, pZ, qA, qB, qC, qD, nL, nM, nN, nO, nP, nQ, nR, qE, qF, qG, qH, qI, qJ, qK, qL, qM, qN, qO, qP, qQ, nS, nT, nU, nV, nW, nX, nY, nZ, oA, oB, oC, qR, qS, qT, qU, qV, qW, qX, qY, dO, dP, dQ, dR, dS, dT, dU, dV, dW], []⟩ w') :
  Code.wp Try.prog (headC code31i) (Exit.then K Q) ⟨#[u0, .int .u8 way, .pointer (some ⟨DB, 0, none⟩), u3, u4, v, .int .i64 (dd : Int), .pointer (some ⟨LB, 0, none⟩), .int .i64 (i : Int), .pointer (some ⟨FB, 0, none⟩), gI, kI, gJ, jY, eG, eH, u16, eE, eF, dX, dY, dZ, eA, eB, eC, eD, eI, eJ, eK, eL, eM, eN, u32, eO, eP, iN, iO, iP, iQ, iR, fK, iS, iT, iU, iV, iW, iX, gK, gL, gM, gN, gO, gP, gQ, gR, gS, gT, iY, iZ, jA, jB, jC, jD, jE, u64, jF, jG, jH, jJ, jK, jL, jM, jN, jO, jP, jQ, jR, jZ, kE, kF, kG, kH, jS, jT, jU, jV, jW, jX, kJ, kK, kM, kN, kO, kP, kQ, kR, kS, kT, kU, kV, aK, aG, aA, aB, aC, aD, aE, aF, aH, aI, aJ, aL, bC, bD, bE, bF, bG, bH, bI, bJ, bK, bL, aR, aM, aN, aO, aP, aQ, aS, aT, aU, aV, aW, aX, aY, aZ, bA, bM, bN, bP, bQ, bS, bR, bT, bU, bV, bW, bX, cW, cX, cY, cZ, dA, dB, dC, dD, dE, dF, dG, dH, dI, dJ, dK, dL, dM, dN, bY, bZ, cA, cB, cC, cD, cE, cF, cG, cH, cI, cJ, cK, cM, cN, cO, cP, cQ, cR, cS, cT, cU, cV, eQ, eR, eS, eT, eU, eV, eW, eX, eY, eZ, fA, fB, fC, fD, fF, fG, fH, fI, fJ, fL, fM, fN, gU, gV, gW, gX, gY, gZ, hH, fO, fP, fQ, fR, fS, fT, fU, fV, fW, fX, fY, fZ, gA, iA, iB, iC, iD, iE, iF, iG, iH, iJ, iK, iL, iM, gB, gC, gD, gE, gF, gG, gH, dO, dP, dQ, dR, dS, dT, dU, dV, dW], []⟩ W := by
 have hk0 := hS.kept
 obtain ⟨tg, htg⟩ : ∃ tg, tagF g.kind = tg := ⟨_, rfl⟩
 have htg15 : 0 ≤ tg ∧ tg ≤ 15 := by rw [← htg]; unfold tagF; split <;> (try split) <;> omega
 obtain ⟨fl7, hf7⟩ : ∃ z, f.flags % 8 = z := ⟨_, rfl⟩
 have hfl8 := hfl
 obtain ⟨z0, z1⟩ := hfl8
 have hb7 : bits .and .u8 f.flags 7 = fl7 := by rw [bits7 hfl]; exact hf7
 have hw7 : IntKind.i64.wrap fl7 = fl7 := by rw [IntKind.wrap_i64]; omega
 have hi9 : i9 f g = [itemS 0 tg fl7 false] := by unfold i9; rw [htg, hf7]
 obtain ⟨i29, hi29, hz0, hz1, hz2⟩ := info_parts info29
 have HS := hide hS
 have HQ := hide hQ
 have hkc : Kept W W := Below.refl _ _
 have hmb := hS.bnd
 obtain ⟨y0, hy0⟩ : ∃ y, itemS 0 tg fl7 false = y := ⟨_, rfl⟩
 have hit0 := item17n 0 tg fl7 false (show 0 ≤ fl7 ∧ fl7 < 4294967296 by omega) y0 hy0
 have hyok : ∀ x ∈ [y0], x.ok := by
  intro x hx
  simp only [List.mem_cons, List.not_mem_nil, or_false] at hx
  rcases hx with rfl
  ·rw [← hy0]; exact (itemS_ok (by omega) (by omega)).2
 have Hy0 := hide hy0
 clear hy0
 have hL0 : W.cell? ⟨FB, 0, none⟩ = some (.int .u8 g.kind) := cell_heap hS.fbox (o := 0) rfl
 have lF := heap_lt hS.fbox
 have Hi9 := hide hi9
 have Htg := hide htg
 have He := hide he
 clear hS hQ hf7 hi9 htg he
 conv => arg 2; whnf
 conv at hK => enter [a, w', 1, 2]; whnf
 refine tag_31 hL0 lF hkd _ ?_
 intro nL nM nN nO nP nQ nR W1 hk1
 rw [Htg.out]
 have hd1 := (HS.out.keep hk1).dbox
 have d1 : W1.cell? ⟨DB, 1, none⟩ = some (.slice (some ⟨ba, oa, none⟩) n cap) := cell_heap hd1 (o := 1) rfl
 have lD := heap_lt hd1
 have h7W := ((hk0.trans' hk1).cell (p := ⟨ba, oa + i * 8 + 7, none⟩) hba).trans h7
 have hbaW := Nat.lt_of_lt_of_le hba (hk0.trans' hk1).size
 have hi0 : (0 : Int) ≤ (i : Int) := by omega
 replace hkc := hk1
 clear hL0 lF hd1 hk1
 go_upto_region 33 with (first
   | (go_at_call 17; refine (hit0 _).mono ?_; rintro e w5 ⟨rfl, hkq0⟩; replace hkc := hkc.trans' hkq0; try dsimp only)
   | (at_builtin; refine wpList_append_sl (T := itT) rfl (.tmp 218) (.tmp 229) 22 rfl w.heap.size 29 i29 _ 24 Try.underlying22 hi29 hz0 hz1 hz2 rfl (by decide) _ m outL (by rfl) ((HS.out.ownm.kept hkc).alloc _) (some ⟨_, 0, none⟩) 1 1 [y0] (by rfl) (by exact sl_it_heap (heap_at _ rfl) rfl hyok ⟨by simp, fun e => by have h9 := ((HS.out.ownm.kept hkc).lt e).2; omega⟩) (by_one29 _ _) (by unfold maxLen; omega) (by omega) (by have h9 := HS.out.kept.size; have h8 := hkc.size; simp; omega) ?_; intro v9 w9 hown9 hg9 hb9 hat9))
 refine p33 (f := f) (w2 := w2) (w3 := w3) (((HS.out.keep hkc).keep ((Below.refl _ _).alloc (Nat.le_refl _) _)).grow hg9 hb9 hown9) h7 hba hin hfl (by rw [← He.out, Hi9.out, Hy0.out, List.append_assoc]) hd (by simp only [List.length_cons, List.length_nil]; omega) hBF hd6 _ _ _ ?_ ?_ HQ.out <;> assumption
noncomputable def code25i : Code := (Try.f18.body.bind (findQ 25)).getD .skip
noncomputable def after25i : Code := (Try.f18.body.bind (afterQ 25)).getD .skip
set_option maxRecDepth 1000000 in
theorem p25 {w W : World} {DB LB FB ba oa n cap m B BF i dd dfin : Nat} {nb : Bool} {way w3 w2 : Int} {mm : Nat} {fi : Int} {v vl vg : Value} {outL fin : List It} {l g : Fd} {us : List Int} {f : PF} (hS : IS w W DB LB FB nb (some ⟨ba, oa, none⟩) n cap m B v vl vg outL l g us) (h7 : w.cell? ⟨ba, oa + i * 8 + 7, none⟩ = some (.int .u8 f.flags)) (hba : ba < w.heap.size) (hin : (i : Int) < (n : Int)) (hfl : u8k f.flags) (hkd : g.kind = 1 ∨ g.kind = 2 ∨ g.kind = 3) (hfi : 0 ≤ fi ∧ fi < 256) (hmm : mm ≤ 5) (hus : usesI w2 f = if w2 = 0 then [itemS 2 1 fi false, itemS 2 2 (fi + (mm : Int)) false] else (List.range (mm + 1)).map fun (k : Nat) => itemS 2 0 (fi + (k : Int)) false) (hw : (way.tdiv 3).tmod 2 = w2) (hway : u8k way) (he : outL ++ (usesI w2 f ++ (i9 f g ++ i10 f dd)) = fin) (hd : d2 f dd = dfin) (hB : B + 8 ≤ BF) (hBF : BF ≤ 900) (hd6 : dd ≤ 6)
  (Q : Exit → Act → World → Prop) (K K2 : Act → World → Prop) (hK : ∀ a w', Code.wp Try.prog (restC code25i) (Exit.then K2 Q) a w' → K a w') (hK2 : ∀ a w', Code.wp Try.prog after25i Q a w' → K2 a w') (hQ : ∀ (tM tP tN tO rX rY rZ sA sB sD sE sF sG sH sI tB tC tD tE tF tG tH tI tJ tK tL sJ sK sL sM sN sO sP sQ sR sS sT oD rL rM rN rO rP rQ rR rS rT rU rV rW sU sV sW sX sY sZ tA qZ rA rB rC rD rE rF rG rH rI rJ rK jI lP lS lT lU lO lV lW kX kY kZ lA lB lC lE lG lH lI lJ lK lN lX lY mO mP mQ mR mS mA mB mD mE mF mG mH mI mJ mK mL mM mN mT oE oF oG oH oI oJ mU mV mW mX mY mZ nA nB nC nD nE nF nG nH nI nJ nK oK oL oM oN oO oP oQ oR oS oT oU oV oW oX oY oZ pA pB pC pD pE pF pG pH pI pJ pK pL pM pN pO pP pQ pR pS pT pU pV pW pX pY pZ qA qB qC qD nL nM nN nO nP nQ nR qE qF qG qH qI qJ qK qL qM qN qO qP qQ nS nT nU nV nW nX nY nZ oA oB oC qR qS qT qU qV qW qX qY : Value) (v' : Value) (m' : Nat) (w' : World), IS w w' DB LB FB nb (some ⟨ba, oa, none⟩) n cap m' BF v' vg vg fin g g us → Q .normal ⟨#[u0, .int .u8 way, .pointer (some ⟨DB, 0, none⟩), u3, u4, v', .int .i64 (dfin : Int), .pointer (some ⟨LB, 0, none⟩), .int .i64 (i : Int), .pointer (some ⟨FB, 0, none⟩), tM, tP, tN, tO, eG, eH, u16, eE, eF, dX, dY, dZ, eA, eB, eC, eD, eI, eJ, eK, eL, eM, eN, u32, eO, eP, rX, rY, rZ, sA, sB, sD, sE, sF, sG, sH, sI, tB, tC, tD, tE, tF, tG, tH, tI, tJ, tK, tL, sJ, sK, sL, sM, sN, sO, sP, sQ, sR, sS, sT, oD, rL, rM, rN, rO, rP, rQ, rR, rS, rT, rU, rV, rW, sU, sV, sW, sX, sY, sZ, tA, qZ, rA, rB, rC, rD, rE, rF, rG, rH, rI, rJ, rK, jI, lP, lS, lT, lU, lO, lV, lW, kX, kY, kZ, lA, lB, lC, lE, lG, lH, lI, lJ, lK, lN, lX, lY, mO, mP, mQ, mR, mS, mA, mB, mD, mE, mF, mG, mH, mI, mJ, mK, mL, mM, mN, mT, oE, oF, oG, oH, oI, oJ, mU, mV, mW, mX, mY, mZ, nA, nB, nC, nD, nE, nF, nG, nH, nI, nJ, nK, oK, oL, oM, oN, oO, oP, oQ, oR, oS, oT, oU, oV, oW, oX, oY, oZ, pA, pB, pC, pD, pE, pF, pG, pH, pI, pJ, pK, pL, pM, pN, pO, pP, pQ, pR, pS, pT, pU, pV, pW, pX, pY, pZ, qA, qB, qC, qD, nL, nM, nN, nO, nP, nQ, nR, qE, qF, qG, qH, qI, qJ, qK, qL, qM, qN, qO, qP, qQ, nS, nT, nU, nV, nW, nX, nY, nZ, oA, oB, oC, qR, qS, qT, qU, qV, qW, qX, qY, dO, dP, dQ, dR, dS, dT, dU, dV, dW], []⟩ w') :
  Code.wp Try.prog (headC code25i) (Exit.then K (Exit.then K2 Q)) ⟨#[u0, .int .u8 way, .pointer (some ⟨DB, 0, none⟩), u3, u4, v, .int .i64 (dd : Int), .pointer (some ⟨LB, 0, none⟩), .int .i64 (i : Int), .pointer (some ⟨FB, 0, none⟩), .int .i64 fi, .int .i64 ((fi + (mm : Int))), gJ, jY, eG, eH, u16, eE, eF, dX, dY, dZ, eA, eB, eC, eD, eI, eJ, eK, eL, eM, eN, u32, eO, eP, iN, iO, iP, iQ, iR, fK, iS, iT, iU, iV, iW, iX, gK, gL, gM, gN, gO, gP, gQ, gR, gS, gT, iY, iZ, jA, jB, jC, jD, jE, u64, jF, jG, jH, jJ, jK, jL, jM, jN, jO, jP, jQ, jR, jZ, kE, kF, kG, kH, jS, jT, jU, jV, jW, jX, kJ, kK, kM, kN, kO, kP, kQ, kR, kS, kT, kU, kV, aK, aG, aA, aB, aC, aD, aE, aF, aH, aI, aJ, aL, bC, bD, bE, bF, bG, bH, bI, bJ, bK, bL, aR, aM, aN, aO, aP, aQ, aS, aT, aU, aV, aW, aX, aY, aZ, bA, bM, bN, bP, bQ, bS, bR, bT, bU, bV, bW, bX, cW, cX, cY, cZ, dA, dB, dC, dD, dE, dF, dG, dH, dI, dJ, dK, dL, dM, dN, bY, bZ, cA, cB, cC, cD, cE, cF, cG, cH, cI, cJ, cK, cM, cN, cO, cP, cQ, cR, cS, cT, cU, cV, eQ, eR, eS, eT, eU, eV, eW, eX, eY, eZ, fA, fB, fC, fD, fF, fG, fH, fI, fJ, fL, fM, fN, gU, gV, gW, gX, gY, gZ, hH, fO, fP, fQ, fR, fS, fT, fU, fV, fW, fX, fY, fZ, gA, iA, iB, iC, iD, iE, iF, iG, iH, iJ, iK, iL, iM, gB, gC, gD, gE, gF, gG, gH, dO, dP, dQ, dR, dS, dT, dU, dV, dW], []⟩ W := by
 have hk0 := hS.kept
 obtain ⟨f0, f1⟩ := hfi
 obtain ⟨y0w, y1w⟩ := hway
 have hwd : way.tdiv 3 = way / 3 := Int.tdiv_eq_ediv_of_nonneg y0w
 obtain ⟨wq, hwq⟩ : ∃ z, way / 3 = z := ⟨_, rfl⟩
 have hwq0 : 0 ≤ wq ∧ wq ≤ 85 := by omega
 rw [hwd] at hw
 rw [hwq] at hw hwd
 have hw8 : IntKind.u8.wrap wq = wq := wrap8 (by omega) (by omega)
 obtain ⟨i29, hi29, hz0, hz1, hz2⟩ := info_parts info29
 have HS := hide hS
 have HQ := hide hQ
 have hkc : Kept W W := Below.refl _ _
 have hmb := hS.bnd
 obtain ⟨y0, hy0⟩ : ∃ y, itemS 2 1 fi false = y := ⟨_, rfl⟩
 have hit0 := item17n 2 1 fi false (show 0 ≤ fi ∧ fi < 4294967296 by omega) y0 hy0
 obtain ⟨y1, hy1⟩ : ∃ y, itemS 2 2 (fi + (mm : Int)) false = y := ⟨_, rfl⟩
 have hit1 := item17n 2 2 (fi + (mm : Int)) false (show 0 ≤ fi + (mm : Int) ∧ fi + (mm : Int) < 4294967296 by omega) y1 hy1
 have hyok : ∀ x ∈ [y0, y1], x.ok := by
  intro x hx
  simp only [List.mem_cons, List.not_mem_nil, or_false] at hx
  rcases hx with rfl | rfl
  ·rw [← hy0]; exact (itemS_ok (by omega) (by omega)).2
  ·rw [← hy1]; exact (itemS_ok (by omega) (by omega)).2
 have Hy0 := hide hy0
 have Hy1 := hide hy1
 clear hy0 hy1
 have Hus := hide hus
 have He := hide he
 clear hS hQ hus he hwq
 conv => arg 2; whnf
 conv at hK => enter [a, w', 1, 2]; whnf
 conv at hK2 => enter [a, w', 1, 2]; whnf
 by_cases hw0 : w2 = 0
 ·have hus := Hus.out
  rw [if_pos hw0] at hus
  have hweq : (w2 == 0) = true := by rw [hw0]; rfl
  have Hus2 := hide hus
  have Hw0 := hide hw0
  clear hus hw0
  go_upto_region 31 with (first
   | (go_at_call 17; have hg0 := hkq0; refine (hit1 _).mono ?_; rintro e w5 ⟨rfl, hkq1⟩; replace hkc := hkc.trans' hkq1; try dsimp only)
   | (go_at_call 17; refine (hit0 _).mono ?_; rintro e w5 ⟨rfl, hkq0⟩; replace hkc := hkc.trans' hkq0; try dsimp only)
   | (at_builtin; refine wpList_append_sl (T := itT) rfl (.tmp 193) (.tmp 198) 22 rfl w.heap.size 29 i29 _ 24 Try.underlying22 hi29 hz0 hz1 hz2 rfl (by decide) _ m outL (by rfl) ((HS.out.ownm.kept hkc).alloc _) (some ⟨_, 0, none⟩) 2 2 [y0, y1] (by rfl) (by exact sl_it_heap (heap_at _ rfl) rfl hyok ⟨by simp, fun e => by have h9 := ((HS.out.ownm.kept hkc).lt e).2; omega⟩) (by_one29 _ _) (by unfold maxLen; omega) (by omega) (by have h9 := HS.out.kept.size; have h8 := hkc.size; simp; omega) ?_; intro v9 w9 hown9 hg9 hb9 hat9))
  refine p31 (f := f) (w2 := w2) (w3 := w3) (((HS.out.keep hkc).keep ((Below.refl _ _).alloc (Nat.le_refl _) _)).grow hg9 hb9 hown9) h7 hba hin hfl hkd (by rw [← He.out, Hus2.out, Hy0.out, Hy1.out, List.append_assoc]) hd (by simp only [List.length_cons, List.length_nil]; omega) hBF hd6 _ _ ?_ HQ.out <;> assumption
 ·have hus := Hus.out
  rw [if_neg hw0] at hus
  have hweq : (w2 == 0) = false := by simpa using hw0
  have Hus2 := hide hus
  have Hw0 := hide hw0
  have HF3 := hide (show ∀ q : Nat, q ≤ 5 → (itemS 2 0 (fi + (q : Int)) false).ok from fun q hq => (itemS_ok (by omega) (by omega)).2)
  clear hus hw0 hit0 hit1 hyok
  go_wp2_with fail
  go_loopg [5, 12] (mm + 1) (fun g' s5 tN wr => ∃ (k : Nat) (vv : Value), k + g' = mm + 1 ∧ s5 = vv ∧ tN = .int .i64 (fi + (k : Int)) ∧ IS w wr DB LB FB nb (some ⟨ba, oa, none⟩) n cap (m + k) (B + k) vv vl vg (outL ++ (List.range k).map fun (q : Nat) => itemS 2 0 (fi + (q : Int)) false) l g us)
  case atStart => exact ⟨0, v, by omega, rfl, by simp, by simpa using HS.out⟩
  case round =>
   clear HS hkc hmb
   obtain ⟨k, vv, hk, rfl, rfl, hS⟩ := hrel
   have Hk := hide hk
   have HS := hide hS
   have hmb := hS.bnd
   obtain ⟨ol, hol⟩ : ∃ ol, (outL ++ (List.range k).map fun (q : Nat) => itemS 2 0 (fi + (q : Int)) false) = ol := ⟨_, rfl⟩
   rw [hol] at HS
   have Hol := hide hol
   clear hk hS hol
   by_cases hlt : k < mm + 1
   case pos =>
    have hle : fi + (k : Int) ≤ fi + (mm : Int) := by omega
    have hwk : IntKind.i64.wrap (fi + (k : Int) + 1) = fi + ((k + 1 : Nat) : Int) := by rw [IntKind.wrap_i64]; omega
    obtain ⟨y0, hy0⟩ : ∃ y, itemS 2 0 (fi + (k : Int)) false = y := ⟨_, rfl⟩
    have hit0 := item17n 2 0 (fi + (k : Int)) false (show 0 ≤ fi + (k : Int) ∧ fi + (k : Int) < 4294967296 by omega) y0 hy0
    have hyok : ∀ x ∈ [y0], x.ok := by
     intro x hx
     have : x = y0 := by simpa using hx
     rw [this, ← hy0]
     exact (itemS_ok (by omega) (by omega)).2
    have Hy0 := hide hy0
    have hkc : Kept wr wr := Below.refl _ _
    clear hy0
    go_upto_region 29 with (first
     | (go_at_call 17; refine (hit0 _).mono ?_; rintro e w5 ⟨rfl, hkq0⟩; replace hkc := hkc.trans' hkq0; try dsimp only)
     | (at_builtin; refine wpList_append_sl (T := itT) rfl (.tmp 206) (.tmp 209) 22 rfl w.heap.size 29 i29 _ 24 Try.underlying22 hi29 hz0 hz1 hz2 rfl (by decide) _ (m + k) ol (by rfl) ((HS.out.ownm.kept hkc).alloc _) (some ⟨_, 0, none⟩) 1 1 [y0] (by rfl) (by exact sl_it_heap (heap_at _ rfl) rfl hyok ⟨by simp, fun e => by have h9 := ((HS.out.ownm.kept hkc).lt e).2; omega⟩) (by_one29 _ _) (by unfold maxLen; omega) (by omega) (by have h9 := HS.out.kept.size; have h8 := hkc.size; simp; omega) ?_; intro v9 w9 hown9 hg9 hb9 hat9))
    have hn2 := ((HS.out.keep hkc).keep ((Below.refl _ _).alloc (Nat.le_refl _) _)).grow hg9 hb9 hown9
    have e2 : ol ++ [y0] = outL ++ (List.range (k + 1)).map fun (q : Nat) => itemS 2 0 (fi + (q : Int)) false := by rw [← Hol.out, List.range_succ, List.map_append, ← Hy0.out, List.append_assoc]; rfl
    rw [e2] at hn2
    have Hn2 := hide hn2
    clear hn2 e2 hown9 hg9 hb9 hat9 hit0 hyok hkc
    go_wp2_with fail
    go_roundg (gk - 1)
    case measure => have := Hk.out; omega
    case rel => exact ⟨k + 1, v9, by have := Hk.out; omega, rfl, by first | rfl | go_num | (rw [hwk]), Hn2.out⟩
   case neg =>
    have hkm : k = mm + 1 := by have := Hk.out; omega
    have hnle : ¬ fi + (k : Int) ≤ fi + (mm : Int) := by omega
    subst hkm
    have hnle2 : ¬ fi + ((mm : Int) + 1) ≤ fi + (mm : Int) := by omega
    go_upto_region 31 with fail
    refine p31 (f := f) (w2 := w2) (w3 := w3) HS.out h7 hba hin hfl hkd (by rw [← He.out, Hus2.out, ← Hol.out, List.append_assoc]) hd (by omega) hBF hd6 _ _ ?_ HQ.out <;> assumption
end Go.Proofs.Ytegdigfcgeoboaa
