/- The law of the chapter on reports, part 22: Wl Wm Wn Wo. -/
import Derived.Test.YtegdigfcgeoboaaK21
set_option maxHeartbeats 16000000
set_option linter.unusedVariables false
set_option linter.unusedSimpArgs false
set_option linter.unusedSectionVars false
namespace Go.Proofs.Ytegdigfcgeoboaa
open Go.RowKit
attribute [local go_sem ↓] Go.wp_at_zero Go.wp_at_succ
variable {u0 u3 u4 gI kI gJ jY eG eH u16 eE eF dX dY dZ eA eB eC eD eI eJ eK eL eM eN u32 eO eP iN iO iP iQ iR fK iS iT iU iV iW iX gK gL gM gN gO gP gQ gR gS gT iY iZ jA jB jC jD jE u64 jF jG jH jJ jK jL jM jN jO jP jQ jR jZ kE kF kG kH jS jT jU jV jW jX kJ kK kM kN kO kP kQ kR kS kT kU kV aK aG aA aB aC aD aE aF aH aI aJ aL bC bD bE bF bG bH bI bJ bK bL aR aM aN aO aP aQ aS aT aU aV aW aX aY aZ bA bM bN bP bQ bS bR bT bU bV bW bX cW cX cY cZ dA dB dC dD dE dF dG dH dI dJ dK dL dM dN bY bZ cA cB cC cD cE cF cG cH cI cJ cK cM cN cO cP cQ cR cS cT cU cV eQ eR eS eT eU eV eW eX eY eZ fA fB fC fD fF fG fH fI fJ fL fM fN gU gV gW gX gY gZ hH fO fP fQ fR fS fT fU fV fW fX fY fZ gA iA iB iC iD iE iF iG iH iJ iK iL iM gB gC gD gE gF gG gH dO dP dQ dR dS dT dU dV dW : Value}
theorem own_block34 {α : Type} {t : Ty α} {e : TypeId} {w : World} {base n : Nat} {v : Value} {xs : List α} (h : Own t e base w v n xs) (hn : 0 < n) : ∃ g cap cur, v = .slice (some ⟨g, 0, none⟩) n cap ∧ w.heap[g]? = some (.cells cur e (0, 0)) ∧ n ≤ cap ∧ cap ≤ maxLen := by
 obtain ⟨_, cells, ⟨_, h2⟩, _⟩ := h
 rcases h2 with ⟨_, h0⟩ | ⟨g, cap, cur, rfl, hb, hh, h3, h4, _⟩
 ·omega
 ·exact ⟨g, cap, cur, rfl, hh, h3, h4⟩
theorem own_cells34 {α : Type} {t : Ty α} {e : TypeId} {w : World} {base n g cap j : Nat} {xs : List α} {x : α} {cs : List Value} (h : Own t e base w (.slice (some ⟨g, 0, none⟩) n cap) n xs) (hx : xs[j]? = some x) (hr : ∀ F c, t.rel w F x c → c = cs) : ∀ o u, cs[o]? = some u → w.cell? ⟨g, j * t.size + o, none⟩ = some u := by
 have hs := h.sl
 obtain ⟨b, off, c, e1, _, hrel, hc⟩ := hs.2 j x hx
 injection e1 with e1
 injection e1 with e2 e3 _
 subst e2 e3
 intro o u hu
 rw [← hr _ _ hrel] at hu
 have := hc o u hu
 rwa [Nat.zero_add] at this
noncomputable def code24i : Code := (Try.f18.body.bind (findQ 24)).getD .skip
set_option maxRecDepth 1000000 in
theorem p24 {w W : World} {DB LB FB ba oa n cap m B BF i dd dfin : Nat} {nb : Bool} {way w3 w2 : Int} {mm : Nat} {fi : Int} {v vl vg : Value} {outL fin : List It} {l g : Fd} {us : List Int} {f : PF} (hS : IS w W DB LB FB nb (some ⟨ba, oa, none⟩) n cap m B v vl vg outL l g us) (h7 : w.cell? ⟨ba, oa + i * 8 + 7, none⟩ = some (.int .u8 f.flags)) (hba : ba < w.heap.size) (hin : (i : Int) < (n : Int)) (hfl : u8k f.flags) (hkd : g.kind = 1 ∨ g.kind = 2 ∨ g.kind = 3) (hfi : 0 ≤ fi ∧ fi < 256) (hmm : mm ≤ 5) (hus : usesI w2 f = if w2 = 0 then [itemS 2 1 fi false, itemS 2 2 (fi + (mm : Int)) false] else (List.range (mm + 1)).map fun (k : Nat) => itemS 2 0 (fi + (k : Int)) false) (hw : (way.tdiv 3).tmod 2 = w2) (hway : u8k way) (he : outL ++ (usesI w2 f ++ (i9 f g ++ i10 f dd)) = fin) (hd : d2 f dd = dfin) (hB : B + 8 ≤ BF) (hBF : BF ≤ 900) (hd6 : dd ≤ 6) (hul : us = (List.range (mm + 1)).map fun (q : Nat) => 458752 + fi + (q : Int))
  (Q : Exit → Act → World → Prop) (K : Act → World → Prop) (hK : ∀ a w', Code.wp Try.prog (restC code24i) Q a w' → K a w') (hQ : ∀ (tM tP tN tO rX rY rZ sA sB sD sE sF sG sH sI tB tC tD tE tF tG tH tI tJ tK tL sJ sK sL sM sN sO sP sQ sR sS sT oD rL rM rN rO rP rQ rR rS rT rU rV rW sU sV sW sX sY sZ tA qZ rA rB rC rD rE rF rG rH rI rJ rK jI lP lS lT lU lO lV lW kX kY kZ lA lB lC lE lG lH lI lJ lK lN lX lY mO mP mQ mR mS mA mB mD mE mF mG mH mI mJ mK mL mM mN mT oE oF oG oH oI oJ mU mV mW mX mY mZ nA nB nC nD nE nF nG nH nI nJ nK oK oL oM oN oO oP oQ oR oS oT oU oV oW oX oY oZ pA pB pC pD pE pF pG pH pI pJ pK pL pM pN pO pP pQ pR pS pT pU pV pW pX pY pZ qA qB qC qD nL nM nN nO nP nQ nR qE qF qG qH qI qJ qK qL qM qN qO qP qQ nS nT nU nV nW nX nY nZ oA oB oC qR qS qT qU qV qW qX qY : Value) (v' : Value) (m' : Nat) (w' : World), IS w w' DB LB FB nb (some ⟨ba, oa, none⟩) n cap m' BF v' vg vg fin g g us → Q .normal ⟨#[u0, .int .u8 way, .pointer (some ⟨DB, 0, none⟩), u3, u4, v', .int .i64 (dfin : Int), .pointer (some ⟨LB, 0, none⟩), .int .i64 (i : Int), .pointer (some ⟨FB, 0, none⟩), tM, tP, tN, tO, eG, eH, u16, eE, eF, dX, dY, dZ, eA, eB, eC, eD, eI, eJ, eK, eL, eM, eN, u32, eO, eP, rX, rY, rZ, sA, sB, sD, sE, sF, sG, sH, sI, tB, tC, tD, tE, tF, tG, tH, tI, tJ, tK, tL, sJ, sK, sL, sM, sN, sO, sP, sQ, sR, sS, sT, oD, rL, rM, rN, rO, rP, rQ, rR, rS, rT, rU, rV, rW, sU, sV, sW, sX, sY, sZ, tA, qZ, rA, rB, rC, rD, rE, rF, rG, rH, rI, rJ, rK, jI, lP, lS, lT, lU, lO, lV, lW, kX, kY, kZ, lA, lB, lC, lE, lG, lH, lI, lJ, lK, lN, lX, lY, mO, mP, mQ, mR, mS, mA, mB, mD, mE, mF, mG, mH, mI, mJ, mK, mL, mM, mN, mT, oE, oF, oG, oH, oI, oJ, mU, mV, mW, mX, mY, mZ, nA, nB, nC, nD, nE, nF, nG, nH, nI, nJ, nK, oK, oL, oM, oN, oO, oP, oQ, oR, oS, oT, oU, oV, oW, oX, oY, oZ, pA, pB, pC, pD, pE, pF, pG, pH, pI, pJ, pK, pL, pM, pN, pO, pP, pQ, pR, pS, pT, pU, pV, pW, pX, pY, pZ, qA, qB, qC, qD, nL, nM, nN, nO, nP, nQ, nR, qE, qF, qG, qH, qI, qJ, qK, qL, qM, qN, qO, qP, qQ, nS, nT, nU, nV, nW, nX, nY, nZ, oA, oB, oC, qR, qS, qT, qU, qV, qW, qX, qY, dO, dP, dQ, dR, dS, dT, dU, dV, dW], []⟩ w') :
  Code.wp Try.prog (headC code24i) (Exit.then K Q) ⟨#[u0, .int .u8 way, .pointer (some ⟨DB, 0, none⟩), u3, u4, v, .int .i64 (dd : Int), .pointer (some ⟨LB, 0, none⟩), .int .i64 (i : Int), .pointer (some ⟨FB, 0, none⟩), gI, kI, gJ, jY, eG, eH, u16, eE, eF, dX, dY, dZ, eA, eB, eC, eD, eI, eJ, eK, eL, eM, eN, u32, eO, eP, iN, iO, iP, iQ, iR, fK, iS, iT, iU, iV, iW, iX, gK, gL, gM, gN, gO, gP, gQ, gR, gS, gT, iY, iZ, jA, jB, jC, jD, jE, u64, jF, jG, jH, jJ, jK, jL, jM, jN, jO, jP, jQ, jR, jZ, kE, kF, kG, kH, jS, jT, jU, jV, jW, jX, kJ, kK, kM, kN, kO, kP, kQ, kR, kS, kT, kU, kV, aK, aG, aA, aB, aC, aD, aE, aF, aH, aI, aJ, aL, bC, bD, bE, bF, bG, bH, bI, bJ, bK, bL, aR, aM, aN, aO, aP, aQ, aS, aT, aU, aV, aW, aX, aY, aZ, bA, bM, bN, bP, bQ, bS, bR, bT, bU, bV, bW, bX, cW, cX, cY, cZ, dA, dB, dC, dD, dE, dF, dG, dH, dI, dJ, dK, dL, dM, dN, bY, bZ, cA, cB, cC, cD, cE, cF, cG, cH, cI, cJ, cK, cM, cN, cO, cP, cQ, cR, cS, cT, cU, cV, eQ, eR, eS, eT, eU, eV, eW, eX, eY, eZ, fA, fB, fC, fD, fF, fG, fH, fI, fJ, fL, fM, fN, gU, gV, gW, gX, gY, gZ, hH, fO, fP, fQ, fR, fS, fT, fU, fV, fW, fX, fY, fZ, gA, iA, iB, iC, iD, iE, iF, iG, iH, iJ, iK, iL, iM, gB, gC, gD, gE, gF, gG, gH, dO, dP, dQ, dR, dS, dT, dU, dV, dW], []⟩ W := by
 have hF3 : W.cell? ⟨FB, 3, none⟩ = some vg := cell_heap hS.fbox (o := 3) rfl
 have lF := heap_lt hS.fbox
 have hu := hS.us
 have hul1 : us.length = mm + 1 := by rw [hul]; simp
 rw [hul1] at hu
 obtain ⟨gu, cu, curu, hvg, hhu, _, hcm⟩ := own_block34 hu (by omega)
 rw [hvg] at hu hF3
 have e0 := own_cells34 (j := 0) (cs := [.int .u32 (458752 + fi)]) hu (by rw [hul]; simp) (fun F c hr => hr.1) 0 _ rfl
 have em := own_cells34 (j := mm) (cs := [.int .u32 (458752 + fi + (mm : Int))]) hu (by rw [hul]; simp) (fun F c hr => hr.1) 0 _ rfl
 have e0' : W.cell? ⟨gu, 0, none⟩ = some (.int .u32 (458752 + fi)) := by simpa [u32T, Ty.flat] using e0
 have em' : W.cell? ⟨gu, mm, none⟩ = some (.int .u32 (458752 + fi + (mm : Int))) := by simpa [u32T, Ty.flat] using em
 have lu := heap_lt hhu
 have hm1 : IntKind.i64.wrap ((mm : Int) + 1 - 1) = (mm : Int) := by rw [IntKind.wrap_i64]; omega
 have hm1' : IntKind.i64.wrap (((mm + 1 : Nat) : Int) - 1) = (mm : Int) := by rw [IntKind.wrap_i64]; omega
 have hr0 : (458752 + fi) % 65536 = fi := by omega
 have hrm : (458752 + fi + (mm : Int)) % 65536 = fi + (mm : Int) := by omega
 have ht0 : (458752 + fi).tmod 65536 = fi := by rw [Int.tmod_eq_emod_of_nonneg (by omega)]; exact hr0
 have htm : (458752 + fi + (mm : Int)).tmod 65536 = fi + (mm : Int) := by rw [Int.tmod_eq_emod_of_nonneg (by omega)]; exact hrm
 have hw0 : IntKind.i64.wrap fi = fi := by rw [IntKind.wrap_i64]; omega
 have hwm : IntKind.i64.wrap (fi + (mm : Int)) = fi + (mm : Int) := by rw [IntKind.wrap_i64]; omega
 have hmm0 : (0 : Int) ≤ (mm : Int) := by omega
 have hmm1 : (mm : Int) < ((mm + 1 : Nat) : Int) := by omega
 have hmm2 : (0 : Int) < ((mm + 1 : Nat) : Int) := by omega
 have hmm3 : (mm : Int) < (mm : Int) + 1 := by omega
 have hmm4 : (0 : Int) < (mm : Int) + 1 := by omega
 have hmw : IntKind.i64.wrap (mm : Int) = (mm : Int) := by rw [IntKind.wrap_i64]; omega
 have hmm5 : mm < mm + 1 := by omega
 have HS := hide hS
 have HQ := hide hQ
 have He := hide he
 have Hus := hide hus
 have Hkd := hide hkd
 clear hS hQ he hus hkd hu e0 em hhu hvg hul hul1
 conv => arg 2; whnf
 conv at hK => enter [a, w', 1, 2]; whnf
 go_region_held3 (fun w' => (∀ b o, b < W.heap.size → w'.cell? ⟨b, o, none⟩ = W.cell? ⟨b, o, none⟩) ∧ Below W.heap.size W w') (first | assumption | exact since_start | exact since_keep (by assumption) (Nat.le_refl _) hk) (fail)
 go_upto_region 25 with fail
 refine wp_at (fun Z => Kept W Z) (by first | exact below_drewN (Below.refl _ _) _ | go_grown) (fun Z hZ => ?_)
 refine p25 (f := f) (w3 := w3) (HS.out.keep hZ) h7 hba hin hfl Hkd.out hfi hmm Hus.out hw hway He.out hd hB hBF hd6 _ _ _ ?_ ?_ HQ.out <;> assumption
noncomputable def after22i : Code := (Try.f18.body.bind (afterQ 22)).getD .skip
set_option maxRecDepth 1000000 in
theorem p22 {w W : World} {DB LB FB ba oa n cap m B BF i dd dfin : Nat} {nb : Bool} {way w3 w2 : Int} {mm : Nat} {fi : Int} {v vl vg : Value} {outL fin : List It} {l g : Fd} {us : List Int} {f : PF} (hS : IS w W DB LB FB nb (some ⟨ba, oa, none⟩) n cap m B v vl vg outL l g us) (h7 : w.cell? ⟨ba, oa + i * 8 + 7, none⟩ = some (.int .u8 f.flags)) (hba : ba < w.heap.size) (hin : (i : Int) < (n : Int)) (hfl : u8k f.flags) (hkd : g.kind = 1 ∨ g.kind = 2 ∨ g.kind = 3) (hfi : 0 ≤ fi ∧ fi < 256) (hmm : mm ≤ 5) (hus : usesI w2 f = if w2 = 0 then [itemS 2 1 fi false, itemS 2 2 (fi + (mm : Int)) false] else (List.range (mm + 1)).map fun (k : Nat) => itemS 2 0 (fi + (k : Int)) false) (hw : (way.tdiv 3).tmod 2 = w2) (hway : u8k way) (he : outL ++ (i7 nb w3 i l g ++ (usesI w2 f ++ (i9 f g ++ i10 f dd))) = fin) (hd : d2 f dd = dfin) (hB : B + 9 ≤ BF) (hBF : BF ≤ 900) (hd6 : dd ≤ 6) (hul : us = (List.range (mm + 1)).map fun (q : Nat) => 458752 + fi + (q : Int)) (hw3 : way.tmod 3 = w3) (hgreport : 0 ≤ g.report ∧ g.report < 4294967296)
  (Q : Exit → Act → World → Prop) (K K2 : Act → World → Prop) (hK : ∀ a w', Code.wp Try.prog (restC code22i) (Exit.then K2 Q) a w' → K a w') (hK2 : ∀ a w', Code.wp Try.prog after22i Q a w' → K2 a w') (hQ : ∀ (tM tP tN tO rX rY rZ sA sB sD sE sF sG sH sI tB tC tD tE tF tG tH tI tJ tK tL sJ sK sL sM sN sO sP sQ sR sS sT oD rL rM rN rO rP rQ rR rS rT rU rV rW sU sV sW sX sY sZ tA qZ rA rB rC rD rE rF rG rH rI rJ rK jI lP lS lT lU lO lV lW kX kY kZ lA lB lC lE lG lH lI lJ lK lN lX lY mO mP mQ mR mS mA mB mD mE mF mG mH mI mJ mK mL mM mN mT oE oF oG oH oI oJ mU mV mW mX mY mZ nA nB nC nD nE nF nG nH nI nJ nK oK oL oM oN oO oP oQ oR oS oT oU oV oW oX oY oZ pA pB pC pD pE pF pG pH pI pJ pK pL pM pN pO pP pQ pR pS pT pU pV pW pX pY pZ qA qB qC qD nL nM nN nO nP nQ nR qE qF qG qH qI qJ qK qL qM qN qO qP qQ nS nT nU nV nW nX nY nZ oA oB oC qR qS qT qU qV qW qX qY : Value) (v' : Value) (m' : Nat) (w' : World), IS w w' DB LB FB nb (some ⟨ba, oa, none⟩) n cap m' BF v' vg vg fin g g us → Q .normal ⟨#[u0, .int .u8 way, .pointer (some ⟨DB, 0, none⟩), u3, u4, v', .int .i64 (dfin : Int), .pointer (some ⟨LB, 0, none⟩), .int .i64 (i : Int), .pointer (some ⟨FB, 0, none⟩), tM, tP, tN, tO, eG, eH, u16, eE, eF, dX, dY, dZ, eA, eB, eC, eD, eI, eJ, eK, eL, eM, eN, u32, eO, eP, rX, rY, rZ, sA, sB, sD, sE, sF, sG, sH, sI, tB, tC, tD, tE, tF, tG, tH, tI, tJ, tK, tL, sJ, sK, sL, sM, sN, sO, sP, sQ, sR, sS, sT, oD, rL, rM, rN, rO, rP, rQ, rR, rS, rT, rU, rV, rW, sU, sV, sW, sX, sY, sZ, tA, qZ, rA, rB, rC, rD, rE, rF, rG, rH, rI, rJ, rK, jI, lP, lS, lT, lU, lO, lV, lW, kX, kY, kZ, lA, lB, lC, lE, lG, lH, lI, lJ, lK, lN, lX, lY, mO, mP, mQ, mR, mS, mA, mB, mD, mE, mF, mG, mH, mI, mJ, mK, mL, mM, mN, mT, oE, oF, oG, oH, oI, oJ, mU, mV, mW, mX, mY, mZ, nA, nB, nC, nD, nE, nF, nG, nH, nI, nJ, nK, oK, oL, oM, oN, oO, oP, oQ, oR, oS, oT, oU, oV, oW, oX, oY, oZ, pA, pB, pC, pD, pE, pF, pG, pH, pI, pJ, pK, pL, pM, pN, pO, pP, pQ, pR, pS, pT, pU, pV, pW, pX, pY, pZ, qA, qB, qC, qD, nL, nM, nN, nO, nP, nQ, nR, qE, qF, qG, qH, qI, qJ, qK, qL, qM, qN, qO, qP, qQ, nS, nT, nU, nV, nW, nX, nY, nZ, oA, oB, oC, qR, qS, qT, qU, qV, qW, qX, qY, dO, dP, dQ, dR, dS, dT, dU, dV, dW], []⟩ w') :
  Code.wp Try.prog (headC code22i) (Exit.then K (Exit.then K2 Q)) ⟨#[u0, .int .u8 way, .pointer (some ⟨DB, 0, none⟩), u3, u4, v, .int .i64 (dd : Int), .pointer (some ⟨LB, 0, none⟩), .int .i64 (i : Int), .pointer (some ⟨FB, 0, none⟩), gI, kI, gJ, jY, eG, eH, u16, eE, eF, dX, dY, dZ, eA, eB, eC, eD, eI, eJ, eK, eL, eM, eN, u32, eO, eP, iN, iO, iP, iQ, iR, fK, iS, iT, iU, iV, iW, iX, gK, gL, gM, gN, gO, gP, gQ, gR, gS, gT, iY, iZ, jA, jB, jC, jD, jE, u64, jF, jG, jH, jJ, jK, jL, jM, jN, jO, jP, jQ, jR, jZ, kE, kF, kG, kH, jS, jT, jU, jV, jW, jX, kJ, kK, kM, kN, kO, kP, kQ, kR, kS, kT, kU, kV, aK, aG, aA, aB, aC, aD, aE, aF, aH, aI, aJ, aL, bC, bD, bE, bF, bG, bH, bI, bJ, bK, bL, aR, aM, aN, aO, aP, aQ, aS, aT, aU, aV, aW, aX, aY, aZ, bA, bM, bN, bP, bQ, bS, bR, bT, bU, bV, bW, bX, cW, cX, cY, cZ, dA, dB, dC, dD, dE, dF, dG, dH, dI, dJ, dK, dL, dM, dN, bY, bZ, cA, cB, cC, cD, cE, cF, cG, cH, cI, cJ, cK, cM, cN, cO, cP, cQ, cR, cS, cT, cU, cV, eQ, eR, eS, eT, eU, eV, eW, eX, eY, eZ, fA, fB, fC, fD, fF, fG, fH, fI, fJ, fL, fM, fN, gU, gV, gW, gX, gY, gZ, hH, fO, fP, fQ, fR, fS, fT, fU, fV, fW, fX, fY, fZ, gA, iA, iB, iC, iD, iE, iF, iG, iH, iJ, iK, iL, iM, gB, gC, gD, gE, gF, gG, gH, dO, dP, dQ, dR, dS, dT, dU, dV, dW], []⟩ W := by
 have hgvv : (0 ≤ g.report ∧ g.report < 4294967296) := hgreport
 obtain ⟨gv, hgve⟩ : ∃ z, g.report = z := ⟨_, rfl⟩
 have hgv := hgvv
 rw [hgve] at hgv
 obtain ⟨i29, hi29, hz0, hz1, hz2⟩ := info_parts info29
 have HS := hide hS
 have HQ := hide hQ
 have hkc : Kept W W := Below.refl _ _
 have hmb := hS.bnd
 obtain ⟨y0, hy0⟩ : ∃ y, itemS 1 8 gv false = y := ⟨_, rfl⟩
 have hit0 := item17n 1 8 gv false (show (0 ≤ gv ∧ gv < 4294967296) by exact hgv) y0 hy0
 have hyok : ∀ x ∈ [y0], x.ok := by
  intro x hx
  simp only [List.mem_cons, List.not_mem_nil, or_false] at hx
  rcases hx with rfl
  ·rw [← hy0]; exact (itemS_ok (by omega) (by omega)).2
 have Hy0 := hide hy0
 clear hy0
 have hcv : IntKind.i64.wrap gv = gv := by rw [IntKind.wrap_i64]; have h5 := hgv; omega
 have hL := hS.lbox
 have hF := hS.fbox
 have hD := hS.dbox
 have b1 : W.cell? ⟨FB, 1, none⟩ = some (.int .u8 gv) := by rw [← hgve]; exact cell_heap hF (o := 1) rfl
 have lF := heap_lt hF
 have He := hide he
 have Hge := hide hgve
 have Hus := hide hus
 have Hul := hide hul
 have Hkd := hide hkd
 have Hgv := hide hgvv
 clear hS hQ he hgve hus hul hkd hgvv
 conv => arg 2; whnf
 conv at hK => enter [a, w', 1, 2]; whnf
 conv at hK2 => enter [a, w', 1, 2]; whnf
 refine ask_22 (l := l) (g := g) (w3 := w3) (nb := nb) hL hF hD hw3 _ ?_
 intro mU mV mW mX mY mZ nA nB nC nD nE nF nG nH nI nJ nK
 clear hL hF hD
 cases hb : (nb && ask w3 i l.report g.report) with
 | true =>
  have hgr : i7 nb w3 i l g = [y0] := by unfold i7; rw [hb, Hge.out, Hy0.out]; rfl
  have Hgr := hide hgr
  clear hgr hb
  go_upto_region 24 with (first
   | (go_at_call 17; refine (hit0 _).mono ?_; rintro e w5 ⟨rfl, hkq0⟩; replace hkc := hkc.trans' hkq0; try dsimp only)
   | (at_builtin; refine wpList_append_sl (T := itT) rfl (.tmp 166) (.tmp 171) 22 rfl w.heap.size 29 i29 _ 24 Try.underlying22 hi29 hz0 hz1 hz2 rfl (by decide) _ m outL (by rfl) ((HS.out.ownm.kept hkc).alloc _) (some ⟨_, 0, none⟩) 1 1 [y0] (by rfl) (by exact sl_it_heap (heap_at _ rfl) rfl hyok ⟨by simp, fun e => by have h9 := ((HS.out.ownm.kept hkc).lt e).2; omega⟩) (by_one29 _ _) (by unfold maxLen; omega) (by omega) (by have h9 := HS.out.kept.size; have h8 := hkc.size; simp; omega) ?_; intro v9 w9 hown9 hg9 hb9 hat9))
  refine p24 (f := f) (w2 := w2) (w3 := w3) (((HS.out.keep hkc).keep ((Below.refl _ _).alloc (Nat.le_refl _) _)).grow hg9 hb9 hown9) h7 hba hin hfl Hkd.out hfi hmm Hus.out hw hway (by rw [← He.out, Hgr.out]; simp only [List.append_assoc]) hd (by simp only [List.length_cons, List.length_nil]; omega) hBF hd6 Hul.out _ _ ?_ HQ.out <;> assumption
 | false =>
  have hgr : i7 nb w3 i l g = [] := by unfold i7; rw [hb]; rfl
  have Hgr := hide hgr
  clear hgr hb
  go_upto_region 24 with fail
  refine p24 (f := f) (w2 := w2) (w3 := w3) HS.out h7 hba hin hfl Hkd.out hfi hmm Hus.out hw hway (by rw [← He.out, Hgr.out]; rfl) hd (by omega) hBF hd6 Hul.out _ _ ?_ HQ.out <;> assumption
noncomputable def after20i : Code := (Try.f18.body.bind (afterQ 20)).getD .skip
set_option maxRecDepth 1000000 in
theorem p20 {w W : World} {DB LB FB ba oa n cap m B BF i dd dfin : Nat} {nb : Bool} {way w3 w2 : Int} {mm : Nat} {fi : Int} {v vl vg : Value} {outL fin : List It} {l g : Fd} {us : List Int} {f : PF} (hS : IS w W DB LB FB nb (some ⟨ba, oa, none⟩) n cap m B v vl vg outL l g us) (h7 : w.cell? ⟨ba, oa + i * 8 + 7, none⟩ = some (.int .u8 f.flags)) (hba : ba < w.heap.size) (hin : (i : Int) < (n : Int)) (hfl : u8k f.flags) (hkd : g.kind = 1 ∨ g.kind = 2 ∨ g.kind = 3) (hfi : 0 ≤ fi ∧ fi < 256) (hmm : mm ≤ 5) (hus : usesI w2 f = if w2 = 0 then [itemS 2 1 fi false, itemS 2 2 (fi + (mm : Int)) false] else (List.range (mm + 1)).map fun (k : Nat) => itemS 2 0 (fi + (k : Int)) false) (hw : (way.tdiv 3).tmod 2 = w2) (hway : u8k way) (he : outL ++ (i6 w3 i l g ++ (i7 nb w3 i l g ++ (usesI w2 f ++ (i9 f g ++ i10 f dd)))) = fin) (hd : d2 f dd = dfin) (hB : B + 10 ≤ BF) (hBF : BF ≤ 900) (hd6 : dd ≤ 6) (hul : us = (List.range (mm + 1)).map fun (q : Nat) => 458752 + fi + (q : Int)) (hw3 : way.tmod 3 = w3) (hgreport : 0 ≤ g.report ∧ g.report < 4294967296) (hgcount : 0 ≤ g.count ∧ g.count < 4294967296)
  (Q : Exit → Act → World → Prop) (K K2 : Act → World → Prop) (hK : ∀ a w', Code.wp Try.prog (restC code20i) (Exit.then K2 Q) a w' → K a w') (hK2 : ∀ a w', Code.wp Try.prog after20i Q a w' → K2 a w') (hQ : ∀ (tM tP tN tO rX rY rZ sA sB sD sE sF sG sH sI tB tC tD tE tF tG tH tI tJ tK tL sJ sK sL sM sN sO sP sQ sR sS sT oD rL rM rN rO rP rQ rR rS rT rU rV rW sU sV sW sX sY sZ tA qZ rA rB rC rD rE rF rG rH rI rJ rK jI lP lS lT lU lO lV lW kX kY kZ lA lB lC lE lG lH lI lJ lK lN lX lY mO mP mQ mR mS mA mB mD mE mF mG mH mI mJ mK mL mM mN mT oE oF oG oH oI oJ mU mV mW mX mY mZ nA nB nC nD nE nF nG nH nI nJ nK oK oL oM oN oO oP oQ oR oS oT oU oV oW oX oY oZ pA pB pC pD pE pF pG pH pI pJ pK pL pM pN pO pP pQ pR pS pT pU pV pW pX pY pZ qA qB qC qD nL nM nN nO nP nQ nR qE qF qG qH qI qJ qK qL qM qN qO qP qQ nS nT nU nV nW nX nY nZ oA oB oC qR qS qT qU qV qW qX qY : Value) (v' : Value) (m' : Nat) (w' : World), IS w w' DB LB FB nb (some ⟨ba, oa, none⟩) n cap m' BF v' vg vg fin g g us → Q .normal ⟨#[u0, .int .u8 way, .pointer (some ⟨DB, 0, none⟩), u3, u4, v', .int .i64 (dfin : Int), .pointer (some ⟨LB, 0, none⟩), .int .i64 (i : Int), .pointer (some ⟨FB, 0, none⟩), tM, tP, tN, tO, eG, eH, u16, eE, eF, dX, dY, dZ, eA, eB, eC, eD, eI, eJ, eK, eL, eM, eN, u32, eO, eP, rX, rY, rZ, sA, sB, sD, sE, sF, sG, sH, sI, tB, tC, tD, tE, tF, tG, tH, tI, tJ, tK, tL, sJ, sK, sL, sM, sN, sO, sP, sQ, sR, sS, sT, oD, rL, rM, rN, rO, rP, rQ, rR, rS, rT, rU, rV, rW, sU, sV, sW, sX, sY, sZ, tA, qZ, rA, rB, rC, rD, rE, rF, rG, rH, rI, rJ, rK, jI, lP, lS, lT, lU, lO, lV, lW, kX, kY, kZ, lA, lB, lC, lE, lG, lH, lI, lJ, lK, lN, lX, lY, mO, mP, mQ, mR, mS, mA, mB, mD, mE, mF, mG, mH, mI, mJ, mK, mL, mM, mN, mT, oE, oF, oG, oH, oI, oJ, mU, mV, mW, mX, mY, mZ, nA, nB, nC, nD, nE, nF, nG, nH, nI, nJ, nK, oK, oL, oM, oN, oO, oP, oQ, oR, oS, oT, oU, oV, oW, oX, oY, oZ, pA, pB, pC, pD, pE, pF, pG, pH, pI, pJ, pK, pL, pM, pN, pO, pP, pQ, pR, pS, pT, pU, pV, pW, pX, pY, pZ, qA, qB, qC, qD, nL, nM, nN, nO, nP, nQ, nR, qE, qF, qG, qH, qI, qJ, qK, qL, qM, qN, qO, qP, qQ, nS, nT, nU, nV, nW, nX, nY, nZ, oA, oB, oC, qR, qS, qT, qU, qV, qW, qX, qY, dO, dP, dQ, dR, dS, dT, dU, dV, dW], []⟩ w') :
  Code.wp Try.prog (headC code20i) (Exit.then K (Exit.then K2 Q)) ⟨#[u0, .int .u8 way, .pointer (some ⟨DB, 0, none⟩), u3, u4, v, .int .i64 (dd : Int), .pointer (some ⟨LB, 0, none⟩), .int .i64 (i : Int), .pointer (some ⟨FB, 0, none⟩), gI, kI, gJ, jY, eG, eH, u16, eE, eF, dX, dY, dZ, eA, eB, eC, eD, eI, eJ, eK, eL, eM, eN, u32, eO, eP, iN, iO, iP, iQ, iR, fK, iS, iT, iU, iV, iW, iX, gK, gL, gM, gN, gO, gP, gQ, gR, gS, gT, iY, iZ, jA, jB, jC, jD, jE, u64, jF, jG, jH, jJ, jK, jL, jM, jN, jO, jP, jQ, jR, jZ, kE, kF, kG, kH, jS, jT, jU, jV, jW, jX, kJ, kK, kM, kN, kO, kP, kQ, kR, kS, kT, kU, kV, aK, aG, aA, aB, aC, aD, aE, aF, aH, aI, aJ, aL, bC, bD, bE, bF, bG, bH, bI, bJ, bK, bL, aR, aM, aN, aO, aP, aQ, aS, aT, aU, aV, aW, aX, aY, aZ, bA, bM, bN, bP, bQ, bS, bR, bT, bU, bV, bW, bX, cW, cX, cY, cZ, dA, dB, dC, dD, dE, dF, dG, dH, dI, dJ, dK, dL, dM, dN, bY, bZ, cA, cB, cC, cD, cE, cF, cG, cH, cI, cJ, cK, cM, cN, cO, cP, cQ, cR, cS, cT, cU, cV, eQ, eR, eS, eT, eU, eV, eW, eX, eY, eZ, fA, fB, fC, fD, fF, fG, fH, fI, fJ, fL, fM, fN, gU, gV, gW, gX, gY, gZ, hH, fO, fP, fQ, fR, fS, fT, fU, fV, fW, fX, fY, fZ, gA, iA, iB, iC, iD, iE, iF, iG, iH, iJ, iK, iL, iM, gB, gC, gD, gE, gF, gG, gH, dO, dP, dQ, dR, dS, dT, dU, dV, dW], []⟩ W := by
 have hgvv : (0 ≤ g.count ∧ g.count < 4294967296) := hgcount
 obtain ⟨gv, hgve⟩ : ∃ z, g.count = z := ⟨_, rfl⟩
 have hgv := hgvv
 rw [hgve] at hgv
 obtain ⟨i29, hi29, hz0, hz1, hz2⟩ := info_parts info29
 have HS := hide hS
 have HQ := hide hQ
 have hkc : Kept W W := Below.refl _ _
 have hmb := hS.bnd
 obtain ⟨y0, hy0⟩ : ∃ y, itemS 1 9 gv false = y := ⟨_, rfl⟩
 have hit0 := item17n 1 9 gv false (show (0 ≤ gv ∧ gv < 4294967296) by exact hgv) y0 hy0
 have hyok : ∀ x ∈ [y0], x.ok := by
  intro x hx
  simp only [List.mem_cons, List.not_mem_nil, or_false] at hx
  rcases hx with rfl
  ·rw [← hy0]; exact (itemS_ok (by omega) (by omega)).2
 have Hy0 := hide hy0
 clear hy0
 have hL := hS.lbox
 have hF := hS.fbox
 have hD := hS.dbox
 have b7 : W.cell? ⟨FB, 7, none⟩ = some (.int .i64 gv) := by rw [← hgve]; exact cell_heap hF (o := 7) rfl
 have lF := heap_lt hF
 have He := hide he
 have Hge := hide hgve
 have Hus := hide hus
 have Hul := hide hul
 have Hkd := hide hkd
 have Hgv := hide hgvv
 clear hS hQ he hgve hus hul hkd hgvv
 conv => arg 2; whnf
 conv at hK => enter [a, w', 1, 2]; whnf
 conv at hK2 => enter [a, w', 1, 2]; whnf
 refine ask_20 (l := l) (g := g) (w3 := w3) (nb := nb) hL hF hD hw3 _ ?_
 intro mA mB mD mE mF mG mH mI mJ mK mL mM mN
 clear hL hF hD
 cases hb : (ask w3 i l.count g.count) with
 | true =>
  have hgr : i6 w3 i l g = [y0] := by unfold i6; rw [hb, Hge.out, Hy0.out]; rfl
  have Hgr := hide hgr
  clear hgr hb
  go_upto_region 22 with (first
   | (go_at_call 17; refine (hit0 _).mono ?_; rintro e w5 ⟨rfl, hkq0⟩; replace hkc := hkc.trans' hkq0; try dsimp only)
   | (at_builtin; refine wpList_append_sl (T := itT) rfl (.tmp 142) (.tmp 146) 22 rfl w.heap.size 29 i29 _ 24 Try.underlying22 hi29 hz0 hz1 hz2 rfl (by decide) _ m outL (by rfl) ((HS.out.ownm.kept hkc).alloc _) (some ⟨_, 0, none⟩) 1 1 [y0] (by rfl) (by exact sl_it_heap (heap_at _ rfl) rfl hyok ⟨by simp, fun e => by have h9 := ((HS.out.ownm.kept hkc).lt e).2; omega⟩) (by_one29 _ _) (by unfold maxLen; omega) (by omega) (by have h9 := HS.out.kept.size; have h8 := hkc.size; simp; omega) ?_; intro v9 w9 hown9 hg9 hb9 hat9))
  refine p22 (f := f) (w2 := w2) (w3 := w3) (((HS.out.keep hkc).keep ((Below.refl _ _).alloc (Nat.le_refl _) _)).grow hg9 hb9 hown9) h7 hba hin hfl Hkd.out hfi hmm Hus.out hw hway (by rw [← He.out, Hgr.out]; simp only [List.append_assoc]) hd (by simp only [List.length_cons, List.length_nil]; omega) hBF hd6 Hul.out hw3 hgreport _ _ _ ?_ ?_ HQ.out <;> assumption
 | false =>
  have hgr : i6 w3 i l g = [] := by unfold i6; rw [hb]; rfl
  have Hgr := hide hgr
  clear hgr hb
  go_upto_region 22 with fail
  refine p22 (f := f) (w2 := w2) (w3 := w3) HS.out h7 hba hin hfl Hkd.out hfi hmm Hus.out hw hway (by rw [← He.out, Hgr.out]; rfl) hd (by omega) hBF hd6 Hul.out hw3 hgreport _ _ _ ?_ ?_ HQ.out <;> assumption
noncomputable def after18i : Code := (Try.f18.body.bind (afterQ 18)).getD .skip
set_option maxRecDepth 1000000 in
theorem p18 {w W : World} {DB LB FB ba oa n cap m B BF i dd dfin : Nat} {nb : Bool} {way w3 w2 : Int} {mm : Nat} {fi : Int} {v vl vg : Value} {outL fin : List It} {l g : Fd} {us : List Int} {f : PF} (hS : IS w W DB LB FB nb (some ⟨ba, oa, none⟩) n cap m B v vl vg outL l g us) (h7 : w.cell? ⟨ba, oa + i * 8 + 7, none⟩ = some (.int .u8 f.flags)) (hba : ba < w.heap.size) (hin : (i : Int) < (n : Int)) (hfl : u8k f.flags) (hkd : g.kind = 1 ∨ g.kind = 2 ∨ g.kind = 3) (hfi : 0 ≤ fi ∧ fi < 256) (hmm : mm ≤ 5) (hus : usesI w2 f = if w2 = 0 then [itemS 2 1 fi false, itemS 2 2 (fi + (mm : Int)) false] else (List.range (mm + 1)).map fun (k : Nat) => itemS 2 0 (fi + (k : Int)) false) (hw : (way.tdiv 3).tmod 2 = w2) (hway : u8k way) (he : outL ++ (i5 w3 i l g ++ (i6 w3 i l g ++ (i7 nb w3 i l g ++ (usesI w2 f ++ (i9 f g ++ i10 f dd))))) = fin) (hd : d2 f dd = dfin) (hB : B + 11 ≤ BF) (hBF : BF ≤ 900) (hd6 : dd ≤ 6) (hul : us = (List.range (mm + 1)).map fun (q : Nat) => 458752 + fi + (q : Int)) (hw3 : way.tmod 3 = w3) (hgreport : 0 ≤ g.report ∧ g.report < 4294967296) (hgcount : 0 ≤ g.count ∧ g.count < 4294967296) (hgsize : 0 ≤ g.size ∧ g.size < 4294967296)
  (Q : Exit → Act → World → Prop) (K K2 : Act → World → Prop) (hK : ∀ a w', Code.wp Try.prog (restC code18i) (Exit.then K2 Q) a w' → K a w') (hK2 : ∀ a w', Code.wp Try.prog after18i Q a w' → K2 a w') (hQ : ∀ (tM tP tN tO rX rY rZ sA sB sD sE sF sG sH sI tB tC tD tE tF tG tH tI tJ tK tL sJ sK sL sM sN sO sP sQ sR sS sT oD rL rM rN rO rP rQ rR rS rT rU rV rW sU sV sW sX sY sZ tA qZ rA rB rC rD rE rF rG rH rI rJ rK jI lP lS lT lU lO lV lW kX kY kZ lA lB lC lE lG lH lI lJ lK lN lX lY mO mP mQ mR mS mA mB mD mE mF mG mH mI mJ mK mL mM mN mT oE oF oG oH oI oJ mU mV mW mX mY mZ nA nB nC nD nE nF nG nH nI nJ nK oK oL oM oN oO oP oQ oR oS oT oU oV oW oX oY oZ pA pB pC pD pE pF pG pH pI pJ pK pL pM pN pO pP pQ pR pS pT pU pV pW pX pY pZ qA qB qC qD nL nM nN nO nP nQ nR qE qF qG qH qI qJ qK qL qM qN qO qP qQ nS nT nU nV nW nX nY nZ oA oB oC qR qS qT qU qV qW qX qY : Value) (v' : Value) (m' : Nat) (w' : World), IS w w' DB LB FB nb (some ⟨ba, oa, none⟩) n cap m' BF v' vg vg fin g g us → Q .normal ⟨#[u0, .int .u8 way, .pointer (some ⟨DB, 0, none⟩), u3, u4, v', .int .i64 (dfin : Int), .pointer (some ⟨LB, 0, none⟩), .int .i64 (i : Int), .pointer (some ⟨FB, 0, none⟩), tM, tP, tN, tO, eG, eH, u16, eE, eF, dX, dY, dZ, eA, eB, eC, eD, eI, eJ, eK, eL, eM, eN, u32, eO, eP, rX, rY, rZ, sA, sB, sD, sE, sF, sG, sH, sI, tB, tC, tD, tE, tF, tG, tH, tI, tJ, tK, tL, sJ, sK, sL, sM, sN, sO, sP, sQ, sR, sS, sT, oD, rL, rM, rN, rO, rP, rQ, rR, rS, rT, rU, rV, rW, sU, sV, sW, sX, sY, sZ, tA, qZ, rA, rB, rC, rD, rE, rF, rG, rH, rI, rJ, rK, jI, lP, lS, lT, lU, lO, lV, lW, kX, kY, kZ, lA, lB, lC, lE, lG, lH, lI, lJ, lK, lN, lX, lY, mO, mP, mQ, mR, mS, mA, mB, mD, mE, mF, mG, mH, mI, mJ, mK, mL, mM, mN, mT, oE, oF, oG, oH, oI, oJ, mU, mV, mW, mX, mY, mZ, nA, nB, nC, nD, nE, nF, nG, nH, nI, nJ, nK, oK, oL, oM, oN, oO, oP, oQ, oR, oS, oT, oU, oV, oW, oX, oY, oZ, pA, pB, pC, pD, pE, pF, pG, pH, pI, pJ, pK, pL, pM, pN, pO, pP, pQ, pR, pS, pT, pU, pV, pW, pX, pY, pZ, qA, qB, qC, qD, nL, nM, nN, nO, nP, nQ, nR, qE, qF, qG, qH, qI, qJ, qK, qL, qM, qN, qO, qP, qQ, nS, nT, nU, nV, nW, nX, nY, nZ, oA, oB, oC, qR, qS, qT, qU, qV, qW, qX, qY, dO, dP, dQ, dR, dS, dT, dU, dV, dW], []⟩ w') :
  Code.wp Try.prog (headC code18i) (Exit.then K (Exit.then K2 Q)) ⟨#[u0, .int .u8 way, .pointer (some ⟨DB, 0, none⟩), u3, u4, v, .int .i64 (dd : Int), .pointer (some ⟨LB, 0, none⟩), .int .i64 (i : Int), .pointer (some ⟨FB, 0, none⟩), gI, kI, gJ, jY, eG, eH, u16, eE, eF, dX, dY, dZ, eA, eB, eC, eD, eI, eJ, eK, eL, eM, eN, u32, eO, eP, iN, iO, iP, iQ, iR, fK, iS, iT, iU, iV, iW, iX, gK, gL, gM, gN, gO, gP, gQ, gR, gS, gT, iY, iZ, jA, jB, jC, jD, jE, u64, jF, jG, jH, jJ, jK, jL, jM, jN, jO, jP, jQ, jR, jZ, kE, kF, kG, kH, jS, jT, jU, jV, jW, jX, kJ, kK, kM, kN, kO, kP, kQ, kR, kS, kT, kU, kV, aK, aG, aA, aB, aC, aD, aE, aF, aH, aI, aJ, aL, bC, bD, bE, bF, bG, bH, bI, bJ, bK, bL, aR, aM, aN, aO, aP, aQ, aS, aT, aU, aV, aW, aX, aY, aZ, bA, bM, bN, bP, bQ, bS, bR, bT, bU, bV, bW, bX, cW, cX, cY, cZ, dA, dB, dC, dD, dE, dF, dG, dH, dI, dJ, dK, dL, dM, dN, bY, bZ, cA, cB, cC, cD, cE, cF, cG, cH, cI, cJ, cK, cM, cN, cO, cP, cQ, cR, cS, cT, cU, cV, eQ, eR, eS, eT, eU, eV, eW, eX, eY, eZ, fA, fB, fC, fD, fF, fG, fH, fI, fJ, fL, fM, fN, gU, gV, gW, gX, gY, gZ, hH, fO, fP, fQ, fR, fS, fT, fU, fV, fW, fX, fY, fZ, gA, iA, iB, iC, iD, iE, iF, iG, iH, iJ, iK, iL, iM, gB, gC, gD, gE, gF, gG, gH, dO, dP, dQ, dR, dS, dT, dU, dV, dW], []⟩ W := by
 have hgvv : (0 ≤ g.size ∧ g.size < 4294967296) := hgsize
 obtain ⟨gv, hgve⟩ : ∃ z, g.size = z := ⟨_, rfl⟩
 have hgv := hgvv
 rw [hgve] at hgv
 obtain ⟨i29, hi29, hz0, hz1, hz2⟩ := info_parts info29
 have HS := hide hS
 have HQ := hide hQ
 have hkc : Kept W W := Below.refl _ _
 have hmb := hS.bnd
 obtain ⟨y0, hy0⟩ : ∃ y, itemS 1 7 gv false = y := ⟨_, rfl⟩
 have hit0 := item17n 1 7 gv false (show (0 ≤ gv ∧ gv < 4294967296) by exact hgv) y0 hy0
 have hyok : ∀ x ∈ [y0], x.ok := by
  intro x hx
  simp only [List.mem_cons, List.not_mem_nil, or_false] at hx
  rcases hx with rfl
  ·rw [← hy0]; exact (itemS_ok (by omega) (by omega)).2
 have Hy0 := hide hy0
 clear hy0
 have hL := hS.lbox
 have hF := hS.fbox
 have hD := hS.dbox
 have b6 : W.cell? ⟨FB, 6, none⟩ = some (.int .i64 gv) := by rw [← hgve]; exact cell_heap hF (o := 6) rfl
 have lF := heap_lt hF
 have He := hide he
 have Hge := hide hgve
 have Hus := hide hus
 have Hul := hide hul
 have Hkd := hide hkd
 have Hgv := hide hgvv
 clear hS hQ he hgve hus hul hkd hgvv
 conv => arg 2; whnf
 conv at hK => enter [a, w', 1, 2]; whnf
 conv at hK2 => enter [a, w', 1, 2]; whnf
 refine ask_18 (l := l) (g := g) (w3 := w3) (nb := nb) hL hF hD hw3 _ ?_
 intro kX kY kZ lA lB lC lE lG lH lI lJ lK lN
 clear hL hF hD
 cases hb : (ask w3 i l.size g.size) with
 | true =>
  have hgr : i5 w3 i l g = [y0] := by unfold i5; rw [hb, Hge.out, Hy0.out]; rfl
  have Hgr := hide hgr
  clear hgr hb
  go_upto_region 20 with (first
   | (go_at_call 17; refine (hit0 _).mono ?_; rintro e w5 ⟨rfl, hkq0⟩; replace hkc := hkc.trans' hkq0; try dsimp only)
   | (at_builtin; refine wpList_append_sl (T := itT) rfl (.tmp 122) (.tmp 126) 22 rfl w.heap.size 29 i29 _ 24 Try.underlying22 hi29 hz0 hz1 hz2 rfl (by decide) _ m outL (by rfl) ((HS.out.ownm.kept hkc).alloc _) (some ⟨_, 0, none⟩) 1 1 [y0] (by rfl) (by exact sl_it_heap (heap_at _ rfl) rfl hyok ⟨by simp, fun e => by have h9 := ((HS.out.ownm.kept hkc).lt e).2; omega⟩) (by_one29 _ _) (by unfold maxLen; omega) (by omega) (by have h9 := HS.out.kept.size; have h8 := hkc.size; simp; omega) ?_; intro v9 w9 hown9 hg9 hb9 hat9))
  refine p20 (f := f) (w2 := w2) (w3 := w3) (((HS.out.keep hkc).keep ((Below.refl _ _).alloc (Nat.le_refl _) _)).grow hg9 hb9 hown9) h7 hba hin hfl Hkd.out hfi hmm Hus.out hw hway (by rw [← He.out, Hgr.out]; simp only [List.append_assoc]) hd (by simp only [List.length_cons, List.length_nil]; omega) hBF hd6 Hul.out hw3 hgreport hgcount _ _ _ ?_ ?_ HQ.out <;> assumption
 | false =>
  have hgr : i5 w3 i l g = [] := by unfold i5; rw [hb]; rfl
  have Hgr := hide hgr
  clear hgr hb
  go_upto_region 20 with fail
  refine p20 (f := f) (w2 := w2) (w3 := w3) HS.out h7 hba hin hfl Hkd.out hfi hmm Hus.out hw hway (by rw [← He.out, Hgr.out]; rfl) hd (by omega) hBF hd6 Hul.out hw3 hgreport hgcount _ _ _ ?_ ?_ HQ.out <;> assumption
end Go.Proofs.Ytegdigfcgeoboaa
