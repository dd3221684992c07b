/- The law of the chapter on reports, part 19: Vb La We Wf Wg. -/
import Derived.Test.YtegdigfcgeoboaaK18
set_option maxHeartbeats 16000000
set_option linter.unusedVariables false
set_option linter.unusedSimpArgs false
set_option linter.unusedSectionVars false
namespace Go.Proofs.Ytegdigfcgeoboaa
open Go.RowKit
def iI (t g n : Int) : It := itemS t g n false
def headL : List It := [iI 1 7 1, iI 1 9 1, iI 0 10 0]
def endL : List It := [iI 0 12 0]
def repL (k : Nat) (ys : List It) : List It := (List.replicate k ys).flatten
def partL (n : Int) : Nat → List It
 | 0 => repL (256 + n).toNat [iI 0 8 1]
 | 1 => repL (63 + n).toNat [iI 0 10 0, iI 0 12 0]
 | 2 => [iI 2 1 1, iI 2 2 (512 + n)]
 | 3 => repL 16 [iI 1 7 1, iI 1 9 255, iI 0 9 1] ++ [iI 1 9 (16 + n), iI 0 9 1]
 | _ => repL (8 + n).toNat [iI 1 10 0] ++ repL (8 + n).toNat [iI 1 11 0]
def allL (n : Int) (i : Nat) : List It := headL ++ partL n i ++ endL
theorem lim0a : (parseS (allL (-1) 0)).1 = 0 := by kernel_rfl
theorem lim0b : (parseS (allL 0 0)).1 = 0 := by kernel_rfl
theorem lim0c : (parseS (allL 1 0)).1 = 3 := by kernel_rfl
theorem lim1a : (parseS (allL (-1) 1)).1 = 0 := by kernel_rfl
theorem lim1b : (parseS (allL 0 1)).1 = 0 := by kernel_rfl
theorem lim1c : (parseS (allL 1 1)).1 = 3 := by kernel_rfl
theorem lim2a : (parseS (allL (-1) 2)).1 = 0 := by kernel_rfl
theorem lim2b : (parseS (allL 0 2)).1 = 0 := by kernel_rfl
theorem lim2c : (parseS (allL 1 2)).1 = 3 := by kernel_rfl
theorem lim3a : (parseS (allL (-1) 3)).1 = 0 := by kernel_rfl
theorem lim3b : (parseS (allL 0 3)).1 = 0 := by kernel_rfl
theorem lim3c : (parseS (allL 1 3)).1 = 3 := by kernel_rfl
theorem lim4a : (parseS (allL (-1) 4)).1 = 0 := by kernel_rfl
theorem lim4b : (parseS (allL 0 4)).1 = 0 := by kernel_rfl
theorem lim4c : (parseS (allL 1 4)).1 = 3 := by kernel_rfl
theorem wide_all : ∀ i : Fin 5, ((allL (-1) i.val).all It.wide && (allL 0 i.val).all It.wide && (allL 1 i.val).all It.wide) = true := by decide +kernel
structure KeptTo (P B : Nat) (w w' : World) : Prop where
 os : w'.os = w.os
 tape : w'.tape = w.tape
 output : w'.output = w.output
 size : w.heap.size ≤ w'.heap.size
 block : ∀ k, k < B → k ≠ P → w'.heap[k]? = w.heap[k]?
section
variable {P B : Nat} {w w' w'' : World}
theorem KeptTo.refl : KeptTo P B w w := ⟨rfl, rfl, rfl, Nat.le_refl _, fun _ _ _ => rfl⟩
theorem KeptTo.trans (h : KeptTo P B w w') (k : KeptTo P B w' w'') : KeptTo P B w w'' := ⟨k.os.trans h.os, k.tape.trans h.tape, k.output.trans h.output, Nat.le_trans h.size k.size, fun i h1 h2 => (k.block i h1 h2).trans (h.block i h1 h2)⟩
theorem KeptTo.of (h : Kept w w') (hB : B ≤ w.heap.size) : KeptTo P B w w' := ⟨h.os, h.tape, h.output, h.size, fun k h1 _ => h.block k (by omega)⟩
theorem KeptTo.set (i : Nat) (u : Value) : KeptTo P B w (w.setCell ⟨P, i, none⟩ u) := ⟨rfl, rfl, rfl, by rw [World.size_setCell]; exact Nat.le_refl _, fun k _ h2 => Below.heap_setCell _ _ _ k h2⟩
theorem KeptTo.below (h : Below B w w') : KeptTo P B w w' := ⟨h.os, h.tape, h.output, h.size, fun i h1 _ => h.block i h1⟩
theorem KeptTo.kept (h : KeptTo P B w w') {w0 : World} (h0 : Kept w0 w) (hP : w0.heap.size ≤ P) (hB : P < B) : Kept w0 w' := ⟨h.os.trans h0.os, h.tape.trans h0.tape, h.output.trans h0.output, Nat.le_trans h0.size h.size, fun k hk => (h.block k (by omega) (by omega)).trans (h0.block k hk)⟩
end
def PartIs (P B : Nat) (w : World) (v : Value) (l : List It) : Prop := ∃ A c, v = .slice A l.length c ∧ l.length ≤ c ∧ c ≤ maxLen ∧ Sl itT w (fun b => b < B ∧ b ≠ P) A l.length l
section
variable {P B : Nat} {w w' : World} {v : Value} {l : List It}
theorem PartIs.keep (h : PartIs P B w v l) (hk : KeptTo P B w w') : PartIs P B w' v l := by
 obtain ⟨A, c, e, h1, h2, h3⟩ := h
 exact ⟨A, c, e, h1, h2, h3.keep (fun _ hb => hb) (fun b o hb => World.cell?_of_block (a := ⟨b, o, none⟩) (hk.block b hb.1 hb.2))⟩
theorem PartIs.mono (h : PartIs P B w v l) {B' : Nat} (hB : B ≤ B') : PartIs P B' w v l := by
 obtain ⟨A, c, e, h1, h2, h3⟩ := h
 exact ⟨A, c, e, h1, h2, h3.keep (fun _ hb => ⟨by omega, hb.2⟩) (fun _ _ _ => rfl)⟩
theorem PartIs.own {base : Nat} (h : Own itT 29 base w v l.length l) (hP : P < base) : PartIs P w.heap.size w v l := by
 obtain ⟨A, c, rfl, h1, h2⟩ := h.isSlice
 exact ⟨A, c, rfl, h1, h2, h.sl_of _ (fun g h3 h4 => ⟨h4, by omega⟩) (fun _ _ h => h)⟩
end
theorem sl_it_heap {w : World} {b : Nat} {t : TypeId} {xs : List It} {cs : Array Value} {F : Nat → Prop} (h : w.heap[b]? = some (.cells cs t (0, 0))) (hc : cs = (xs.flatMap It.cells).toArray) (hx : ∀ x ∈ xs, x.ok) (hF : F b) : Sl itT w F (some ⟨b, 0, none⟩) xs.length xs := by
 subst hc
 refine ⟨rfl, fun i x hi => ⟨b, 0, x.cells, rfl, hF, ⟨rfl, hx x (List.mem_of_getElem? hi)⟩, fun j v hv => cell_heap h ?_⟩⟩
 have h4 := itCs_at xs i x hi
 unfold itCs at h4
 have hj : j < 4 := (List.getElem?_eq_some_iff.1 hv).1
 rw [← h4, List.getElem?_take_of_lt hj, List.getElem?_drop] at hv
 show (xs.flatMap It.cells).toArray[0 + i * 4 + j]? = _
 rw [List.getElem?_toArray, show 0 + i * 4 + j = i * 4 + j by omega]
 exact hv
theorem repL_succ (k : Nat) (ys : List It) : repL (k + 1) ys = repL k ys ++ ys := by
 unfold repL
 rw [List.replicate_succ', List.flatten_append]
 simp
theorem repL_len (k : Nat) (ys : List It) : (repL k ys).length = k * ys.length := by
 unfold repL
 simp [List.length_flatten, List.map_replicate]
theorem item17i (t g n : Int) (h0 : 0 ≤ n) (h1 : n < 4294967296) (x : It) (hx : iI t g n = x) (w : World) : Calls Try.prog 17 #[.int .u8 t, .int .u8 g, .int .i64 n, .bool false] w fun e w' => e = .returned (.agg #[.int .u8 x.ty, .int .u8 x.tg, .int .i64 x.size, .int .u32 x.data]) ∧ Kept w w' := by
 have h := item17u t g n h0 h1 w
 rw [show itemS t g n false = x from hx] at h
 exact h
theorem by_one29 : ∀ (F : Nat → Prop) (w : World) (x : It) (cs : List Value), itT.rel w F x cs → ∀ u ∈ cs, u.oneCell' = true := by
 rintro F w x cs ⟨rfl, _⟩ u hu
 simp [It.cells] at hu
 rcases hu with rfl | rfl | rfl | rfl <;> rfl
theorem iI_ok {t g n : Int} (ht : 0 ≤ t ∧ t ≤ 2) (hg : 0 ≤ g ∧ g ≤ 15) : (iI t g n).ok := (itemS_ok ht hg).2
end Go.Proofs.Ytegdigfcgeoboaa
namespace Go.Proofs.Ytegdigfcgeoboaa
open Go.RowKit
attribute [local go_sem ↓] Go.wp_at_zero Go.wp_at_succ
structure IS (w W : World) (DB LB FB : Nat) (nb : Bool) (A : Option Addr) (n cap m B : Nat) (v vl vg : Value) (outL : List It) (l g : Fd) (us : List Int) : Prop where
 kept : Kept w W
 dbox : W.heap[DB]? = some (.cells #[.bool nb, .slice A n cap] 52 (0, 0))
 lbox : W.heap[LB]? = some (.cells (l.cellsAt vl) 59 (0, 0))
 fbox : W.heap[FB]? = some (.cells (g.cellsAt vg) 59 (0, 0))
 low : w.heap.size ≤ DB ∧ w.heap.size ≤ LB ∧ w.heap.size ≤ FB ∧ LB ≠ FB
 own : Own itT 29 w.heap.size W v outL.length outL
 us : Own u32T 27 w.heap.size W vg us.length us
 len : outL.length = m
 bnd : m ≤ B
section
variable {w W W' : World} {DB LB FB n cap m B : Nat} {nb : Bool} {A : Option Addr} {v v' vl vg : Value} {outL ys : List It} {l g : Fd} {us : List Int}
theorem flat_it : Flat itT := fun {_ _ _ _ _ _} h => h
theorem IS.keep (h : IS w W DB LB FB nb A n cap m B v vl vg outL l g us) (hk : Kept W W') : IS w W' DB LB FB nb A n cap m B v vl vg outL l g us :=
 ⟨h.kept.trans' hk, heap_kept hk h.dbox, heap_kept hk h.lbox, heap_kept hk h.fbox, h.low, h.own.kept hk, h.us.kept hk, h.len, h.bnd⟩
theorem IS.grow (h : IS w W DB LB FB nb A n cap m B v vl vg outL l g us) (hg : W.grownBy W' v.ownBlock) (hb : Below w.heap.size W W') (ho : Own itT 29 w.heap.size W' v' (m + ys.length) (outL ++ ys)) : IS w W' DB LB FB nb A n cap (m + ys.length) (B + ys.length) v' vl vg (outL ++ ys) l g us := by
 have hl := h.len
 have hbn := h.bnd
 refine ⟨h.kept.trans hb, heap_grown hg h.dbox (fun e => own_type_ne h.own h.dbox (by decide) e.symm), heap_grown hg h.lbox (fun e => own_type_ne h.own h.lbox (by decide) e.symm), heap_grown hg h.fbox (fun e => own_type_ne h.own h.fbox (by decide) e.symm), h.low, by rw [List.length_append, hl]; exact ho, h.us.grownF flat_u32 hg (rows_apart h.us h.own (by decide)), by rw [List.length_append, hl], by omega⟩
theorem IS.bump (h : IS w W DB LB FB nb A n cap m B v vl vg outL l g us) {B' : Nat} (hB : B ≤ B') : IS w W DB LB FB nb A n cap m B' v vl vg outL l g us :=
 ⟨h.kept, h.dbox, h.lbox, h.fbox, h.low, h.own, h.us, h.len, Nat.le_trans h.bnd hB⟩
end
theorem item17n (t g n : Int) (sg : Bool) (h : if sg then -32768 ≤ n ∧ n < 2147483648 else 0 ≤ n ∧ n < 4294967296) (x : It) (hx : itemS t g n sg = x) (w : World) : Calls Try.prog 17 #[.int .u8 t, .int .u8 g, .int .i64 n, .bool sg] w fun e w' => e = .returned (.agg #[.int .u8 x.ty, .int .u8 x.tg, .int .i64 x.size, .int .u32 x.data]) ∧ Kept w w' := by
 subst hx
 cases sg with
 | false => exact item17u t g n h.1 h.2 w
 | true => exact item17s t g n h.1 h.2 w
variable {u0 u2 u3 u4 u5 u6 gI kI gJ jY eG eH u16 eE eF dX dY dZ eA eB eC eD eI eJ eK eL eM eN u32 eO eP iN iO iP iQ iR fK iS iT iU iV iW iX gK gL gM gN gO gP gQ gR gS gT iY iZ jA jB jC jD jE u64 jF jG jH jJ jK jL jM jN jO jP jQ jR jZ kE kF kG kH jS jT jU jV jW jX kJ kK kM kN kO kP kQ kR kS kT kU kV aK aG aA aB aC aD aE aF aH aI aJ aL bC bD bE bF bG bH bI bJ bK bL aR aM aN aO aP aQ aS aT aU aV aW aX aY aZ bA bM bN bP bQ bS bR bT bU bV bW bX cW cX cY cZ dA dB dC dD dE dF dG dH dI dJ dK dL dM dN bY bZ cA cB cC cD cE cF cG cH cI cJ cK cM cN cO cP cQ cR cS cT cU cV eQ eR eS eT eU eV eW eX eY eZ fA fB fC fD fF fG fH fI fJ fL fM fN gU gV gW gX gY gZ hH fO fP fQ fR fS fT fU fV fW fX fY fZ gA iA iB iC iD iE iF iG iH iJ iK iL iM gB gC gD gE gF gG gH dO dP dQ dR dS dT dU dV dW : Value}
noncomputable def code14i : Code := (Try.f18.body.bind (findQ 14)).getD .skip
set_option maxRecDepth 1000000 in
theorem ask_14 {W : World} {LB FB DB i n cap : Nat} {nb : Bool} {A : Option Addr} {way w3 : Int} {vl vg : Value} {l g : Fd} (hL : W.heap[LB]? = some (.cells (l.cellsAt vl) 59 (0, 0))) (hF : W.heap[FB]? = some (.cells (g.cellsAt vg) 59 (0, 0))) (hD : W.heap[DB]? = some (.cells #[.bool nb, .slice A n cap] 52 (0, 0))) (hw : way.tmod 3 = w3)
  (Q : Exit → Act → World → Prop) (hQ : ∀ (oD rL rM rN rO rP rQ rR rS rT rU rV rW : Value), Q .normal ⟨#[u0, .int .u8 way, u2, u3, u4, u5, u6, .pointer (some ⟨LB, 0, none⟩), .int .i64 (i : Int), .pointer (some ⟨FB, 0, none⟩), gI, kI, gJ, jY, eG, eH, u16, eE, eF, dX, dY, dZ, eA, eB, eC, eD, eI, eJ, eK, eL, eM, eN, u32, eO, eP, iN, iO, iP, iQ, iR, fK, iS, iT, iU, iV, iW, iX, gK, gL, gM, gN, gO, gP, gQ, gR, gS, gT, iY, iZ, jA, jB, jC, jD, jE, u64, jF, jG, jH, oD, rL, rM, rN, rO, rP, rQ, rR, rS, rT, rU, rV, rW, .bool (ask w3 i l.lo g.lo), jS, jT, jU, jV, jW, jX, kJ, kK, kM, kN, kO, kP, kQ, kR, kS, kT, kU, kV, aK, aG, aA, aB, aC, aD, aE, aF, aH, aI, aJ, aL, bC, bD, bE, bF, bG, bH, bI, bJ, bK, bL, aR, aM, aN, aO, aP, aQ, aS, aT, aU, aV, aW, aX, aY, aZ, bA, bM, bN, bP, bQ, bS, bR, bT, bU, bV, bW, bX, cW, cX, cY, cZ, dA, dB, dC, dD, dE, dF, dG, dH, dI, dJ, dK, dL, dM, dN, bY, bZ, cA, cB, cC, cD, cE, cF, cG, cH, cI, cJ, cK, cM, cN, cO, cP, cQ, cR, cS, cT, cU, cV, eQ, eR, eS, eT, eU, eV, eW, eX, eY, eZ, fA, fB, fC, fD, fF, fG, fH, fI, fJ, fL, fM, fN, gU, gV, gW, gX, gY, gZ, hH, fO, fP, fQ, fR, fS, fT, fU, fV, fW, fX, fY, fZ, gA, iA, iB, iC, iD, iE, iF, iG, iH, iJ, iK, iL, iM, gB, gC, gD, gE, gF, gG, gH, dO, dP, dQ, dR, dS, dT, dU, dV, dW], []⟩ W) :
  Code.wp Try.prog (headC code14i) Q ⟨#[u0, .int .u8 way, u2, u3, u4, u5, u6, .pointer (some ⟨LB, 0, none⟩), .int .i64 (i : Int), .pointer (some ⟨FB, 0, none⟩), gI, kI, gJ, jY, eG, eH, u16, eE, eF, dX, dY, dZ, eA, eB, eC, eD, eI, eJ, eK, eL, eM, eN, u32, eO, eP, iN, iO, iP, iQ, iR, fK, iS, iT, iU, iV, iW, iX, gK, gL, gM, gN, gO, gP, gQ, gR, gS, gT, iY, iZ, jA, jB, jC, jD, jE, u64, jF, jG, jH, jJ, jK, jL, jM, jN, jO, jP, jQ, jR, jZ, kE, kF, kG, kH, jS, jT, jU, jV, jW, jX, kJ, kK, kM, kN, kO, kP, kQ, kR, kS, kT, kU, kV, aK, aG, aA, aB, aC, aD, aE, aF, aH, aI, aJ, aL, bC, bD, bE, bF, bG, bH, bI, bJ, bK, bL, aR, aM, aN, aO, aP, aQ, aS, aT, aU, aV, aW, aX, aY, aZ, bA, bM, bN, bP, bQ, bS, bR, bT, bU, bV, bW, bX, cW, cX, cY, cZ, dA, dB, dC, dD, dE, dF, dG, dH, dI, dJ, dK, dL, dM, dN, bY, bZ, cA, cB, cC, cD, cE, cF, cG, cH, cI, cJ, cK, cM, cN, cO, cP, cQ, cR, cS, cT, cU, cV, eQ, eR, eS, eT, eU, eV, eW, eX, eY, eZ, fA, fB, fC, fD, fF, fG, fH, fI, fJ, fL, fM, fN, gU, gV, gW, gX, gY, gZ, hH, fO, fP, fQ, fR, fS, fT, fU, fV, fW, fX, fY, fZ, gA, iA, iB, iC, iD, iE, iF, iG, iH, iJ, iK, iL, iM, gB, gC, gD, gE, gF, gG, gH, dO, dP, dQ, dR, dS, dT, dU, dV, dW], []⟩ W := by
 have a4 : W.cell? ⟨LB, 4, none⟩ = some (.int .i64 l.lo) := cell_heap hL (o := 4) rfl
 have b4 : W.cell? ⟨FB, 4, none⟩ = some (.int .i64 g.lo) := cell_heap hF (o := 4) rfl
 have d0 : W.cell? ⟨DB, 0, none⟩ = some (.bool nb) := cell_heap hD (o := 0) rfl
 have lL := heap_lt hL
 have lF := heap_lt hF
 have lD := heap_lt hD
 obtain ⟨r, hr⟩ : ∃ r, (ask w3 i l.lo g.lo) = r := ⟨_, rfl⟩
 rw [hr] at hQ
 have HQ := hide hQ
 clear hQ hL hF hD
 unfold ask at hr
 obtain ⟨c1, hc1⟩ : ∃ c, (w3 == 1) = c := ⟨_, rfl⟩
 obtain ⟨c2, hc2⟩ : ∃ c, decide (i = 0) = c := ⟨_, rfl⟩
 obtain ⟨c3, hc3⟩ : ∃ c, (l.lo == g.lo) = c := ⟨_, rfl⟩
 rw [hc1, hc2, hc3] at hr
 have n1 : (w3 != 1) = !c1 := by rw [← hc1]; rfl
 have n2 : ((i : Int) == 0) = c2 := by rw [← hc2]; by_cases h : i = 0 <;> simp [h]
 have n3 : (l.lo != g.lo) = !c3 := by rw [← hc3]; rfl
 clear hc2
 conv => arg 2; whnf
 cases c1 with
 | false =>
  clear hc3
  subst hr
  go_wp2_with fail
  exact HQ.out _ _ _ _ _ _ _ _ _ _ _ _ _ 
 | true =>
 cases c2 with
 | true =>
  clear hc3
  subst hr
  go_wp2_with fail
  exact HQ.out _ _ _ _ _ _ _ _ _ _ _ _ _ 
 | false =>
 cases c3 with
 | true =>
  subst hr
  go_wp2_with fail
  exact HQ.out _ _ _ _ _ _ _ _ _ _ _ _ _ 
 | false =>
  subst hr
  go_wp2_with fail
  exact HQ.out _ _ _ _ _ _ _ _ _ _ _ _ _ 
noncomputable def code16i : Code := (Try.f18.body.bind (findQ 16)).getD .skip
set_option maxRecDepth 1000000 in
theorem ask_16 {W : World} {LB FB DB i n cap : Nat} {nb : Bool} {A : Option Addr} {way w3 : Int} {vl vg : Value} {l g : Fd} (hL : W.heap[LB]? = some (.cells (l.cellsAt vl) 59 (0, 0))) (hF : W.heap[FB]? = some (.cells (g.cellsAt vg) 59 (0, 0))) (hD : W.heap[DB]? = some (.cells #[.bool nb, .slice A n cap] 52 (0, 0))) (hw : way.tmod 3 = w3)
  (Q : Exit → Act → World → Prop) (hQ : ∀ (qZ rA rB rC rD rE rF rG rH rI rJ rK jI : Value), Q .normal ⟨#[u0, .int .u8 way, u2, u3, u4, u5, u6, .pointer (some ⟨LB, 0, none⟩), .int .i64 (i : Int), .pointer (some ⟨FB, 0, none⟩), gI, kI, gJ, jY, eG, eH, u16, eE, eF, dX, dY, dZ, eA, eB, eC, eD, eI, eJ, eK, eL, eM, eN, u32, eO, eP, iN, iO, iP, iQ, iR, fK, iS, iT, iU, iV, iW, iX, gK, gL, gM, gN, gO, gP, gQ, gR, gS, gT, iY, iZ, jA, jB, jC, jD, jE, u64, jF, jG, jH, jJ, jK, jL, jM, jN, jO, jP, jQ, jR, jZ, kE, kF, kG, kH, jS, jT, jU, jV, jW, jX, qZ, rA, rB, rC, rD, rE, rF, rG, rH, rI, rJ, rK, jI, .bool (ask w3 i l.hi g.hi), aA, aB, aC, aD, aE, aF, aH, aI, aJ, aL, bC, bD, bE, bF, bG, bH, bI, bJ, bK, bL, aR, aM, aN, aO, aP, aQ, aS, aT, aU, aV, aW, aX, aY, aZ, bA, bM, bN, bP, bQ, bS, bR, bT, bU, bV, bW, bX, cW, cX, cY, cZ, dA, dB, dC, dD, dE, dF, dG, dH, dI, dJ, dK, dL, dM, dN, bY, bZ, cA, cB, cC, cD, cE, cF, cG, cH, cI, cJ, cK, cM, cN, cO, cP, cQ, cR, cS, cT, cU, cV, eQ, eR, eS, eT, eU, eV, eW, eX, eY, eZ, fA, fB, fC, fD, fF, fG, fH, fI, fJ, fL, fM, fN, gU, gV, gW, gX, gY, gZ, hH, fO, fP, fQ, fR, fS, fT, fU, fV, fW, fX, fY, fZ, gA, iA, iB, iC, iD, iE, iF, iG, iH, iJ, iK, iL, iM, gB, gC, gD, gE, gF, gG, gH, dO, dP, dQ, dR, dS, dT, dU, dV, dW], []⟩ W) :
  Code.wp Try.prog (headC code16i) Q ⟨#[u0, .int .u8 way, u2, u3, u4, u5, u6, .pointer (some ⟨LB, 0, none⟩), .int .i64 (i : Int), .pointer (some ⟨FB, 0, none⟩), gI, kI, gJ, jY, eG, eH, u16, eE, eF, dX, dY, dZ, eA, eB, eC, eD, eI, eJ, eK, eL, eM, eN, u32, eO, eP, iN, iO, iP, iQ, iR, fK, iS, iT, iU, iV, iW, iX, gK, gL, gM, gN, gO, gP, gQ, gR, gS, gT, iY, iZ, jA, jB, jC, jD, jE, u64, jF, jG, jH, jJ, jK, jL, jM, jN, jO, jP, jQ, jR, jZ, kE, kF, kG, kH, jS, jT, jU, jV, jW, jX, kJ, kK, kM, kN, kO, kP, kQ, kR, kS, kT, kU, kV, aK, aG, aA, aB, aC, aD, aE, aF, aH, aI, aJ, aL, bC, bD, bE, bF, bG, bH, bI, bJ, bK, bL, aR, aM, aN, aO, aP, aQ, aS, aT, aU, aV, aW, aX, aY, aZ, bA, bM, bN, bP, bQ, bS, bR, bT, bU, bV, bW, bX, cW, cX, cY, cZ, dA, dB, dC, dD, dE, dF, dG, dH, dI, dJ, dK, dL, dM, dN, bY, bZ, cA, cB, cC, cD, cE, cF, cG, cH, cI, cJ, cK, cM, cN, cO, cP, cQ, cR, cS, cT, cU, cV, eQ, eR, eS, eT, eU, eV, eW, eX, eY, eZ, fA, fB, fC, fD, fF, fG, fH, fI, fJ, fL, fM, fN, gU, gV, gW, gX, gY, gZ, hH, fO, fP, fQ, fR, fS, fT, fU, fV, fW, fX, fY, fZ, gA, iA, iB, iC, iD, iE, iF, iG, iH, iJ, iK, iL, iM, gB, gC, gD, gE, gF, gG, gH, dO, dP, dQ, dR, dS, dT, dU, dV, dW], []⟩ W := by
 have a5 : W.cell? ⟨LB, 5, none⟩ = some (.int .i64 l.hi) := cell_heap hL (o := 5) rfl
 have b5 : W.cell? ⟨FB, 5, none⟩ = some (.int .i64 g.hi) := cell_heap hF (o := 5) rfl
 have d0 : W.cell? ⟨DB, 0, none⟩ = some (.bool nb) := cell_heap hD (o := 0) rfl
 have lL := heap_lt hL
 have lF := heap_lt hF
 have lD := heap_lt hD
 obtain ⟨r, hr⟩ : ∃ r, (ask w3 i l.hi g.hi) = r := ⟨_, rfl⟩
 rw [hr] at hQ
 have HQ := hide hQ
 clear hQ hL hF hD
 unfold ask at hr
 obtain ⟨c1, hc1⟩ : ∃ c, (w3 == 1) = c := ⟨_, rfl⟩
 obtain ⟨c2, hc2⟩ : ∃ c, decide (i = 0) = c := ⟨_, rfl⟩
 obtain ⟨c3, hc3⟩ : ∃ c, (l.hi == g.hi) = c := ⟨_, rfl⟩
 rw [hc1, hc2, hc3] at hr
 have n1 : (w3 != 1) = !c1 := by rw [← hc1]; rfl
 have n2 : ((i : Int) == 0) = c2 := by rw [← hc2]; by_cases h : i = 0 <;> simp [h]
 have n3 : (l.hi != g.hi) = !c3 := by rw [← hc3]; rfl
 clear hc2
 conv => arg 2; whnf
 cases c1 with
 | false =>
  clear hc3
  subst hr
  go_wp2_with fail
  exact HQ.out _ _ _ _ _ _ _ _ _ _ _ _ _ 
 | true =>
 cases c2 with
 | true =>
  clear hc3
  subst hr
  go_wp2_with fail
  exact HQ.out _ _ _ _ _ _ _ _ _ _ _ _ _ 
 | false =>
 cases c3 with
 | true =>
  subst hr
  go_wp2_with fail
  exact HQ.out _ _ _ _ _ _ _ _ _ _ _ _ _ 
 | false =>
  subst hr
  go_wp2_with fail
  exact HQ.out _ _ _ _ _ _ _ _ _ _ _ _ _ 
noncomputable def code18i : Code := (Try.f18.body.bind (findQ 18)).getD .skip
set_option maxRecDepth 1000000 in
theorem ask_18 {W : World} {LB FB DB i n cap : Nat} {nb : Bool} {A : Option Addr} {way w3 : Int} {vl vg : Value} {l g : Fd} (hL : W.heap[LB]? = some (.cells (l.cellsAt vl) 59 (0, 0))) (hF : W.heap[FB]? = some (.cells (g.cellsAt vg) 59 (0, 0))) (hD : W.heap[DB]? = some (.cells #[.bool nb, .slice A n cap] 52 (0, 0))) (hw : way.tmod 3 = w3)
  (Q : Exit → Act → World → Prop) (hQ : ∀ (kX kY kZ lA lB lC lE lG lH lI lJ lK lN : Value), Q .normal ⟨#[u0, .int .u8 way, u2, u3, u4, u5, u6, .pointer (some ⟨LB, 0, none⟩), .int .i64 (i : Int), .pointer (some ⟨FB, 0, none⟩), gI, kI, gJ, jY, eG, eH, u16, eE, eF, dX, dY, dZ, eA, eB, eC, eD, eI, eJ, eK, eL, eM, eN, u32, eO, eP, iN, iO, iP, iQ, iR, fK, iS, iT, iU, iV, iW, iX, gK, gL, gM, gN, gO, gP, gQ, gR, gS, gT, iY, iZ, jA, jB, jC, jD, jE, u64, jF, jG, jH, jJ, jK, jL, jM, jN, jO, jP, jQ, jR, jZ, kE, kF, kG, kH, jS, jT, jU, jV, jW, jX, kJ, kK, kM, kN, kO, kP, kQ, kR, kS, kT, kU, kV, aK, aG, aA, aB, aC, aD, aE, aF, kX, kY, kZ, lA, lB, lC, lE, lG, lH, lI, lJ, lK, lN, .bool (ask w3 i l.size g.size), aR, aM, aN, aO, aP, aQ, aS, aT, aU, aV, aW, aX, aY, aZ, bA, bM, bN, bP, bQ, bS, bR, bT, bU, bV, bW, bX, cW, cX, cY, cZ, dA, dB, dC, dD, dE, dF, dG, dH, dI, dJ, dK, dL, dM, dN, bY, bZ, cA, cB, cC, cD, cE, cF, cG, cH, cI, cJ, cK, cM, cN, cO, cP, cQ, cR, cS, cT, cU, cV, eQ, eR, eS, eT, eU, eV, eW, eX, eY, eZ, fA, fB, fC, fD, fF, fG, fH, fI, fJ, fL, fM, fN, gU, gV, gW, gX, gY, gZ, hH, fO, fP, fQ, fR, fS, fT, fU, fV, fW, fX, fY, fZ, gA, iA, iB, iC, iD, iE, iF, iG, iH, iJ, iK, iL, iM, gB, gC, gD, gE, gF, gG, gH, dO, dP, dQ, dR, dS, dT, dU, dV, dW], []⟩ W) :
  Code.wp Try.prog (headC code18i) Q ⟨#[u0, .int .u8 way, u2, u3, u4, u5, u6, .pointer (some ⟨LB, 0, none⟩), .int .i64 (i : Int), .pointer (some ⟨FB, 0, none⟩), gI, kI, gJ, jY, eG, eH, u16, eE, eF, dX, dY, dZ, eA, eB, eC, eD, eI, eJ, eK, eL, eM, eN, u32, eO, eP, iN, iO, iP, iQ, iR, fK, iS, iT, iU, iV, iW, iX, gK, gL, gM, gN, gO, gP, gQ, gR, gS, gT, iY, iZ, jA, jB, jC, jD, jE, u64, jF, jG, jH, jJ, jK, jL, jM, jN, jO, jP, jQ, jR, jZ, kE, kF, kG, kH, jS, jT, jU, jV, jW, jX, kJ, kK, kM, kN, kO, kP, kQ, kR, kS, kT, kU, kV, aK, aG, aA, aB, aC, aD, aE, aF, aH, aI, aJ, aL, bC, bD, bE, bF, bG, bH, bI, bJ, bK, bL, aR, aM, aN, aO, aP, aQ, aS, aT, aU, aV, aW, aX, aY, aZ, bA, bM, bN, bP, bQ, bS, bR, bT, bU, bV, bW, bX, cW, cX, cY, cZ, dA, dB, dC, dD, dE, dF, dG, dH, dI, dJ, dK, dL, dM, dN, bY, bZ, cA, cB, cC, cD, cE, cF, cG, cH, cI, cJ, cK, cM, cN, cO, cP, cQ, cR, cS, cT, cU, cV, eQ, eR, eS, eT, eU, eV, eW, eX, eY, eZ, fA, fB, fC, fD, fF, fG, fH, fI, fJ, fL, fM, fN, gU, gV, gW, gX, gY, gZ, hH, fO, fP, fQ, fR, fS, fT, fU, fV, fW, fX, fY, fZ, gA, iA, iB, iC, iD, iE, iF, iG, iH, iJ, iK, iL, iM, gB, gC, gD, gE, gF, gG, gH, dO, dP, dQ, dR, dS, dT, dU, dV, dW], []⟩ W := by
 have a6 : W.cell? ⟨LB, 6, none⟩ = some (.int .i64 l.size) := cell_heap hL (o := 6) rfl
 have b6 : W.cell? ⟨FB, 6, none⟩ = some (.int .i64 g.size) := cell_heap hF (o := 6) rfl
 have d0 : W.cell? ⟨DB, 0, none⟩ = some (.bool nb) := cell_heap hD (o := 0) rfl
 have lL := heap_lt hL
 have lF := heap_lt hF
 have lD := heap_lt hD
 obtain ⟨r, hr⟩ : ∃ r, (ask w3 i l.size g.size) = r := ⟨_, rfl⟩
 rw [hr] at hQ
 have HQ := hide hQ
 clear hQ hL hF hD
 unfold ask at hr
 obtain ⟨c1, hc1⟩ : ∃ c, (w3 == 1) = c := ⟨_, rfl⟩
 obtain ⟨c2, hc2⟩ : ∃ c, decide (i = 0) = c := ⟨_, rfl⟩
 obtain ⟨c3, hc3⟩ : ∃ c, (l.size == g.size) = c := ⟨_, rfl⟩
 rw [hc1, hc2, hc3] at hr
 have n1 : (w3 != 1) = !c1 := by rw [← hc1]; rfl
 have n2 : ((i : Int) == 0) = c2 := by rw [← hc2]; by_cases h : i = 0 <;> simp [h]
 have n3 : (l.size != g.size) = !c3 := by rw [← hc3]; rfl
 clear hc2
 conv => arg 2; whnf
 cases c1 with
 | false =>
  clear hc3
  subst hr
  go_wp2_with fail
  exact HQ.out _ _ _ _ _ _ _ _ _ _ _ _ _ 
 | true =>
 cases c2 with
 | true =>
  clear hc3
  subst hr
  go_wp2_with fail
  exact HQ.out _ _ _ _ _ _ _ _ _ _ _ _ _ 
 | false =>
 cases c3 with
 | true =>
  subst hr
  go_wp2_with fail
  exact HQ.out _ _ _ _ _ _ _ _ _ _ _ _ _ 
 | false =>
  subst hr
  go_wp2_with fail
  exact HQ.out _ _ _ _ _ _ _ _ _ _ _ _ _ 
noncomputable def code20i : Code := (Try.f18.body.bind (findQ 20)).getD .skip
set_option maxRecDepth 1000000 in
theorem ask_20 {W : World} {LB FB DB i n cap : Nat} {nb : Bool} {A : Option Addr} {way w3 : Int} {vl vg : Value} {l g : Fd} (hL : W.heap[LB]? = some (.cells (l.cellsAt vl) 59 (0, 0))) (hF : W.heap[FB]? = some (.cells (g.cellsAt vg) 59 (0, 0))) (hD : W.heap[DB]? = some (.cells #[.bool nb, .slice A n cap] 52 (0, 0))) (hw : way.tmod 3 = w3)
  (Q : Exit → Act → World → Prop) (hQ : ∀ (mA mB mD mE mF mG mH mI mJ mK mL mM mN : Value), Q .normal ⟨#[u0, .int .u8 way, u2, u3, u4, u5, u6, .pointer (some ⟨LB, 0, none⟩), .int .i64 (i : Int), .pointer (some ⟨FB, 0, none⟩), gI, kI, gJ, jY, eG, eH, u16, eE, eF, dX, dY, dZ, eA, eB, eC, eD, eI, eJ, eK, eL, eM, eN, u32, eO, eP, iN, iO, iP, iQ, iR, fK, iS, iT, iU, iV, iW, iX, gK, gL, gM, gN, gO, gP, gQ, gR, gS, gT, iY, iZ, jA, jB, jC, jD, jE, u64, jF, jG, jH, jJ, jK, jL, jM, jN, jO, jP, jQ, jR, jZ, kE, kF, kG, kH, jS, jT, jU, jV, jW, jX, kJ, kK, kM, kN, kO, kP, kQ, kR, kS, kT, kU, kV, aK, aG, aA, aB, aC, aD, aE, aF, aH, aI, aJ, aL, bC, bD, bE, bF, bG, bH, bI, bJ, bK, bL, aR, aM, aN, aO, aP, aQ, mA, mB, mD, mE, mF, mG, mH, mI, mJ, mK, mL, mM, mN, .bool (ask w3 i l.count g.count), bR, bT, bU, bV, bW, bX, cW, cX, cY, cZ, dA, dB, dC, dD, dE, dF, dG, dH, dI, dJ, dK, dL, dM, dN, bY, bZ, cA, cB, cC, cD, cE, cF, cG, cH, cI, cJ, cK, cM, cN, cO, cP, cQ, cR, cS, cT, cU, cV, eQ, eR, eS, eT, eU, eV, eW, eX, eY, eZ, fA, fB, fC, fD, fF, fG, fH, fI, fJ, fL, fM, fN, gU, gV, gW, gX, gY, gZ, hH, fO, fP, fQ, fR, fS, fT, fU, fV, fW, fX, fY, fZ, gA, iA, iB, iC, iD, iE, iF, iG, iH, iJ, iK, iL, iM, gB, gC, gD, gE, gF, gG, gH, dO, dP, dQ, dR, dS, dT, dU, dV, dW], []⟩ W) :
  Code.wp Try.prog (headC code20i) Q ⟨#[u0, .int .u8 way, u2, u3, u4, u5, u6, .pointer (some ⟨LB, 0, none⟩), .int .i64 (i : Int), .pointer (some ⟨FB, 0, none⟩), gI, kI, gJ, jY, eG, eH, u16, eE, eF, dX, dY, dZ, eA, eB, eC, eD, eI, eJ, eK, eL, eM, eN, u32, eO, eP, iN, iO, iP, iQ, iR, fK, iS, iT, iU, iV, iW, iX, gK, gL, gM, gN, gO, gP, gQ, gR, gS, gT, iY, iZ, jA, jB, jC, jD, jE, u64, jF, jG, jH, jJ, jK, jL, jM, jN, jO, jP, jQ, jR, jZ, kE, kF, kG, kH, jS, jT, jU, jV, jW, jX, kJ, kK, kM, kN, kO, kP, kQ, kR, kS, kT, kU, kV, aK, aG, aA, aB, aC, aD, aE, aF, aH, aI, aJ, aL, bC, bD, bE, bF, bG, bH, bI, bJ, bK, bL, aR, aM, aN, aO, aP, aQ, aS, aT, aU, aV, aW, aX, aY, aZ, bA, bM, bN, bP, bQ, bS, bR, bT, bU, bV, bW, bX, cW, cX, cY, cZ, dA, dB, dC, dD, dE, dF, dG, dH, dI, dJ, dK, dL, dM, dN, bY, bZ, cA, cB, cC, cD, cE, cF, cG, cH, cI, cJ, cK, cM, cN, cO, cP, cQ, cR, cS, cT, cU, cV, eQ, eR, eS, eT, eU, eV, eW, eX, eY, eZ, fA, fB, fC, fD, fF, fG, fH, fI, fJ, fL, fM, fN, gU, gV, gW, gX, gY, gZ, hH, fO, fP, fQ, fR, fS, fT, fU, fV, fW, fX, fY, fZ, gA, iA, iB, iC, iD, iE, iF, iG, iH, iJ, iK, iL, iM, gB, gC, gD, gE, gF, gG, gH, dO, dP, dQ, dR, dS, dT, dU, dV, dW], []⟩ W := by
 have a7 : W.cell? ⟨LB, 7, none⟩ = some (.int .i64 l.count) := cell_heap hL (o := 7) rfl
 have b7 : W.cell? ⟨FB, 7, none⟩ = some (.int .i64 g.count) := cell_heap hF (o := 7) rfl
 have d0 : W.cell? ⟨DB, 0, none⟩ = some (.bool nb) := cell_heap hD (o := 0) rfl
 have lL := heap_lt hL
 have lF := heap_lt hF
 have lD := heap_lt hD
 obtain ⟨r, hr⟩ : ∃ r, (ask w3 i l.count g.count) = r := ⟨_, rfl⟩
 rw [hr] at hQ
 have HQ := hide hQ
 clear hQ hL hF hD
 unfold ask at hr
 obtain ⟨c1, hc1⟩ : ∃ c, (w3 == 1) = c := ⟨_, rfl⟩
 obtain ⟨c2, hc2⟩ : ∃ c, decide (i = 0) = c := ⟨_, rfl⟩
 obtain ⟨c3, hc3⟩ : ∃ c, (l.count == g.count) = c := ⟨_, rfl⟩
 rw [hc1, hc2, hc3] at hr
 have n1 : (w3 != 1) = !c1 := by rw [← hc1]; rfl
 have n2 : ((i : Int) == 0) = c2 := by rw [← hc2]; by_cases h : i = 0 <;> simp [h]
 have n3 : (l.count != g.count) = !c3 := by rw [← hc3]; rfl
 clear hc2
 conv => arg 2; whnf
 cases c1 with
 | false =>
  clear hc3
  subst hr
  go_wp2_with fail
  exact HQ.out _ _ _ _ _ _ _ _ _ _ _ _ _ 
 | true =>
 cases c2 with
 | true =>
  clear hc3
  subst hr
  go_wp2_with fail
  exact HQ.out _ _ _ _ _ _ _ _ _ _ _ _ _ 
 | false =>
 cases c3 with
 | true =>
  subst hr
  go_wp2_with fail
  exact HQ.out _ _ _ _ _ _ _ _ _ _ _ _ _ 
 | false =>
  subst hr
  go_wp2_with fail
  exact HQ.out _ _ _ _ _ _ _ _ _ _ _ _ _ 
noncomputable def code22i : Code := (Try.f18.body.bind (findQ 22)).getD .skip
set_option maxRecDepth 1000000 in
theorem ask_22 {W : World} {LB FB DB i n cap : Nat} {nb : Bool} {A : Option Addr} {way w3 : Int} {vl vg : Value} {l g : Fd} (hL : W.heap[LB]? = some (.cells (l.cellsAt vl) 59 (0, 0))) (hF : W.heap[FB]? = some (.cells (g.cellsAt vg) 59 (0, 0))) (hD : W.heap[DB]? = some (.cells #[.bool nb, .slice A n cap] 52 (0, 0))) (hw : way.tmod 3 = w3)
  (Q : Exit → Act → World → Prop) (hQ : ∀ (mU mV mW mX mY mZ nA nB nC nD nE nF nG nH nI nJ nK : Value), Q .normal ⟨#[u0, .int .u8 way, .pointer (some ⟨DB, 0, none⟩), u3, u4, u5, u6, .pointer (some ⟨LB, 0, none⟩), .int .i64 (i : Int), .pointer (some ⟨FB, 0, none⟩), gI, kI, gJ, jY, eG, eH, u16, eE, eF, dX, dY, dZ, eA, eB, eC, eD, eI, eJ, eK, eL, eM, eN, u32, eO, eP, iN, iO, iP, iQ, iR, fK, iS, iT, iU, iV, iW, iX, gK, gL, gM, gN, gO, gP, gQ, gR, gS, gT, iY, iZ, jA, jB, jC, jD, jE, u64, jF, jG, jH, jJ, jK, jL, jM, jN, jO, jP, jQ, jR, jZ, kE, kF, kG, kH, jS, jT, jU, jV, jW, jX, kJ, kK, kM, kN, kO, kP, kQ, kR, kS, kT, kU, kV, aK, aG, aA, aB, aC, aD, aE, aF, aH, aI, aJ, aL, bC, bD, bE, bF, bG, bH, bI, bJ, bK, bL, aR, aM, aN, aO, aP, aQ, aS, aT, aU, aV, aW, aX, aY, aZ, bA, bM, bN, bP, bQ, bS, bR, bT, bU, bV, bW, bX, mU, mV, mW, mX, mY, mZ, nA, nB, nC, nD, nE, nF, nG, nH, nI, nJ, nK, .bool (nb && ask w3 i l.report g.report), bY, bZ, cA, cB, cC, cD, cE, cF, cG, cH, cI, cJ, cK, cM, cN, cO, cP, cQ, cR, cS, cT, cU, cV, eQ, eR, eS, eT, eU, eV, eW, eX, eY, eZ, fA, fB, fC, fD, fF, fG, fH, fI, fJ, fL, fM, fN, gU, gV, gW, gX, gY, gZ, hH, fO, fP, fQ, fR, fS, fT, fU, fV, fW, fX, fY, fZ, gA, iA, iB, iC, iD, iE, iF, iG, iH, iJ, iK, iL, iM, gB, gC, gD, gE, gF, gG, gH, dO, dP, dQ, dR, dS, dT, dU, dV, dW], []⟩ W) :
  Code.wp Try.prog (headC code22i) Q ⟨#[u0, .int .u8 way, .pointer (some ⟨DB, 0, none⟩), u3, u4, u5, u6, .pointer (some ⟨LB, 0, none⟩), .int .i64 (i : Int), .pointer (some ⟨FB, 0, none⟩), gI, kI, gJ, jY, eG, eH, u16, eE, eF, dX, dY, dZ, eA, eB, eC, eD, eI, eJ, eK, eL, eM, eN, u32, eO, eP, iN, iO, iP, iQ, iR, fK, iS, iT, iU, iV, iW, iX, gK, gL, gM, gN, gO, gP, gQ, gR, gS, gT, iY, iZ, jA, jB, jC, jD, jE, u64, jF, jG, jH, jJ, jK, jL, jM, jN, jO, jP, jQ, jR, jZ, kE, kF, kG, kH, jS, jT, jU, jV, jW, jX, kJ, kK, kM, kN, kO, kP, kQ, kR, kS, kT, kU, kV, aK, aG, aA, aB, aC, aD, aE, aF, aH, aI, aJ, aL, bC, bD, bE, bF, bG, bH, bI, bJ, bK, bL, aR, aM, aN, aO, aP, aQ, aS, aT, aU, aV, aW, aX, aY, aZ, bA, bM, bN, bP, bQ, bS, bR, bT, bU, bV, bW, bX, cW, cX, cY, cZ, dA, dB, dC, dD, dE, dF, dG, dH, dI, dJ, dK, dL, dM, dN, bY, bZ, cA, cB, cC, cD, cE, cF, cG, cH, cI, cJ, cK, cM, cN, cO, cP, cQ, cR, cS, cT, cU, cV, eQ, eR, eS, eT, eU, eV, eW, eX, eY, eZ, fA, fB, fC, fD, fF, fG, fH, fI, fJ, fL, fM, fN, gU, gV, gW, gX, gY, gZ, hH, fO, fP, fQ, fR, fS, fT, fU, fV, fW, fX, fY, fZ, gA, iA, iB, iC, iD, iE, iF, iG, iH, iJ, iK, iL, iM, gB, gC, gD, gE, gF, gG, gH, dO, dP, dQ, dR, dS, dT, dU, dV, dW], []⟩ W := by
 have a1 : W.cell? ⟨LB, 1, none⟩ = some (.int .u8 l.report) := cell_heap hL (o := 1) rfl
 have b1 : W.cell? ⟨FB, 1, none⟩ = some (.int .u8 g.report) := cell_heap hF (o := 1) rfl
 have d0 : W.cell? ⟨DB, 0, none⟩ = some (.bool nb) := cell_heap hD (o := 0) rfl
 have lL := heap_lt hL
 have lF := heap_lt hF
 have lD := heap_lt hD
 obtain ⟨r, hr⟩ : ∃ r, (nb && ask w3 i l.report g.report) = r := ⟨_, rfl⟩
 rw [hr] at hQ
 have HQ := hide hQ
 clear hQ hL hF hD
 unfold ask at hr
 obtain ⟨c1, hc1⟩ : ∃ c, (w3 == 1) = c := ⟨_, rfl⟩
 obtain ⟨c2, hc2⟩ : ∃ c, decide (i = 0) = c := ⟨_, rfl⟩
 obtain ⟨c3, hc3⟩ : ∃ c, (l.report == g.report) = c := ⟨_, rfl⟩
 rw [hc1, hc2, hc3] at hr
 have n1 : (w3 != 1) = !c1 := by rw [← hc1]; rfl
 have n2 : ((i : Int) == 0) = c2 := by rw [← hc2]; by_cases h : i = 0 <;> simp [h]
 have n3 : (l.report != g.report) = !c3 := by rw [← hc3]; rfl
 clear hc2
 conv => arg 2; whnf
 cases nb with
 | false =>
  clear hc1 hc3
  subst hr
  go_wp2_with fail
  exact HQ.out _ _ _ _ _ _ _ _ _ _ _ _ _ _ _ _ _ 
 | true =>
 cases c1 with
 | false =>
  clear hc3
  subst hr
  go_wp2_with fail
  exact HQ.out _ _ _ _ _ _ _ _ _ _ _ _ _ _ _ _ _ 
 | true =>
 cases c2 with
 | true =>
  clear hc3
  subst hr
  go_wp2_with fail
  exact HQ.out _ _ _ _ _ _ _ _ _ _ _ _ _ _ _ _ _ 
 | false =>
 cases c3 with
 | true =>
  subst hr
  go_wp2_with fail
  exact HQ.out _ _ _ _ _ _ _ _ _ _ _ _ _ _ _ _ _ 
 | false =>
  subst hr
  go_wp2_with fail
  exact HQ.out _ _ _ _ _ _ _ _ _ _ _ _ _ _ _ _ _ 
def isAt (k : Nat) : Code → Bool
 | .seq (.region i _ _) _ => i == k
 | .region i _ _ => i == k
 | _ => false
def afterQ (k : Nat) : Code → Option Code
 | .seq a c => if isAt k a then some c else (afterQ k a).orElse fun _ => afterQ k c
 | .block _ c => afterQ k c
 | .scope c => afterQ k c
 | .loop c => afterQ k c
 | .cond _ c e => (afterQ k c).orElse fun _ => afterQ k e
 | _ => none
theorem IS.ownm {w W : World} {DB LB FB n cap m B : Nat} {nb : Bool} {A : Option Addr} {v vl vg : Value} {outL : List It} {l g : Fd} {us : List Int} (h : IS w W DB LB FB nb A n cap m B v vl vg outL l g us) : Own itT 29 w.heap.size W v m outL := by have h1 := h.own; rw [h.len] at h1; exact h1
theorem IS.row {w W : World} {DB LB FB n cap m B : Nat} {nb : Bool} {A : Option Addr} {v vl vg : Value} {outL : List It} {l g : Fd} {us : List Int} (h : IS w W DB LB FB nb A n cap m B v vl vg outL l g us) : IS w (W.setRow LB (g.cellsAt vg)) DB LB FB nb A n cap m B v vg vg outL g g us := by
 obtain ⟨l1, l2, l3, l4⟩ := h.low
 have hne : ∀ b, b ≠ LB → (W.setRow LB (g.cellsAt vg)).heap[b]? = W.heap[b]? := fun b hb => by simp [World.setRow, Array.getElem?_modify, show ¬ LB = b from fun e => hb e.symm]
 have hDL : DB ≠ LB := fun e => by
  have h1 := h.dbox
  rw [e, h.lbox] at h1
  injection h1 with h1
  injection h1 with _ h2 _
  exact absurd h2 (by decide)
 exact ⟨below_row h.kept l2 _, (hne DB hDL).trans h.dbox, heap_row h.lbox, (hne FB (fun e => l4 e.symm)).trans h.fbox, h.low, h.own.sameB flat_it (fun b hb => hne b (fun e => own_type_ne h.own h.lbox (by decide) (e ▸ hb))), h.us.sameB flat_u32 (fun b hb => hne b (fun e => own_type_ne h.us h.lbox (by decide) (e ▸ hb))), h.len, h.bnd⟩
noncomputable def code36i : Code := (Try.f18.body.bind (findQ 36)).getD .skip
set_option maxRecDepth 1000000 in
theorem p36 {w W : World} {DB LB FB ba oa n cap m B BF i dd dfin : Nat} {nb : Bool} {way w3 w2 : Int} {v vl vg : Value} {outL fin : List It} {l g : Fd} {us : List Int} {f : PF} (hS : IS w W DB LB FB nb (some ⟨ba, oa, none⟩) n cap m B v vl vg outL l g us) (he : outL = fin) (hB : B ≤ BF)
  (Q : Exit → Act → World → Prop)  (hQ : ∀ (tM tP tN tO rX rY rZ sA sB sD sE sF sG sH sI tB tC tD tE tF tG tH tI tJ tK tL sJ sK sL sM sN sO sP sQ sR sS sT oD rL rM rN rO rP rQ rR rS rT rU rV rW sU sV sW sX sY sZ tA qZ rA rB rC rD rE rF rG rH rI rJ rK jI lP lS lT lU lO lV lW kX kY kZ lA lB lC lE lG lH lI lJ lK lN lX lY mO mP mQ mR mS mA mB mD mE mF mG mH mI mJ mK mL mM mN mT oE oF oG oH oI oJ mU mV mW mX mY mZ nA nB nC nD nE nF nG nH nI nJ nK oK oL oM oN oO oP oQ oR oS oT oU oV oW oX oY oZ pA pB pC pD pE pF pG pH pI pJ pK pL pM pN pO pP pQ pR pS pT pU pV pW pX pY pZ qA qB qC qD nL nM nN nO nP nQ nR qE qF qG qH qI qJ qK qL qM qN qO qP qQ nS nT nU nV nW nX nY nZ oA oB oC qR qS qT qU qV qW qX qY : Value) (v' : Value) (m' : Nat) (w' : World), IS w w' DB LB FB nb (some ⟨ba, oa, none⟩) n cap m' BF v' vg vg fin g g us → Q .normal ⟨#[u0, .int .u8 way, .pointer (some ⟨DB, 0, none⟩), u3, u4, v', .int .i64 (dfin : Int), .pointer (some ⟨LB, 0, none⟩), .int .i64 (i : Int), .pointer (some ⟨FB, 0, none⟩), tM, tP, tN, tO, eG, eH, u16, eE, eF, dX, dY, dZ, eA, eB, eC, eD, eI, eJ, eK, eL, eM, eN, u32, eO, eP, rX, rY, rZ, sA, sB, sD, sE, sF, sG, sH, sI, tB, tC, tD, tE, tF, tG, tH, tI, tJ, tK, tL, sJ, sK, sL, sM, sN, sO, sP, sQ, sR, sS, sT, oD, rL, rM, rN, rO, rP, rQ, rR, rS, rT, rU, rV, rW, sU, sV, sW, sX, sY, sZ, tA, qZ, rA, rB, rC, rD, rE, rF, rG, rH, rI, rJ, rK, jI, lP, lS, lT, lU, lO, lV, lW, kX, kY, kZ, lA, lB, lC, lE, lG, lH, lI, lJ, lK, lN, lX, lY, mO, mP, mQ, mR, mS, mA, mB, mD, mE, mF, mG, mH, mI, mJ, mK, mL, mM, mN, mT, oE, oF, oG, oH, oI, oJ, mU, mV, mW, mX, mY, mZ, nA, nB, nC, nD, nE, nF, nG, nH, nI, nJ, nK, oK, oL, oM, oN, oO, oP, oQ, oR, oS, oT, oU, oV, oW, oX, oY, oZ, pA, pB, pC, pD, pE, pF, pG, pH, pI, pJ, pK, pL, pM, pN, pO, pP, pQ, pR, pS, pT, pU, pV, pW, pX, pY, pZ, qA, qB, qC, qD, nL, nM, nN, nO, nP, nQ, nR, qE, qF, qG, qH, qI, qJ, qK, qL, qM, qN, qO, qP, qQ, nS, nT, nU, nV, nW, nX, nY, nZ, oA, oB, oC, qR, qS, qT, qU, qV, qW, qX, qY, dO, dP, dQ, dR, dS, dT, dU, dV, dW], []⟩ w') :
  Code.wp Try.prog (headC code36i) Q ⟨#[u0, .int .u8 way, .pointer (some ⟨DB, 0, none⟩), u3, u4, v, .int .i64 (dfin : Int), .pointer (some ⟨LB, 0, none⟩), .int .i64 (i : Int), .pointer (some ⟨FB, 0, none⟩), gI, kI, gJ, jY, eG, eH, u16, eE, eF, dX, dY, dZ, eA, eB, eC, eD, eI, eJ, eK, eL, eM, eN, u32, eO, eP, iN, iO, iP, iQ, iR, fK, iS, iT, iU, iV, iW, iX, gK, gL, gM, gN, gO, gP, gQ, gR, gS, gT, iY, iZ, jA, jB, jC, jD, jE, u64, jF, jG, jH, jJ, jK, jL, jM, jN, jO, jP, jQ, jR, jZ, kE, kF, kG, kH, jS, jT, jU, jV, jW, jX, kJ, kK, kM, kN, kO, kP, kQ, kR, kS, kT, kU, kV, aK, aG, aA, aB, aC, aD, aE, aF, aH, aI, aJ, aL, bC, bD, bE, bF, bG, bH, bI, bJ, bK, bL, aR, aM, aN, aO, aP, aQ, aS, aT, aU, aV, aW, aX, aY, aZ, bA, bM, bN, bP, bQ, bS, bR, bT, bU, bV, bW, bX, cW, cX, cY, cZ, dA, dB, dC, dD, dE, dF, dG, dH, dI, dJ, dK, dL, dM, dN, bY, bZ, cA, cB, cC, cD, cE, cF, cG, cH, cI, cJ, cK, cM, cN, cO, cP, cQ, cR, cS, cT, cU, cV, eQ, eR, eS, eT, eU, eV, eW, eX, eY, eZ, fA, fB, fC, fD, fF, fG, fH, fI, fJ, fL, fM, fN, gU, gV, gW, gX, gY, gZ, hH, fO, fP, fQ, fR, fS, fT, fU, fV, fW, fX, fY, fZ, gA, iA, iB, iC, iD, iE, iF, iG, iH, iJ, iK, iL, iM, gB, gC, gD, gE, gF, gG, gH, dO, dP, dQ, dR, dS, dT, dU, dV, dW], []⟩ W := by
 obtain ⟨AV, cv, hvg, _, _⟩ := hS.us.isSlice
 subst hvg
 have HS := hide hS
 have HQ := hide hQ
 have hL := hS.lbox
 have hF := hS.fbox
 subst he
 unfold Fd.cellsAt at hL hF
 have HL := hide hL
 have HF := hide hF
 clear hS hQ hL hF
 conv => arg 2; whnf
 go_wp2_with (first
  | (refine wpList_load_row rfl 59 (.tmp 9) rfl _ (by rfl) 59 _ (0, 0) _ HF.out Try.underlying59 rfl (by kernel_rfl) ?_)
  | (refine wpList_store_row rfl 59 (.tmp 7) (.tmp 249) rfl LB (g.cellsAt (.slice AV us.length cv)) (by rfl) (by rfl) 59 _ HL.out (by kernel_rfl) (by rfl) (by unfold Fd.cellsAt; simp [Value.oneCell']) ?_))
 exact HQ.out _ _ _ _ _ _ _ _ _ _ _ _ _ _ _ _ _ _ _ _ _ _ _ _ _ _ _ _ _ _ _ _ _ _ _ _ _ _ _ _ _ _ _ _ _ _ _ _ _ _ _ _ _ _ _ _ _ _ _ _ _ _ _ _ _ _ _ _ _ _ _ _ _ _ _ _ _ _ _ _ _ _ _ _ _ _ _ _ _ _ _ _ _ _ _ _ _ _ _ _ _ _ _ _ _ _ _ _ _ _ _ _ _ _ _ _ _ _ _ _ _ _ _ _ _ _ _ _ _ _ _ _ _ _ _ _ _ _ _ _ _ _ _ _ _ _ _ _ _ _ _ _ _ _ _ _ _ _ _ _ _ _ _ _ _ _ _ _ _ _ _ _ _ _ _ _ _ _ _ _ _ _ _ _ _ _ _ _ _ _ _ _ _ _ _ _ _ _ _ _ _ _ _ _ _ _ _ _ _ _ _ _ _ _ _ _ _ _ _ _ _ _ (HS.out.row.bump hB)
end Go.Proofs.Ytegdigfcgeoboaa
