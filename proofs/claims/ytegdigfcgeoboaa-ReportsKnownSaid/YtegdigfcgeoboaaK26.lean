/- The law of the chapter on reports, part 26: Xf Xg. -/
import Derived.Test.YtegdigfcgeoboaaK25
set_option maxHeartbeats 16000000
set_option linter.unusedVariables false
set_option linter.unusedSimpArgs false
set_option linter.unusedSectionVars false
namespace Go.Proofs.Ytegdigfcgeoboaa
open Go.RowKit Go.Maps
attribute [local go_sem ↓] Go.wp_at_zero Go.wp_at_succ
variable {u0 u7 u8 u9 gI kI gJ jY eG eH u16 eE eF dX dY dZ eA eB eC eD eI eJ eK eL eM eN u32 eO eP iN iO iP iQ iR fK iS iT iU iV iW iX gK gL gM gN gO gP gQ gR gS gT iY iZ jA jB jC jD jE u64 jF jG jH jJ jK jL jM jN jO jP jQ jR jZ kE kF kG kH jS jT jU jV jW jX kJ kK kM kN kO kP kQ kR kS kT kU kV aK aG aA aB aC aD aE aF aH aI aJ aL bC bD bE bF bG bH bI bJ bK bL aR aM aN aO aP aQ aS aT aU aV aW aX aY aZ bA bM bN bP bQ bS bR : Value}
noncomputable def ops8d : Array Oper := opsOf (headC ((Try.f19.body.bind (findQ 8)).getD .skip))
theorem info3 : (Try.prog.info? 3).map (fun i => (i.zero, i.size, i.bytes)) = some (some (.int .i64 0), 1, 8) := by kernel_rfl
noncomputable def code7d : Code := (Try.f19.body.bind (findQ 7)).getD .skip
noncomputable def after7d : Code := (Try.f19.body.bind (afterQ 7)).getD .skip
set_option maxRecDepth 1000000 in
theorem q7 {w W : World} {DB RB MB FB ba oa n cap i : Nat} {nb nm : Bool} {vo vf vc : Value} {ol olf : List Int} {fl flf : List Fd} {cl clf : List Co} {f : PF} {dd c cn : Nat} {p : Int} {U : Option Addr} {g : Fd} (hM : MD w W DB RB MB FB nb nm (some ⟨ba, oa, none⟩) n cap vo vf vc ol fl cl) (hF : FX w W FB U c g) (h7 : w.cell? ⟨ba, oa + i * 8 + 7, none⟩ = some (.int .u8 f.flags)) (hba : ba < w.heap.size) (hin : (i : Int) < (n : Int)) (hfl : u8k f.flags) (hi20 : i < 20) (hdd : ol.length = dd) (hd5 : dd ≤ 5) (hd1 : 1 ≤ dd) (hp : ol[dd - 1]? = some p) (hfl20 : fl.length ≤ 20) (hcn : cl.length = cn) (hcl20 : cn ≤ 21) (he : (if endsB f (d1 f dd) then (if beginsB f dd then ol ++ [(cn : Int)] else ol).take (d1 f dd - 1) else (if beginsB f dd then ol ++ [(cn : Int)] else ol)) = olf) (hec : (if beginsB f dd then cl ++ [⟨((i % 4 : Nat) : Int), 458752 + (i : Int), p⟩] else cl) = clf) (hsm : ∀ f ∈ fl, 0 ≤ f.size * f.count ∧ f.size * f.count ≤ 108) (hg0 : g.pos = 0) (hef : fl ++ [{ g with parent := if beginsB f dd then (cn : Int) else p, pos := bitsS fl g.kind g.report }] = flf)
  (Q : Exit → Act → World → Prop) (K K2 : Act → World → Prop) (hK : ∀ a w', Code.wp Try.prog (restC code7d) (Exit.then K2 Q) a w' → K a w') (hK2 : ∀ a w', Code.wp Try.prog after7d Q a w' → K2 a w') (hQ : ∀ (s7 tS tR tT tU tV tW s32 tX tY rX rY rZ sA sB sD sE sF sG sH sI tB tC tD tE tF tG tH tI tJ tK tL sJ sK sL sM sN sO sP sQ sR sS sT oD rL rM rN rO rP rQ rR rS rT rU rV rW sU sV sW sX sY sZ tA qZ rA rB rC rD rE rF rG rH rI rJ rK jI lP lS lT lU lO lV lW kX kY kZ lA lB lC lE lG lH lI lJ lK lN lX lY mO mP mQ mR mS mA mB mD mE mF mG mH mI mJ mK mL mM mN mT : Value) (v' vf' vc' : Value) (w' : World), MD w w' DB RB MB FB nb nb (some ⟨ba, oa, none⟩) n cap v' vf' vc' olf flf clf → Q .normal ⟨#[u0, .pointer (some ⟨DB, 0, none⟩), .pointer (some ⟨RB, 0, none⟩), .pointer (some ⟨MB, 0, none⟩), v', .int .i64 (i : Int), .pointer (some ⟨FB, 0, none⟩), s7, u8, u9, gI, kI, gJ, jY, eG, eH, u16, eE, eF, dX, dY, dZ, eA, eB, eC, eD, tS, tR, tT, tU, tV, tW, s32, tX, tY, rX, rY, rZ, sA, sB, sD, sE, sF, sG, sH, sI, tB, tC, tD, tE, tF, tG, tH, tI, tJ, tK, tL, sJ, sK, sL, sM, sN, sO, sP, sQ, sR, sS, sT, oD, rL, rM, rN, rO, rP, rQ, rR, rS, rT, rU, rV, rW, sU, sV, sW, sX, sY, sZ, tA, qZ, rA, rB, rC, rD, rE, rF, rG, rH, rI, rJ, rK, jI, lP, lS, lT, lU, lO, lV, lW, kX, kY, kZ, lA, lB, lC, lE, lG, lH, lI, lJ, lK, lN, lX, lY, mO, mP, mQ, mR, mS, mA, mB, mD, mE, mF, mG, mH, mI, mJ, mK, mL, mM, mN, mT, bR], []⟩ w') :
  Code.wp Try.prog (headC code7d) (Exit.then K (Exit.then K2 Q)) ⟨#[u0, .pointer (some ⟨DB, 0, none⟩), .pointer (some ⟨RB, 0, none⟩), .pointer (some ⟨MB, 0, none⟩), vo, .int .i64 (i : Int), .pointer (some ⟨FB, 0, none⟩), u7, u8, u9, gI, kI, gJ, jY, eG, eH, u16, eE, eF, dX, dY, dZ, eA, eB, eC, eD, eI, eJ, eK, eL, eM, eN, u32, eO, eP, iN, iO, iP, iQ, iR, fK, iS, iT, iU, iV, iW, iX, gK, gL, gM, gN, gO, gP, gQ, gR, gS, gT, iY, iZ, jA, jB, jC, jD, jE, u64, jF, jG, jH, jJ, jK, jL, jM, jN, jO, jP, jQ, jR, jZ, kE, kF, kG, kH, jS, jT, jU, jV, jW, jX, kJ, kK, kM, kN, kO, kP, kQ, kR, kS, kT, kU, kV, aK, aG, aA, aB, aC, aD, aE, aF, aH, aI, aJ, aL, bC, bD, bE, bF, bG, bH, bI, bJ, bK, bL, aR, aM, aN, aO, aP, aQ, aS, aT, aU, aV, aW, aX, aY, aZ, bA, bM, bN, bP, bQ, bS, bR], []⟩ W := by
 obtain ⟨k, rfl⟩ : ∃ k, dd = k + 1 := ⟨dd - 1, by omega⟩
 have hop := hM.op
 rw [hdd] at hop
 obtain ⟨gg, co, ccur, rfl, hgh, hc1, hc2⟩ := own_block34 hop (by omega)
 have e := own_cells34 (j := k) (cs := [.int .i64 p]) hop (by simpa using hp) (fun F c hr => hr.1) 0 _ rfl
 have e' : W.cell? ⟨gg, k, none⟩ = some (.int .i64 p) := by simpa [i64D, Ty.flat] using e
 have lg := heap_lt hgh
 have d1' : W.cell? ⟨DB, 1, none⟩ = some (.slice (some ⟨ba, oa, none⟩) n cap) := cell_heap hM.bd (o := 1) rfl
 have lD := heap_lt hM.bd
 have h7W := (hM.kept.cell (p := ⟨ba, oa + i * 8 + 7, none⟩) hba).trans h7
 have hbaW := Nat.lt_of_lt_of_le hba hM.kept.size
 have hi0 : (0 : Int) ≤ (i : Int) := by omega
 have m1 : W.cell? ⟨MB, 1, none⟩ = some vc := cell_heap hM.bm (o := 1) rfl
 have lM := heap_lt hM.bm
 have hw1 : IntKind.i64.wrap (((k + 1 : Nat) : Int) - 1) = (k : Int) := by rw [IntKind.wrap_i64]; omega
 have hw2 : IntKind.i64.wrap ((k : Int) + 1 - 1) = (k : Int) := by rw [IntKind.wrap_i64]; omega
 have hw0 : IntKind.i64.wrap (k : Int) = (k : Int) := by rw [IntKind.wrap_i64]; omega
 have hk0 : (0 : Int) ≤ (k : Int) := by omega
 have hk1 : (k : Int) < ((k + 1 : Nat) : Int) := by omega
 have hk2 : (k : Int) < (k : Int) + 1 := by omega
 have hk3 : k < k + 1 := by omega
 obtain ⟨i4, hi4⟩ : ∃ z : Nat, i % 4 = z := ⟨_, rfl⟩
 have hmi : (i : Int).tmod 4 = (i4 : Int) := by rw [Int.tmod_eq_emod_of_nonneg (by omega)]; omega
 have hw4 : IntKind.u8.wrap (i4 : Int) = (i4 : Int) := wrap8 (by omega) (by omega)
 have hwi : IntKind.u32.wrap (i : Int) = (i : Int) := by rw [IntKind.wrap_u32]; omega
 have hor : bits .or .u32 458752 (i : Int) = 458752 + (i : Int) := bitsor ⟨by omega, by omega⟩
 have hwc : IntKind.i64.wrap (((cn + 1 : Nat) : Int) - 1) = (cn : Int) := by rw [IntKind.wrap_i64]; omega
 have hwc2 : IntKind.i64.wrap ((cn : Int) + 1 - 1) = (cn : Int) := by rw [IntKind.wrap_i64]; omega
 obtain ⟨c1, hc1'⟩ : ∃ c, (f.flags / 8 % 2 == 1) = c := ⟨_, rfl⟩
 obtain ⟨c2, hc2'⟩ : ∃ c, decide (k + 1 < 5) = c := ⟨_, rfl⟩
 have n1 : (bits .and .u8 f.flags 8 != 0) = c1 := by rw [bits8 hfl, ← hc1']; rcases (show f.flags / 8 % 2 = 0 ∨ f.flags / 8 % 2 = 1 by omega) with e | e <;> rw [e] <;> rfl
 have n1' : (bits .and .u8 f.flags 8 == 0) = !c1 := by rw [← n1]; simp [bne]
 have n2 : decide (((k + 1 : Nat) : Int) < 5) = c2 := by rw [← hc2']; congr 1; exact propext (by omega)
 have n2' : decide ((k : Int) + 1 < 5) = c2 := by rw [← hc2']; congr 1; exact propext (by omega)
 have hbb : beginsB f (k + 1) = (c1 && c2) := by unfold beginsB; rw [hc1', hc2']
 have HM := hide hM
 have HF := hide hF
 have HQ := hide hQ
 have He := hide he
 have Hec := hide hec
 have Hef := hide hef
 have Hdd := hide hdd
 have Hcn := hide hcn
 have Hsm := hide hsm
 have Hi4 := hide hi4
 have Hgh := hide hgh
 have Hp := hide hp
 clear hM hF hQ he hec hef hdd hcn hsm hop e hgh hp hi4 hc1' hc2'
 conv => arg 2; whnf
 conv at hK => enter [a, w', 1, 2]; whnf
 conv at hK2 => enter [a, w', 1, 2]; whnf
 by_cases hb : beginsB f (k + 1) = true
 case neg =>
  rw [Bool.not_eq_true] at hb
  have hd9 : d1 f (k + 1) = k + 1 := by unfold d1; rw [hb]; rfl
  have he2 := He.out
  have hec2 := Hec.out
  have hef2 := Hef.out
  simp only [hd9, hb, Bool.false_eq_true, if_false] at he2 hec2 hef2
  have He2 := hide he2
  have Hec2 := hide hec2
  have Hef2 := hide hef2
  rw [hb] at hbb
  clear he2 hec2 hef2 He Hec Hef hd9 hb m1 lM
  cases c1 with
  | false =>
   clear hbb
   go_upto_region 10 with fail
   have hMc := HM.out
   rw [Hec2.out] at hMc
   refine q10 (cl := clf) hMc HF.out h7 hba hin hfl Hdd.out (by omega) (by omega) Hp.out hfl20 He2.out Hsm.out hg0 Hef2.out _ _ ?_ HQ.out <;> assumption
  | true =>
   have hc0 : c2 = false := hbb.symm
   subst hc0
   clear hbb
   have n3 : ¬ ((k + 1 : Nat) : Int) < 5 := of_decide_eq_false n2
   have n3' : ¬ (k : Int) + 1 < 5 := of_decide_eq_false n2'
   go_upto_region 10 with fail
   have hMc := HM.out
   rw [Hec2.out] at hMc
   refine q10 (cl := clf) hMc HF.out h7 hba hin hfl Hdd.out (by omega) (by omega) Hp.out hfl20 He2.out Hsm.out hg0 Hef2.out _ _ ?_ HQ.out <;> assumption
 case pos =>
  rw [hb] at hbb
  obtain ⟨rfl, rfl⟩ : c1 = true ∧ c2 = true := by simpa using hbb.symm
  have n3 : ((k + 1 : Nat) : Int) < 5 := of_decide_eq_true n2
  have n3' : (k : Int) + 1 < 5 := of_decide_eq_true n2'
  clear hbb
  go_upto_region 8 with fail
  refine wp_region_noPanic ?_
  refine wp_region_held_named (ops' := ops8d) (n := 19) (S := fun w' => (∀ o, w'.cell? ⟨gg, o, none⟩ = W.cell? ⟨gg, o, none⟩) ∧ True) (by kernel_rfl) (by kernel_rfl) (by kernel_rfl) ⟨fun _ => rfl, trivial⟩ (fun hS => ?_)
  have ho := opE ops8d 0 (by kernel_rfl)
  conv at ho => rhs; arg 1; whnf
  refine tk0 (v := ?_) ho (by kernel_rfl) hS ?_ ?_ <;> clear ho
  rotate_left
  ·intro w' hq hq2; first | (go_simp; done) | (go_simp; with_reducible rfl)
  try simp only [Act.put, zp1, zp2, zp3, zp4, zp5, zp6]
  have ho := opE ops8d 2 (by kernel_rfl)
  conv at ho => rhs; arg 1; whnf
  refine tk0 (v := ?_) ho (by kernel_rfl) hS ?_ ?_ <;> clear ho
  rotate_left
  ·intro w' hq hq2; first | (go_simp; done) | (go_simp; with_reducible rfl)
  try simp only [Act.put, zp1, zp2, zp3, zp4, zp5, zp6]
  have ho := opE ops8d 3 (by kernel_rfl)
  conv at ho => rhs; arg 1; whnf
  refine tk0 (v := ?_) ho (by kernel_rfl) hS ?_ ?_ <;> clear ho
  rotate_left
  ·intro w' hq hq2; first | (go_simp; done) | (go_simp; with_reducible rfl)
  try simp only [Act.put, zp1, zp2, zp3, zp4, zp5, zp6]
  have ho := opE ops8d 4 (by kernel_rfl)
  conv at ho => rhs; arg 1; whnf
  refine tk0 (v := ?_) ho (by kernel_rfl) hS ?_ ?_ <;> clear ho
  rotate_left
  ·intro w' hq hq2; first | (go_simp; done) | (go_simp; with_reducible rfl)
  try simp only [Act.put, zp1, zp2, zp3, zp4, zp5, zp6]
  have ho := opE ops8d 5 (by kernel_rfl)
  conv at ho => rhs; arg 1; whnf
  refine tk0 (v := ?_) ho (by kernel_rfl) hS ?_ ?_ <;> clear ho
  rotate_left
  ·intro w' hq hq2; first | (go_simp; done) | (go_simp; with_reducible rfl)
  try simp only [Act.put, zp1, zp2, zp3, zp4, zp5, zp6]
  have ho := opE ops8d 6 (by kernel_rfl)
  conv at ho => rhs; arg 1; whnf
  refine tk0 (v := ?_) ho (by kernel_rfl) hS ?_ ?_ <;> clear ho
  rotate_left
  ·intro w' hq hq2; first | (go_simp; done) | (go_simp; with_reducible rfl)
  try simp only [Act.put, zp1, zp2, zp3, zp4, zp5, zp6]
  have ho := opE ops8d 7 (by kernel_rfl)
  conv at ho => rhs; arg 1; whnf
  refine tk0 (v := ?_) ho (by kernel_rfl) hS ?_ ?_ <;> clear ho
  rotate_left
  ·intro w' hq hq2; first | (go_simp; done) | (go_simp; with_reducible rfl)
  try simp only [Act.put, zp1, zp2, zp3, zp4, zp5, zp6]
  have ho := opE ops8d 8 (by kernel_rfl)
  conv at ho => rhs; arg 1; whnf
  refine tk0 (v := ?_) ho (by kernel_rfl) hS ?_ ?_ <;> clear ho
  rotate_left
  ·intro w' hq hq2; first | (go_simp; done) | (go_simp; with_reducible rfl)
  try simp only [Act.put, zp1, zp2, zp3, zp4, zp5, zp6]
  have ho := opE ops8d 9 (by kernel_rfl)
  conv at ho => rhs; arg 1; whnf
  refine tk0 (v := ?_) ho (by kernel_rfl) hS ?_ ?_ <;> clear ho
  rotate_left
  ·intro w' hq hq2; first | (go_simp; done) | (go_simp; with_reducible rfl)
  try simp only [Act.put, zp1, zp2, zp3, zp4, zp5, zp6]
  have ho := opE ops8d 10 (by kernel_rfl)
  conv at ho => rhs; arg 1; whnf
  refine tk0 (v := ?_) ho (by kernel_rfl) hS ?_ ?_ <;> clear ho
  rotate_left
  ·intro w' hq hq2; first | (go_simp; done) | (go_simp; with_reducible rfl)
  try simp only [Act.put, zp1, zp2, zp3, zp4, zp5, zp6]
  have ho := opE ops8d 11 (by kernel_rfl)
  conv at ho => rhs; arg 1; whnf
  refine tk0 (v := ?_) ho (by kernel_rfl) hS ?_ ?_ <;> clear ho
  rotate_left
  ·intro w' hq hq2; first | (go_simp; done) | (go_simp; with_reducible rfl)
  try simp only [Act.put, zp1, zp2, zp3, zp4, zp5, zp6]
  have ho := opE ops8d 12 (by kernel_rfl)
  conv at ho => rhs; arg 1; whnf
  refine tk0 (v := ?_) ho (by kernel_rfl) hS ?_ ?_ <;> clear ho
  rotate_left
  ·intro w' hq hq2; first | (go_simp; done) | (go_simp; with_reducible rfl)
  try simp only [Act.put, zp1, zp2, zp3, zp4, zp5, zp6]
  have ho := opE ops8d 13 (by kernel_rfl)
  conv at ho => rhs; arg 1; whnf
  refine tk0 (v := ?_) ho (by kernel_rfl) hS ?_ ?_ <;> clear ho
  rotate_left
  ·intro w' hq hq2; first | (go_simp; done) | (go_simp; with_reducible rfl)
  try simp only [Act.put, zp1, zp2, zp3, zp4, zp5, zp6]
  have ho := opE ops8d 14 (by kernel_rfl)
  conv at ho => rhs; arg 1; whnf
  refine tk0 (v := ?_) ho (by kernel_rfl) hS ?_ ?_ <;> clear ho
  rotate_left
  ·intro w' hq hq2; first | (go_simp; done) | (go_simp; with_reducible rfl)
  try simp only [Act.put, zp1, zp2, zp3, zp4, zp5, zp6]
  have ho1 := opE ops8d 1 (by kernel_rfl)
  conv at ho1 => rhs; arg 1; whnf
  have ho15 := opE ops8d 15 (by kernel_rfl)
  conv at ho15 => rhs; arg 1; whnf
  refine wpAnyH_ready (rs := [1, 15]) (by kernel_rfl) (by simp) ?_
  refine (AllReadyH.cons ho1 (fun K hK => ?_) (AllReadyH.cons ho15 (fun K hK => ?_) AllReadyH.nil))
  all_goals clear ho1 ho15
  ·go_simp
   try dsimp only
   refine hK.out _ _ ?_ (fun hS => ?_)
   ·exact hS
   clear hK K
   try simp only [Act.put, zp1, zp2, zp3, zp4, zp5, zp6]
   have ho15 := opE ops8d 15 (by kernel_rfl)
   conv at ho15 => rhs; arg 1; whnf
   refine wpAnyH_ready (rs := [15]) (by kernel_rfl) (by simp) ?_
   refine (AllReadyH.cons ho15 (fun K hK => ?_) AllReadyH.nil)
   all_goals clear ho15
   go_simp
   try dsimp only
   refine hK.out _ _ ?_ (fun hS => ?_)
   ·exact ⟨fun o => World.cell?_alloc_lt _ _ _ lg, trivial⟩
   clear hK K
   try simp only [Act.put, zp1, zp2, zp3, zp4, zp5, zp6]
   have ho16 := opE ops8d 16 (by kernel_rfl)
   conv at ho16 => rhs; arg 1; whnf
   refine wpAnyH_ready (rs := [16]) (by kernel_rfl) (by simp) ?_
   refine (AllReadyH.cons ho16 (fun K hK => ?_) AllReadyH.nil)
   all_goals clear ho16
   have hk4 : Kept W ((W.drew).alloc (.cells #[.int .u8 (i4 : Int), .int .u32 (458752 + (i : Int)), .int .i64 p] 68)) := ((Below.refl _ _).drew).alloc (Nat.le_refl _) _
   have h4 := HM.out.keep hk4
   have hF4 := HF.out.keep hk4
   obtain ⟨i1, hi1, hz0, hz1, hz2⟩ := info_parts info68
   have hocs : Own coT 68 w.heap.size ((W.drew).alloc (.cells #[.int .u8 (i4 : Int), .int .u32 (458752 + (i : Int)), .int .i64 p] 68)) vc cn cl := by have h9 := h4.cs; rw [Hcn.out] at h9; exact h9
   refine step_append_el (T := coT) rfl (.tmp 40) (.tmp 54) 38 rfl w.heap.size 68 i1 _ 16 Try.underlying38 hi1 hz0 hz1 hz2 rfl (show 0 < 3 by decide) vc cn cl (by rfl) hocs W.heap.size #[.int .u8 (i4 : Int), .int .u32 (458752 + (i : Int)), .int .i64 p] 68 ⟨(i4 : Int), 458752 + (i : Int), p⟩ (by rfl) (heap_at _ rfl) ⟨rfl, trivial⟩ (by simp [Value.oneCell']) (by unfold maxLen; omega) (by omega) h4.kept.size ?_
   intro g5 cap5 w5 hown5 hg5 hb5 hat5 hlt5
   have bm5 : w5.heap[MB]? = some (.cells #[vf, vc, .bool nm] 40 (0, 0)) := heap_grown hg5 h4.bm (fun e => own_type_ne h4.cs h4.bm (by decide) e.symm)
   have fm5 := frozen_heap bm5 (o := 1)
   have lm5 := heap_lt bm5
   have cm5 : w5.cell? ⟨MB, 1, none⟩ = some vc := cell_heap bm5 (o := 1) rfl
   have hgh5 := heap_grown hg5 (heap_kept hk4 Hgh.out) (fun e => own_type_ne h4.cs (heap_kept hk4 Hgh.out) (by decide) e.symm)
   have hS5 : ∀ o, w5.cell? ⟨gg, o, none⟩ = W.cell? ⟨gg, o, none⟩ := fun o => World.cell?_of_block (a := ⟨gg, o, none⟩) (hgh5.trans Hgh.out.symm)
   have hMg : ¬ MB = gg := fun e => by have h1 := HM.out.bm; rw [e, Hgh.out] at h1; injection h1 with h1; injection h1 with _ h2 _; exact absurd h2 (by decide)
   refine hK.out _ _ ?_ (fun hS => ?_)
   ·exact ⟨hS5, trivial⟩
   clear hK K
   try simp only [Act.put, zp1, zp2, zp3, zp4, zp5, zp6]
   have ho := opE ops8d 17 (by kernel_rfl)
   conv at ho => rhs; arg 1; whnf
   refine tk0 (v := ?_) ho (by kernel_rfl) hS ?_ ?_ <;> clear ho
   rotate_left
   ·intro w' hq hq2; first | (go_simp; done) | (go_simp; with_reducible rfl)
   try simp only [Act.put, zp1, zp2, zp3, zp4, zp5, zp6]
   have ho18 := opE ops8d 18 (by kernel_rfl)
   conv at ho18 => rhs; arg 1; whnf
   refine wpAnyH_ready (rs := [18]) (by kernel_rfl) (by simp) ?_
   refine (AllReadyH.cons ho18 (fun K hK => ?_) AllReadyH.nil)
   all_goals clear ho18
   go_simp
   try dsimp only
   refine hK.out _ _ ?_ (fun hS => ?_)
   ·exact ⟨fun o => (World.cell?_setCell_other _ _ _ _ (fun e => hMg (by have := congrArg Addr.block e; exact this))).trans (hS5 o), trivial⟩
   clear hK K
   try simp only [Act.put, zp1, zp2, zp3, zp4, zp5, zp6]
   refine wpAnyH_done (by kernel_rfl) ?_ _
   have h9 := h4.csTo (v' := .slice (some ⟨g5, 0, none⟩) (cn + 1) cap5) hg5 hb5 (l := cl ++ [⟨(i4 : Int), 458752 + (i : Int), p⟩]) (by rw [List.length_append, Hcn.out]; exact hown5) (hat5.elim (fun e => .inr (.inl e.symm)) (fun e => .inr (.inr (by rw [e]; rfl))))
   have hF9 := (hF4.grown h4.cs (by decide) (by decide) hg5).other bm5 (by decide) (by decide) 1 (.slice (some ⟨g5, 0, none⟩) (cn + 1) cap5)
   have H9 := hide h9
   have HF9 := hide hF9
   clear hS cm5 fm5 lm5 bm5 hgh5 hS5 hg5 hb5 hat5 hown5 h4 hF4 h9 hF9 hocs
   refine NoPanic.normal ?_
   refine (show ∀ (a : Act) (w : World), Code.wp Try.prog _ _ a w → _ from by assumption) _ _ ?_
   refine wp_at (fun V => MD w V DB RB MB FB nb nm (some ⟨ba, oa, none⟩) n cap (.slice (some ⟨gg, 0, none⟩) (k + 1) co) vf (.slice (some ⟨g5, 0, none⟩) (cn + 1) cap5) ol fl (cl ++ [⟨(i4 : Int), 458752 + (i : Int), p⟩]) ∧ FX w V FB U c g) ⟨H9.out, HF9.out⟩ (fun V hV => ?_)
   clear H9 HF9
   obtain ⟨hVM, hVF⟩ := hV
   have m1 : V.cell? ⟨MB, 1, none⟩ = some (.slice (some ⟨g5, 0, none⟩) (cn + 1) cap5) := cell_heap hVM.bm (o := 1) rfl
   have lm := heap_lt hVM.bm
   have HVM := hide hVM
   have HVF := hide hVF
   have hkV : Kept V (V.alloc (.cells #[.int .i64 (cn : Int)] 3)) := (Below.refl _ _).alloc (Nat.le_refl _) _
   have hV4 := hVM.keep hkV
   have hVF4 := hVF.keep hkV
   have hoop : Own i64D 3 w.heap.size (V.alloc (.cells #[.int .i64 (cn : Int)] 3)) (.slice (some ⟨gg, 0, none⟩) (k + 1) co) (k + 1) ol := by have h9 := hV4.op; rw [Hdd.out] at h9; exact h9
   obtain ⟨i2, hi2, hy0, hy1, hy2⟩ := info_parts info3
   have hszV := hV4.kept.size
   have HV4 := hide hV4
   have HVF4 := hide hVF4
   clear hVM hVF hV4 hVF4 hkV
   go_upto_region 10 with (first
    | (at_builtin; refine wpList_append_el (T := i64D) rfl (.tmp 57) (.tmp 62) 96 rfl w.heap.size 3 i2 _ 8 Try.underlying96 hi2 hy0 hy1 hy2 rfl (show 0 < 1 by decide) _ (k + 1) ol (by rfl) hoop V.heap.size _ _ (cn : Int) (by rfl) (heap_at _ rfl) ⟨rfl, trivial⟩ (by simp [Value.oneCell']) (by unfold maxLen; omega) (by omega) hszV ?_; intro g6 cap6 w6 hown6 hg6 hb6 hat6 hlt6))
   have h6 := HV4.out.opTo (v' := .slice (some ⟨g6, 0, none⟩) (k + 1 + 1) cap6) hg6 hb6 (l := ol ++ [(cn : Int)]) (by rw [List.length_append, Hdd.out]; exact hown6) (hat6.elim (fun e => .inr (.inl e.symm)) (fun e => .inr (.inr (by rw [e]; rfl))))
   have hF6 := HVF4.out.grown HV4.out.op (by decide) (by decide) hg6
   have Hb := hide hb
   have hcl : cl ++ [⟨(i4 : Int), 458752 + (i : Int), p⟩] = clf := by rw [← Hec.out, if_pos Hb.out, Hi4.out]
   rw [hcl] at h6
   refine q10 (cl := clf) (dd := k + 1 + 1) (p := (cn : Int)) h6 hF6 h7 hba hin hfl (by rw [List.length_append, Hdd.out]; rfl) (by omega) (by omega) (by rw [show k + 1 + 1 - 1 = ol.length by rw [Hdd.out]; omega]; simp) hfl20 (by rw [← He.out]; unfold d1; simp only [Hb.out, if_true]) Hsm.out hg0 (by rw [← Hef.out, if_pos Hb.out]) _ _ ?_ HQ.out <;> assumption
  ·go_simp
   try dsimp only
   refine hK.out _ _ ?_ (fun hS => ?_)
   ·exact ⟨fun o => World.cell?_alloc_lt _ _ _ lg, trivial⟩
   clear hK K
   try simp only [Act.put, zp1, zp2, zp3, zp4, zp5, zp6]
   have ho1 := opE ops8d 1 (by kernel_rfl)
   conv at ho1 => rhs; arg 1; whnf
   refine wpAnyH_ready (rs := [1]) (by kernel_rfl) (by simp) ?_
   refine (AllReadyH.cons ho1 (fun K hK => ?_) AllReadyH.nil)
   all_goals clear ho1
   go_simp
   try dsimp only
   refine hK.out _ _ ?_ (fun hS => ?_)
   ·exact hS
   clear hK K
   try simp only [Act.put, zp1, zp2, zp3, zp4, zp5, zp6]
   have ho16 := opE ops8d 16 (by kernel_rfl)
   conv at ho16 => rhs; arg 1; whnf
   refine wpAnyH_ready (rs := [16]) (by kernel_rfl) (by simp) ?_
   refine (AllReadyH.cons ho16 (fun K hK => ?_) AllReadyH.nil)
   all_goals clear ho16
   have hk4 : Kept W ((W.drew).alloc (.cells #[.int .u8 (i4 : Int), .int .u32 (458752 + (i : Int)), .int .i64 p] 68)) := ((Below.refl _ _).drew).alloc (Nat.le_refl _) _
   have h4 := HM.out.keep hk4
   have hF4 := HF.out.keep hk4
   obtain ⟨i1, hi1, hz0, hz1, hz2⟩ := info_parts info68
   have hocs : Own coT 68 w.heap.size ((W.drew).alloc (.cells #[.int .u8 (i4 : Int), .int .u32 (458752 + (i : Int)), .int .i64 p] 68)) vc cn cl := by have h9 := h4.cs; rw [Hcn.out] at h9; exact h9
   refine step_append_el (T := coT) rfl (.tmp 40) (.tmp 54) 38 rfl w.heap.size 68 i1 _ 16 Try.underlying38 hi1 hz0 hz1 hz2 rfl (show 0 < 3 by decide) vc cn cl (by rfl) hocs W.heap.size #[.int .u8 (i4 : Int), .int .u32 (458752 + (i : Int)), .int .i64 p] 68 ⟨(i4 : Int), 458752 + (i : Int), p⟩ (by rfl) (heap_at _ rfl) ⟨rfl, trivial⟩ (by simp [Value.oneCell']) (by unfold maxLen; omega) (by omega) h4.kept.size ?_
   intro g5 cap5 w5 hown5 hg5 hb5 hat5 hlt5
   have bm5 : w5.heap[MB]? = some (.cells #[vf, vc, .bool nm] 40 (0, 0)) := heap_grown hg5 h4.bm (fun e => own_type_ne h4.cs h4.bm (by decide) e.symm)
   have fm5 := frozen_heap bm5 (o := 1)
   have lm5 := heap_lt bm5
   have cm5 : w5.cell? ⟨MB, 1, none⟩ = some vc := cell_heap bm5 (o := 1) rfl
   have hgh5 := heap_grown hg5 (heap_kept hk4 Hgh.out) (fun e => own_type_ne h4.cs (heap_kept hk4 Hgh.out) (by decide) e.symm)
   have hS5 : ∀ o, w5.cell? ⟨gg, o, none⟩ = W.cell? ⟨gg, o, none⟩ := fun o => World.cell?_of_block (a := ⟨gg, o, none⟩) (hgh5.trans Hgh.out.symm)
   have hMg : ¬ MB = gg := fun e => by have h1 := HM.out.bm; rw [e, Hgh.out] at h1; injection h1 with h1; injection h1 with _ h2 _; exact absurd h2 (by decide)
   refine hK.out _ _ ?_ (fun hS => ?_)
   ·exact ⟨hS5, trivial⟩
   clear hK K
   try simp only [Act.put, zp1, zp2, zp3, zp4, zp5, zp6]
   have ho := opE ops8d 17 (by kernel_rfl)
   conv at ho => rhs; arg 1; whnf
   refine tk0 (v := ?_) ho (by kernel_rfl) hS ?_ ?_ <;> clear ho
   rotate_left
   ·intro w' hq hq2; first | (go_simp; done) | (go_simp; with_reducible rfl)
   try simp only [Act.put, zp1, zp2, zp3, zp4, zp5, zp6]
   have ho18 := opE ops8d 18 (by kernel_rfl)
   conv at ho18 => rhs; arg 1; whnf
   refine wpAnyH_ready (rs := [18]) (by kernel_rfl) (by simp) ?_
   refine (AllReadyH.cons ho18 (fun K hK => ?_) AllReadyH.nil)
   all_goals clear ho18
   go_simp
   try dsimp only
   refine hK.out _ _ ?_ (fun hS => ?_)
   ·exact ⟨fun o => (World.cell?_setCell_other _ _ _ _ (fun e => hMg (by have := congrArg Addr.block e; exact this))).trans (hS5 o), trivial⟩
   clear hK K
   try simp only [Act.put, zp1, zp2, zp3, zp4, zp5, zp6]
   refine wpAnyH_done (by kernel_rfl) ?_ _
   have h9 := h4.csTo (v' := .slice (some ⟨g5, 0, none⟩) (cn + 1) cap5) hg5 hb5 (l := cl ++ [⟨(i4 : Int), 458752 + (i : Int), p⟩]) (by rw [List.length_append, Hcn.out]; exact hown5) (hat5.elim (fun e => .inr (.inl e.symm)) (fun e => .inr (.inr (by rw [e]; rfl))))
   have hF9 := (hF4.grown h4.cs (by decide) (by decide) hg5).other bm5 (by decide) (by decide) 1 (.slice (some ⟨g5, 0, none⟩) (cn + 1) cap5)
   have H9 := hide h9
   have HF9 := hide hF9
   clear hS cm5 fm5 lm5 bm5 hgh5 hS5 hg5 hb5 hat5 hown5 h4 hF4 h9 hF9 hocs
   refine NoPanic.normal ?_
   refine (show ∀ (a : Act) (w : World), Code.wp Try.prog _ _ a w → _ from by assumption) _ _ ?_
   refine wp_at (fun V => MD w V DB RB MB FB nb nm (some ⟨ba, oa, none⟩) n cap (.slice (some ⟨gg, 0, none⟩) (k + 1) co) vf (.slice (some ⟨g5, 0, none⟩) (cn + 1) cap5) ol fl (cl ++ [⟨(i4 : Int), 458752 + (i : Int), p⟩]) ∧ FX w V FB U c g) ⟨H9.out, HF9.out⟩ (fun V hV => ?_)
   clear H9 HF9
   obtain ⟨hVM, hVF⟩ := hV
   have m1 : V.cell? ⟨MB, 1, none⟩ = some (.slice (some ⟨g5, 0, none⟩) (cn + 1) cap5) := cell_heap hVM.bm (o := 1) rfl
   have lm := heap_lt hVM.bm
   have HVM := hide hVM
   have HVF := hide hVF
   have hkV : Kept V (V.alloc (.cells #[.int .i64 (cn : Int)] 3)) := (Below.refl _ _).alloc (Nat.le_refl _) _
   have hV4 := hVM.keep hkV
   have hVF4 := hVF.keep hkV
   have hoop : Own i64D 3 w.heap.size (V.alloc (.cells #[.int .i64 (cn : Int)] 3)) (.slice (some ⟨gg, 0, none⟩) (k + 1) co) (k + 1) ol := by have h9 := hV4.op; rw [Hdd.out] at h9; exact h9
   obtain ⟨i2, hi2, hy0, hy1, hy2⟩ := info_parts info3
   have hszV := hV4.kept.size
   have HV4 := hide hV4
   have HVF4 := hide hVF4
   clear hVM hVF hV4 hVF4 hkV
   go_upto_region 10 with (first
    | (at_builtin; refine wpList_append_el (T := i64D) rfl (.tmp 57) (.tmp 62) 96 rfl w.heap.size 3 i2 _ 8 Try.underlying96 hi2 hy0 hy1 hy2 rfl (show 0 < 1 by decide) _ (k + 1) ol (by rfl) hoop V.heap.size _ _ (cn : Int) (by rfl) (heap_at _ rfl) ⟨rfl, trivial⟩ (by simp [Value.oneCell']) (by unfold maxLen; omega) (by omega) hszV ?_; intro g6 cap6 w6 hown6 hg6 hb6 hat6 hlt6))
   have h6 := HV4.out.opTo (v' := .slice (some ⟨g6, 0, none⟩) (k + 1 + 1) cap6) hg6 hb6 (l := ol ++ [(cn : Int)]) (by rw [List.length_append, Hdd.out]; exact hown6) (hat6.elim (fun e => .inr (.inl e.symm)) (fun e => .inr (.inr (by rw [e]; rfl))))
   have hF6 := HVF4.out.grown HV4.out.op (by decide) (by decide) hg6
   have Hb := hide hb
   have hcl : cl ++ [⟨(i4 : Int), 458752 + (i : Int), p⟩] = clf := by rw [← Hec.out, if_pos Hb.out, Hi4.out]
   rw [hcl] at h6
   refine q10 (cl := clf) (dd := k + 1 + 1) (p := (cn : Int)) h6 hF6 h7 hba hin hfl (by rw [List.length_append, Hdd.out]; rfl) (by omega) (by omega) (by rw [show k + 1 + 1 - 1 = ol.length by rw [Hdd.out]; omega]; simp) hfl20 (by rw [← He.out]; unfold d1; simp only [Hb.out, if_true]) Hsm.out hg0 (by rw [← Hef.out, if_pos Hb.out]) _ _ ?_ HQ.out <;> assumption
theorem own_lit {α : Type} {t : Ty α} {e : TypeId} {w : World} {base g : Nat} {x : α} {cs : Array Value} (hb : base ≤ g) (h : w.heap[g]? = some (.cells cs e (0, 0))) (hr : t.rel w (apart w (.slice (some ⟨g, 0, none⟩) 1 1)) x cs.toList) : Own t e base w (.slice (some ⟨g, 0, none⟩) 1 1) 1 [x] := by
 have hl := t.len hr
 refine ⟨rfl, cs.toList, ⟨by omega, .inr ⟨g, 1, cs, rfl, hb, h, Nat.le_refl _, by decide, by rw [← hl]; simp, by rw [List.take_of_length_le (by omega)]⟩⟩, fun i y hy => ?_⟩
 cases i with
 | zero =>
  obtain rfl : x = y := by simpa using hy
  rw [Nat.zero_mul, List.drop_zero, List.take_of_length_le (by omega)]
  exact hr
 | succ i => simp at hy
theorem stM_ok {x : PD} (hx : ∀ f ∈ x.fields, f.ok) {i : Nat} (hi : i ≤ lenD x) : (stM x i).opens ≠ [] ∧ (stM x i).opens.length ≤ 5 ∧ (stM x i).fields.length ≤ i ∧ (stM x i).colls.length ≤ i + 1 ∧ (∀ f ∈ (stM x i).fields, 0 ≤ f.size * f.count ∧ f.size * f.count ≤ 108) := by
 obtain ⟨_, _, h⟩ := invT_all hx (w3 := 0) (w2 := 0) i hi
 exact ⟨h.pos, h.le, h.nf, h.nc, h.small⟩
theorem rev_last {l : List Int} (h : l ≠ []) : l.reverse[l.length - 1]? = some (l.headD (-1)) := by
 cases l with
 | nil => exact absurd rfl h
 | cons a l => simp
theorem rev_pop (l : List Int) : l.reverse.take (l.length - 1) = l.tail.reverse := by
 cases l with
 | nil => rfl
 | cons a l => simp
structure MR (w W : World) (RB : Nat) (X : Nat → Prop) (vf vc : Value) (fn cn : Nat) (fl : List Fd) (cl : List Co) : Prop where
 kept : Kept w W
 br : ∃ cs, W.heap[RB]? = some (.cells cs 40 (0, 0))
 fs : Own (fdM.on X) 59 w.heap.size W vf fn fl
 cs : Own coT 68 w.heap.size W vc cn cl
 hX : ∀ b, X b → b ≠ RB
 lo : w.heap.size ≤ RB
theorem MR.set {w W : World} {RB fn cn : Nat} {X : Nat → Prop} {vf vc : Value} {fl : List Fd} {cl : List Co} (h : MR w W RB X vf vc fn cn fl cl) (i : Nat) (u : Value) : MR w (W.setCell ⟨RB, i, none⟩ u) RB X vf vc fn cn fl cl := by
 have hg : W.grownBy (W.setCell ⟨RB, i, none⟩ u) (some RB) := grown_at grown_self i u
 obtain ⟨cs, hb⟩ := h.br
 exact ⟨h.kept.trans ((Below.refl _ _).setCell (p := ⟨RB, i, none⟩) h.lo _), ⟨_, heap_store hb u⟩, h.fs.grownX hg (fun b e hx => h.hX b hx (by injection e)) (own_ne_or h.fs hb (by decide)), h.cs.grownF flat_co hg (own_ne_or h.cs hb (by decide)), h.hX, h.lo⟩
theorem MR.fields {w W : World} {RB fn cn m c : Nat} {X : Nat → Prop} {A : Option Addr} {vc : Value} {fl : List Fd} {cl : List Co} (h : MR w W RB X (.slice A m c) vc fn cn fl cl) (_ : fl.length = fn) : Sl fdM W (low W.heap.size) A fn fl := h.fs.sl.off
theorem MR.colls {w W : World} {RB fn cn m c : Nat} {X : Nat → Prop} {A : Option Addr} {vf : Value} {fl : List Fd} {cl : List Co} (h : MR w W RB X vf (.slice A m c) fn cn fl cl) (_ : cl.length = cn) : Sl coT W (low W.heap.size) A cn cl := h.cs.sl
theorem MD.toR {w W : World} {DB RB MB FB n cap : Nat} {nb nm : Bool} {A : Option Addr} {vo vf vc : Value} {ol : List Int} {fl : List Fd} {cl : List Co} (h : MD w W DB RB MB FB nb nm A n cap vo vf vc ol fl cl) : MR w W RB (BusyD RB MB FB vo vf vc) vf vc fl.length cl.length fl cl :=
 ⟨h.kept, ⟨_, h.br⟩, h.fs, h.cs, fun _ hx => hx.1, h.low.2.1⟩
set_option maxRecDepth 1000000 in
theorem dmap_any (x : PD) (A : Option Addr) (cap : Nat) (w : World) (hx : PdIs w x A cap) (hok : ∀ f ∈ x.fields, f.ok) :
  Calls Try.prog 19 #[.agg #[.bool x.numbers, .slice A x.fields.length cap]] w fun e w' => (∃ Af cf Ac cc, e = .returned (.agg #[.slice Af (stM x (lenD x)).fields.length cf, .slice Ac (stM x (lenD x)).colls.length cc, .bool (x.numbers && decide (0 < lenD x))]) ∧
   Sl fdM w' (low w'.heap.size) Af (stM x (lenD x)).fields.length (stM x (lenD x)).fields ∧ Sl coT w' (low w'.heap.size) Ac (stM x (lenD x)).colls.length (stM x (lenD x)).colls ∧ (stM x (lenD x)).fields.length ≤ cf ∧ (stM x (lenD x)).colls.length ≤ cc ∧ cf ≤ maxLen ∧ cc ≤ maxLen) ∧ Kept w w' := by
 obtain ⟨n, hn⟩ : ∃ n, x.fields.length = n := ⟨_, rfl⟩
 obtain ⟨nb, hnb⟩ : ∃ b, x.numbers = b := ⟨_, rfl⟩
 rw [hn, hnb]
 have hld : lenD x = min n 20 := by unfold lenD; rw [hn]
 obtain ⟨SF, hSF⟩ : ∃ s, stM x (lenD x) = s := ⟨_, rfl⟩
 obtain ⟨NM, hNM⟩ : ∃ b, (nb && decide (0 < lenD x)) = b := ⟨_, rfl⟩
 rw [hSF, hNM]
 have Hx := hide hx
 have Hok := hide hok
 have Hn := hide hn
 have Hnb := hide hnb
 have Hld := hide hld
 have HSF := hide hSF
 have HNM := hide hNM
 clear hx hok hn hnb hld hSF hNM
 go_enter Try.func19, Try.ntmps19
 go_upto_region 3 with fail
 refine wp_at (fun V => MD w V w.heap.size (w.heap.size + 1) (w.heap.size + 1 + 1 + 1) (w.heap.size + 1 + 1 + 1) nb false A n cap (.slice (some ⟨w.heap.size + 1 + 1 + 1 + 1, 0, none⟩) 1 1) (.slice none 0 0) (.slice (some ⟨w.heap.size + 1 + 1, 0, none⟩) 1 1) [0] [] [⟨1, 65542, -1⟩]) ?_ (fun V hV => ?_)
 ·refine ⟨by go_grown, heap_past (heap_past (heap_past (heap_past (heap_at _ rfl)))), heap_past (heap_past (heap_past (heap_at _ (by simp)))), heap_past (heap_at _ (by simp)), own_lit (cs := #[.int .i64 0]) (by omega) (heap_at _ (by simp)) ⟨rfl, trivial⟩, Own.nil _ _ _ _, own_lit (cs := #[.int .u8 1, .int .u32 65542, .int .i64 (-1)]) (by omega) (heap_past (heap_past (heap_at _ (by simp)))) ⟨rfl, trivial⟩, ⟨by omega, by omega, by omega, by omega, by omega⟩, fun e => by cases e⟩
 have HV := hide hV
 clear hV
 obtain ⟨DB, hDB⟩ : ∃ b, w.heap.size = b := ⟨_, rfl⟩
 obtain ⟨RB, hRB⟩ : ∃ b, w.heap.size + 1 = b := ⟨_, rfl⟩
 obtain ⟨MB, hMB⟩ : ∃ b, w.heap.size + 1 + 1 + 1 = b := ⟨_, rfl⟩
 rw [hMB, hRB, hDB] at HV
 simp only [hMB]
 simp only [hRB]
 simp only [hDB]
 have hlow : w.heap.size ≤ DB ∧ w.heap.size ≤ RB ∧ w.heap.size ≤ MB := by omega
 clear hDB hRB hMB
 go_wp2_with fail
 go_loopg [4, 5] (min n 20) (fun g' s4 s5 wr => ∃ (i FB : Nat) (vo vf vc : Value), i + g' = min n 20 ∧ s4 = vo ∧ s5 = .int .i64 (i : Int) ∧ MD w wr DB RB MB FB nb (nb && decide (0 < i)) A n cap vo vf vc (stM x i).opens.reverse (stM x i).fields (stM x i).colls)
 case atStart => exact ⟨0, _, _, _, _, by omega, rfl, rfl, by rw [show (nb && decide (0 < 0)) = false by simp]; exact HV.out⟩
 case round =>
  clear HV
  obtain ⟨i, FB0, vo, vf, vc, hgi, hv4, rfl, hM⟩ := hrel
  replace hv4 := hv4.symm
  subst hv4
  obtain ⟨st, hst⟩ : ∃ st, stM x i = st := ⟨_, rfl⟩
  have hok5 := stM_ok Hok.out (i := i) (by rw [Hld.out]; omega)
  rw [hst] at hM hok5
  have Hst := hide hst
  have Hgi := hide hgi
  obtain ⟨o1, o2, o3, o4, o5⟩ := hok5
  have Ho5 := hide o5
  have Ho1 := hide o1
  clear hst hgi o5 o1
  have dl1 : wr.cell? ⟨DB, 1, none⟩ = some (.slice A n cap) := cell_heap hM.bd (o := 1) rfl
  have dl0 : wr.cell? ⟨DB, 0, none⟩ = some (.bool nb) := cell_heap hM.bd (o := 0) rfl
  have lD := heap_lt hM.bd
  by_cases hlt : i < min n 20
  case pos =>
   obtain ⟨f, hf⟩ : ∃ f, x.fields[i]? = some f := ⟨_, List.getElem?_eq_getElem (by rw [Hn.out]; omega)⟩
   have hfo := Hok.out f (List.mem_of_getElem? hf)
   have hst1 : stM x (i + 1) = stepM nb i st f := by
    conv => lhs; unfold stM
    rw [hf, Hst.out, Hnb.out]
   obtain ⟨ba, oa, csa, rfl, hba, hrel2, hca⟩ := Hx.out.sl.2 i f hf
   obtain ⟨rfl, _⟩ : csa = f.cells ∧ f.ok := hrel2
   have h7 : w.cell? ⟨ba, oa + i * 8 + 7, none⟩ = some (.int .u8 f.flags) := hca 7 _ rfl
   have hdf := dfield_any x _ cap i f wr (Hx.out.kept hM.kept) hf Hok.out
   rw [Hn.out, Hnb.out] at hdf
   have hin : (i : Int) < (n : Int) := by omega
   have hi20 : (i : Int) < 20 := by omega
   have HM := hide hM
   have Hf := hide hf
   have Hst1 := hide hst1
   have Hlt := hide hlt
   have Hfo := hide hfo
   clear hM hf hst1 hlt hca hfo
   go_upto_region 7 with (first
    | (go_at_call 33; refine hdf.mono ?_; rintro e w5 ⟨⟨U, c, rfl, hown⟩, hkq⟩; replace hkq : Kept wr w5 := hkq; try dsimp only)
    | (refine wpList_store_row rfl 59 (.tmp 6) (.tmp 25) rfl w5.heap.size ((fdS nb f).cellsAt (.slice U (manyF f) c)) (by rfl) (by rfl) 59 _ (heap_at _ rfl) (by kernel_rfl) (by rfl) (by unfold Fd.cellsAt; simp [Value.oneCell']) ?_))
   refine wp_at (fun V => ∃ FB, V.heap[FB]? = some (.cells ((fdS nb f).cellsAt (.slice U (manyF f) c)) 59 (0, 0)) ∧ FB = w5.heap.size ∧ Kept w5 V) ⟨_, heap_row (heap_at _ rfl), rfl, below_row ((Below.refl _ _).alloc (Nat.le_refl _) _) (Nat.le_refl _) _⟩ (fun V hV => ?_)
   obtain ⟨FB, hFB, hFBd, hkV⟩ := hV
   rw [← hFBd]
   have hkV0 := hkq.trans' hkV
   have hul : (fdS nb f).usages.length = manyF f := by show (usagesF f).length = manyF f; unfold usagesF; simp
   have hMV := (HM.out.fresh (FB' := FB) (by rw [hFBd]; exact hkq.size)).keep hkV0
   have hFX : FX w V FB U c (fdS nb f) := ⟨by rw [hul]; exact hFB, by rw [hul]; exact (hown.lower HM.out.kept.size).kept hkV, by rw [hFBd]; exact Nat.le_trans HM.out.kept.size hkq.size⟩
   have hdd : st.opens.reverse.length = st.opens.length := List.length_reverse
   have hd1 : 1 ≤ st.opens.length := List.length_pos_iff.2 Ho1.out
   have hp := rev_last Ho1.out
   have hec : (if beginsB f st.opens.length then st.colls ++ [⟨((i % 4 : Nat) : Int), 458752 + (i : Int), st.opens.headD (-1)⟩] else st.colls) = (stepM nb i st f).colls := rfl
   have hef : st.fields ++ [{ fdS nb f with parent := if beginsB f st.opens.length then (st.colls.length : Int) else st.opens.headD (-1), pos := bitsS st.fields (fdS nb f).kind (fdS nb f).report }] = (stepM nb i st f).fields := by
    unfold stepM
    cases beginsB f st.opens.length <;> rfl
   have he : (if endsB f (d1 f st.opens.length) then (if beginsB f st.opens.length then st.opens.reverse ++ [(st.colls.length : Int)] else st.opens.reverse).take (d1 f st.opens.length - 1) else (if beginsB f st.opens.length then st.opens.reverse ++ [(st.colls.length : Int)] else st.opens.reverse)) = (stepM nb i st f).opens.reverse := by
    unfold stepM d1
    cases beginsB f st.opens.length with
    | false =>
     simp only [Bool.false_eq_true, if_false]
     cases endsB f st.opens.length with
     | false => rfl
     | true => simp only [if_true]; exact rev_pop _
    | true =>
     simp only [if_true]
     rw [show st.opens.reverse ++ [(st.colls.length : Int)] = ((st.colls.length : Int) :: st.opens).reverse by simp]
     show (if endsB f ((st.colls.length : Int) :: st.opens).length then _ else _) = _
     cases endsB f ((st.colls.length : Int) :: st.opens).length with
     | false => rfl
     | true => simp only [if_true]; exact rev_pop ((st.colls.length : Int) :: st.opens)
   obtain ⟨olf, holf⟩ : ∃ l, (stepM nb i st f).opens.reverse = l := ⟨_, rfl⟩
   obtain ⟨flf, hflf⟩ : ∃ l, (stepM nb i st f).fields = l := ⟨_, rfl⟩
   obtain ⟨clf, hclf⟩ : ∃ l, (stepM nb i st f).colls = l := ⟨_, rfl⟩
   rw [holf] at he
   rw [hflf] at hef
   rw [hclf] at hec
   have Hfin := hide (show olf = (stepM nb i st f).opens.reverse ∧ flf = (stepM nb i st f).fields ∧ clf = (stepM nb i st f).colls from ⟨holf.symm, hflf.symm, hclf.symm⟩)
   have hfl := Hfo.out.2.2.2.2.2.2.2
   clear holf hflf hclf hFB hFBd hkV hkV0 hown hkq hul hdf dl0 dl1 lD
   refine q7 hMV hFX h7 hba hin hfl (by omega) hdd o2 hd1 hp (by omega) rfl (by omega) he hec Ho5.out rfl hef _ _ _ ?_ ?_ ?_
   ·assumption
   ·assumption
   clear hMV hFX hdd hd1 hp he hec hef HM
   intro s7 tS tR tT tU tV tW s32 tX tY rX rY rZ sA sB sD sE sF sG sH sI tB tC tD tE tF tG tH tI tJ tK tL sJ sK sL sM sN sO sP sQ sR sS sT oD rL rM rN rO rP rQ rR rS rT rU rV rW sU sV sW sX sY sZ tA qZ rA rB rC rD rE rF rG rH rI rJ rK jI lP lS lT lU lO lV lW kX kY kZ lA lB lC lE lG lH lI lJ lK lN lX lY mO mP mQ mR mS mA mB mD mE mF mG mH mI mJ mK mL mM mN mT v' vf' vc' w' hM'
   have HM' := hide hM'
   clear hM'
   have hwi : IntKind.i64.wrap ((i : Int) + 1) = ((i + 1 : Nat) : Int) := by rw [IntKind.wrap_i64]; omega
   go_wp2_with fail
   go_roundg (gk - 1)
   case measure => have := Hgi.out; omega
   case rel =>
    refine ⟨i + 1, FB, v', vf', vc', by have := Hgi.out; omega, rfl, by first | rfl | go_num | (rw [hwi]), ?_⟩
    rw [Hst1.out, ← Hfin.out.1, ← Hfin.out.2.1, ← Hfin.out.2.2, show (nb && decide (0 < i + 1)) = nb by simp]
    exact HM'.out
  case neg =>
   have hi20 : i = min n 20 := by have := Hgi.out; omega
   have hSFs : st = SF := by rw [← Hst.out, ← HSF.out, Hld.out, hi20]
   have hNMs : (nb && decide (0 < i)) = NM := by rw [← HNM.out, Hld.out, hi20]
   rw [hSFs, hNMs] at hM
   obtain ⟨Af, cf, rfl, hf1, hf2⟩ := hM.fs.isSlice
   obtain ⟨Ac, cc, rfl, hc1, hc2⟩ := hM.cs.isSlice
   obtain ⟨fn, hfn⟩ : ∃ k, SF.fields.length = k := ⟨_, rfl⟩
   obtain ⟨cn, hcn⟩ : ∃ k, SF.colls.length = k := ⟨_, rfl⟩
   have hR := hM.toR
   rw [hfn, hcn] at hM hR
   rw [hfn] at hf1
   rw [hcn] at hc1
   have r0 : wr.cell? ⟨RB, 0, none⟩ = some (.slice none 0 0) := cell_heap hM.br (o := 0) rfl
   have r1 : wr.cell? ⟨RB, 1, none⟩ = some (.slice none 0 0) := cell_heap hM.br (o := 1) rfl
   have r2 : wr.cell? ⟨RB, 2, none⟩ = some (.bool false) := cell_heap hM.br (o := 2) rfl
   have fr0 := frozen_heap hM.br (o := 0)
   have fr1 := frozen_heap hM.br (o := 1)
   have fr2 := frozen_heap hM.br (o := 2)
   have lR := heap_lt hM.br
   have m0 : wr.cell? ⟨MB, 0, none⟩ = some (.slice Af fn cf) := cell_heap hM.bm (o := 0) rfl
   have m1 : wr.cell? ⟨MB, 1, none⟩ = some (.slice Ac cn cc) := cell_heap hM.bm (o := 1) rfl
   have m2 : wr.cell? ⟨MB, 2, none⟩ = some (.bool NM) := cell_heap hM.bm (o := 2) rfl
   have lM := heap_lt hM.bm
   have hRR := ((hR.set 0 (.slice Af fn cf)).set 1 (.slice Ac cn cc)).set 2 (.bool NM)
   have HRR := hide hRR
   have HRB := hide (show (((wr.setCell ⟨RB, 0, none⟩ (.slice Af fn cf)).setCell ⟨RB, 1, none⟩ (.slice Ac cn cc)).setCell ⟨RB, 2, none⟩ (.bool NM)).heap[RB]? = some (.cells #[.slice Af fn cf, .slice Ac cn cc, .bool NM] 40 (0, 0)) from heap_store (heap_store (heap_store hM.br _) _) _)
   have Hfn := hide hfn
   have Hcn := hide hcn
   have Hi := hide hi20
   clear hM hR hRR hfn hcn hi20 hSFs hNMs hlt
   by_cases hin : (i : Int) < (n : Int)
   case pos =>
    have hi20 : ¬ (i : Int) < 20 := by have := Hi.out; omega
    go_wp2_with fail
    refine bodyPost_ret (v := .agg #[.slice Af fn cf, .slice Ac cn cc, .bool NM]) (results_cell_row (P := Try.prog) rfl _ _ RB 40 _ (0, 0) _ (by rfl) HRB.out Try.underlying40 rfl (by kernel_rfl)) rfl ?_
    exact ⟨⟨Af, cf, Ac, cc, by rw [Hfn.out, Hcn.out], by rw [Hfn.out]; exact HRR.out.fields Hfn.out, by rw [Hcn.out]; exact HRR.out.colls Hcn.out, by rw [Hfn.out]; exact hf1, by rw [Hcn.out]; exact hc1, hf2, hc2⟩, HRR.out.kept⟩
   case neg =>
    go_wp2_with fail
    refine bodyPost_ret (v := .agg #[.slice Af fn cf, .slice Ac cn cc, .bool NM]) (results_cell_row (P := Try.prog) rfl _ _ RB 40 _ (0, 0) _ (by rfl) HRB.out Try.underlying40 rfl (by kernel_rfl)) rfl ?_
    exact ⟨⟨Af, cf, Ac, cc, by rw [Hfn.out, Hcn.out], by rw [Hfn.out]; exact HRR.out.fields Hfn.out, by rw [Hcn.out]; exact HRR.out.colls Hcn.out, by rw [Hfn.out]; exact hf1, by rw [Hcn.out]; exact hc1, hf2, hc2⟩, HRR.out.kept⟩
end Go.Proofs.Ytegdigfcgeoboaa
