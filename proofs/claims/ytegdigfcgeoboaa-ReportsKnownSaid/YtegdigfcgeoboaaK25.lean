/- The law of the chapter on reports, part 25: Xc Xd Xe. -/
import Derived.Test.YtegdigfcgeoboaaK24
set_option maxHeartbeats 16000000
set_option linter.unusedVariables false
set_option linter.unusedSimpArgs false
set_option linter.unusedSectionVars false
namespace Go.Proofs.Ytegdigfcgeoboaa
open Go.RowKit Go.Maps
attribute [local go_sem ↓] Go.wp_at_zero Go.wp_at_succ
variable {u0 u7 u8 u9 gI kI gJ jY eG eH u16 eE eF dX dY dZ eA eB eC eD eI eJ eK eL eM eN u32 eO eP iN iO iP iQ iR fK iS iT iU iV iW iX gK gL gM gN gO gP gQ gR gS gT iY iZ jA jB jC jD jE u64 jF jG jH jJ jK jL jM jN jO jP jQ jR jZ kE kF kG kH jS jT jU jV jW jX kJ kK kM kN kO kP kQ kR kS kT kU kV aK aG aA aB aC aD aE aF aH aI aJ aL bC bD bE bF bG bH bI bJ bK bL aR aM aN aO aP aQ aS aT aU aV aW aX aY aZ bA bM bN bP bQ bS bR : Value}
noncomputable def code16d : Code := (Try.f19.body.bind (findQ 16)).getD .skip
set_option maxRecDepth 1000000 in
theorem q16 {w W : World} {DB RB MB FB ba oa n cap i : Nat} {nb nm : Bool} {vo vf vc : Value} {ol olf : List Int} {fl flf : List Fd} {cl clf : List Co} {f : PF} {dd c : Nat} {U : Option Addr} {g : Fd} (hM : MD w W DB RB MB FB nb nm (some ⟨ba, oa, none⟩) n cap vo vf vc ol fl clf) (hF : FX w W FB U c g) (h7 : w.cell? ⟨ba, oa + i * 8 + 7, none⟩ = some (.int .u8 f.flags)) (hba : ba < w.heap.size) (hin : (i : Int) < (n : Int)) (hfl : u8k f.flags) (hdd : ol.length = dd) (hd5 : dd ≤ 6) (hfl20 : fl.length ≤ 20) (he : (if endsB f dd then ol.take (dd - 1) else ol) = olf) (hef : fl ++ [g] = flf)
  (Q : Exit → Act → World → Prop) (K : Act → World → Prop) (hK : ∀ a w', Code.wp Try.prog (restC code16d) Q a w' → K a w') (hQ : ∀ (s7 tS tR tT tU tV tW s32 tX tY rX rY rZ sA sB sD sE sF sG sH sI tB tC tD tE tF tG tH tI tJ tK tL sJ sK sL sM sN sO sP sQ sR sS sT oD rL rM rN rO rP rQ rR rS rT rU rV rW sU sV sW sX sY sZ tA qZ rA rB rC rD rE rF rG rH rI rJ rK jI lP lS lT lU lO lV lW kX kY kZ lA lB lC lE lG lH lI lJ lK lN lX lY mO mP mQ mR mS mA mB mD mE mF mG mH mI mJ mK mL mM mN mT : Value) (v' vf' vc' : Value) (w' : World), MD w w' DB RB MB FB nb nb (some ⟨ba, oa, none⟩) n cap v' vf' vc' olf flf clf → Q .normal ⟨#[u0, .pointer (some ⟨DB, 0, none⟩), .pointer (some ⟨RB, 0, none⟩), .pointer (some ⟨MB, 0, none⟩), v', .int .i64 (i : Int), .pointer (some ⟨FB, 0, none⟩), s7, u8, u9, gI, kI, gJ, jY, eG, eH, u16, eE, eF, dX, dY, dZ, eA, eB, eC, eD, tS, tR, tT, tU, tV, tW, s32, tX, tY, rX, rY, rZ, sA, sB, sD, sE, sF, sG, sH, sI, tB, tC, tD, tE, tF, tG, tH, tI, tJ, tK, tL, sJ, sK, sL, sM, sN, sO, sP, sQ, sR, sS, sT, oD, rL, rM, rN, rO, rP, rQ, rR, rS, rT, rU, rV, rW, sU, sV, sW, sX, sY, sZ, tA, qZ, rA, rB, rC, rD, rE, rF, rG, rH, rI, rJ, rK, jI, lP, lS, lT, lU, lO, lV, lW, kX, kY, kZ, lA, lB, lC, lE, lG, lH, lI, lJ, lK, lN, lX, lY, mO, mP, mQ, mR, mS, mA, mB, mD, mE, mF, mG, mH, mI, mJ, mK, mL, mM, mN, mT, bR], []⟩ w') :
  Code.wp Try.prog (headC code16d) (Exit.then K Q) ⟨#[u0, .pointer (some ⟨DB, 0, none⟩), .pointer (some ⟨RB, 0, none⟩), .pointer (some ⟨MB, 0, none⟩), vo, .int .i64 (i : Int), .pointer (some ⟨FB, 0, none⟩), u7, u8, u9, gI, kI, gJ, jY, eG, eH, u16, eE, eF, dX, dY, dZ, eA, eB, eC, eD, eI, eJ, eK, eL, eM, eN, u32, eO, eP, iN, iO, iP, iQ, iR, fK, iS, iT, iU, iV, iW, iX, gK, gL, gM, gN, gO, gP, gQ, gR, gS, gT, iY, iZ, jA, jB, jC, jD, jE, u64, jF, jG, jH, jJ, jK, jL, jM, jN, jO, jP, jQ, jR, jZ, kE, kF, kG, kH, jS, jT, jU, jV, jW, jX, kJ, kK, kM, kN, kO, kP, kQ, kR, kS, kT, kU, kV, aK, aG, aA, aB, aC, aD, aE, aF, aH, aI, aJ, aL, bC, bD, bE, bF, bG, bH, bI, bJ, bK, bL, aR, aM, aN, aO, aP, aQ, aS, aT, aU, aV, aW, aX, aY, aZ, bA, bM, bN, bP, bQ, bS, bR], []⟩ W := by
 obtain ⟨us, hus⟩ : ∃ us, g.usages.length = us := ⟨_, rfl⟩
 obtain ⟨AF, cf, rfl, hf1, hf2⟩ := hM.fs.isSlice
 obtain ⟨fn, hfn⟩ : ∃ fn, fl.length = fn := ⟨_, rfl⟩
 rw [hfn] at hM hf1 hfl20
 have hB := hF.box
 rw [hus] at hB
 unfold Fd.cellsAt at hB
 have m0 : W.cell? ⟨MB, 0, none⟩ = some (.slice AF fn cf) := cell_heap hM.bm (o := 0) rfl
 have lM := heap_lt hM.bm
 have lF := heap_lt hB
 have hkW : Kept W (W.alloc (.cells #[.int .u8 g.kind, .int .u8 g.report, .int .i64 g.parent, .slice U us c, .int .i64 g.lo, .int .i64 g.hi, .int .i64 g.size, .int .i64 g.count, .int .i64 g.pos, .bool g.const, .bool g.array, .bool g.signed, .bool g.rel] 59)) := (Below.refl _ _).alloc (Nat.le_refl _) _
 have h4 := hM.keep hkW
 have hrel := fx_rel h4 (hF.keep hkW)
 rw [hus] at hrel
 unfold Fd.cellsAt at hrel
 have hown : Own (fdM.on (fun b => BusyD RB MB FB vo (.slice AF fn cf) vc b ∧ b < (W.alloc (.cells #[.int .u8 g.kind, .int .u8 g.report, .int .i64 g.parent, .slice U us c, .int .i64 g.lo, .int .i64 g.hi, .int .i64 g.size, .int .i64 g.count, .int .i64 g.pos, .bool g.const, .bool g.array, .bool g.signed, .bool g.rel] 59)).heap.size)) 59 w.heap.size (W.alloc (.cells #[.int .u8 g.kind, .int .u8 g.report, .int .i64 g.parent, .slice U us c, .int .i64 g.lo, .int .i64 g.hi, .int .i64 g.size, .int .i64 g.count, .int .i64 g.pos, .bool g.const, .bool g.array, .bool g.signed, .bool g.rel] 59)) (.slice AF fn cf) fn fl := by have h9 := h4.fs.widen (fun b h1 h2 => (⟨h2, h1⟩ : BusyD RB MB FB vo (.slice AF fn cf) vc b ∧ b < (W.alloc (.cells #[.int .u8 g.kind, .int .u8 g.report, .int .i64 g.parent, .slice U us c, .int .i64 g.lo, .int .i64 g.hi, .int .i64 g.size, .int .i64 g.count, .int .i64 g.pos, .bool g.const, .bool g.array, .bool g.signed, .bool g.rel] 59)).heap.size)); rw [hfn] at h9; exact h9
 obtain ⟨i1, hi1, hz0, hz1, hz2⟩ := info_parts info59
 have hsz : w.heap.size ≤ (W.alloc (.cells #[.int .u8 g.kind, .int .u8 g.report, .int .i64 g.parent, .slice U us c, .int .i64 g.lo, .int .i64 g.hi, .int .i64 g.size, .int .i64 g.count, .int .i64 g.pos, .bool g.const, .bool g.array, .bool g.signed, .bool g.rel] 59)).heap.size := h4.kept.size
 have hFl : FB < (W.alloc (.cells #[.int .u8 g.kind, .int .u8 g.report, .int .i64 g.parent, .slice U us c, .int .i64 g.lo, .int .i64 g.hi, .int .i64 g.size, .int .i64 g.count, .int .i64 g.pos, .bool g.const, .bool g.array, .bool g.signed, .bool g.rel] 59)).heap.size := Nat.lt_of_lt_of_le lF hkW.size
 have HM := hide hM
 have HF := hide hF
 have HB := hide hB
 have HQ := hide hQ
 have He := hide he
 have Hef := hide hef
 have Hdd := hide hdd
 have Hfn := hide hfn
 have Hus := hide hus
 have H4 := hide h4
 have HkW := hide hkW
 clear hM hF hB hQ he hef hdd hfn hus h4 hkW
 conv => arg 2; whnf
 conv at hK => enter [a, w', 1, 2]; whnf
 go_upto_region 17 with (first
  | (refine wpList_load_row rfl 59 (.tmp 6) rfl _ (by rfl) 59 _ (0, 0) _ HB.out Try.underlying59 rfl (by kernel_rfl) ?_)
  | (at_builtin; refine wpList_append_el (T := fdM.on (fun b => BusyD RB MB FB vo (.slice AF fn cf) vc b ∧ b < (W.alloc (.cells #[.int .u8 g.kind, .int .u8 g.report, .int .i64 g.parent, .slice U us c, .int .i64 g.lo, .int .i64 g.hi, .int .i64 g.size, .int .i64 g.count, .int .i64 g.pos, .bool g.const, .bool g.array, .bool g.signed, .bool g.rel] 59)).heap.size)) rfl (.tmp 116) (.tmp 118) 37 rfl w.heap.size 59 i1 _ 88 Try.underlying37 hi1 hz0 hz1 hz2 rfl (show 0 < 13 by decide) _ fn fl (by rfl) hown W.heap.size _ _ g (by rfl) (heap_at _ rfl) hrel (by simp [Value.oneCell']) (by unfold maxLen; omega) (by omega) hsz ?_; intro gg cap2 w4 hown4 hg4 hb4 hat4 hlt4; have bm4 : w4.heap[MB]? = some (.cells #[.slice AF fn cf, vc, .bool nm] 40 (0, 0)) := heap_grown hg4 H4.out.bm (fun e => own_type_ne H4.out.fs H4.out.bm (by decide) e.symm); have fm4 := frozen_heap bm4 (o := 0); have lm4 := heap_lt bm4; have cm4 : w4.cell? ⟨MB, 0, none⟩ = some (.slice AF fn cf) := cell_heap bm4 (o := 0) rfl))
 have h9 := H4.out.fsTo (v' := .slice (some ⟨gg, 0, none⟩) (fn + 1) cap2) hg4 hb4 (l := fl ++ [g]) (by rw [List.length_append, Hfn.out]; exact hown4) (hat4.elim (fun e => .inr (.inl e.symm)) (fun e => .inr (.inr (by rw [e]; rfl)))) hFl
 refine wp_at (fun V => MD w V DB RB MB FB nb nm (some ⟨ba, oa, none⟩) n cap vo (.slice (some ⟨gg, 0, none⟩) (fn + 1) cap2) vc ol (fl ++ [g]) clf) h9 (fun V hV => ?_)
 clear h9 bm4 fm4 lm4 cm4 hown4 hg4 hb4 hat4 hlt4 hown hrel m0 lM lF hsz hFl
 have d0 : V.cell? ⟨DB, 0, none⟩ = some (.bool nb) := cell_heap hV.bd (o := 0) rfl
 have m2 : V.cell? ⟨MB, 2, none⟩ = some (.bool nm) := cell_heap hV.bm (o := 2) rfl
 have fm2 := frozen_heap hV.bm (o := 2)
 have lM := heap_lt hV.bm
 have lD := heap_lt hV.bd
 have hV2 := hV.cell 2 (.bool nb) rfl hV.fs hV.cs hV.nf
 have HV2 := hide (Hef.out ▸ hV2)
 clear hV hV2
 go_upto_region 18 with fail
 refine q18 (nm := nb) (fl := fl) (cl := clf) HV2.out h7 hba hin hfl Hdd.out hd5 He.out _ _ ?_ HQ.out <;> assumption
theorem bits_ge0 : ∀ {l : List Fd}, (∀ f ∈ l, 0 ≤ f.size * f.count) → ∀ k r, 0 ≤ bitsS l k r
 | [], _, _, _ => Int.le_refl 0
 | g :: l, h, k, r => by
  have h1 := bits_ge0 (fun g hg => h g (List.mem_cons_of_mem _ hg)) k r
  have h2 := h g List.mem_cons_self
  unfold bitsS at h1 ⊢
  rw [List.filter_cons]
  split
  ·simp only [List.map_cons, List.sum_cons]; omega
  ·exact h1
noncomputable def ops15d : Array Oper := opsOf ((Try.f19.body.bind (findQ 15)).getD .skip)
noncomputable def code11d : Code := (Try.f19.body.bind (findQ 11)).getD .skip
noncomputable def after11d : Code := (Try.f19.body.bind (afterQ 11)).getD .skip
set_option maxRecDepth 1000000 in
theorem q11 {w W : World} {DB RB MB FB ba oa n cap i : Nat} {nb nm : Bool} {vo vf vc : Value} {ol olf : List Int} {fl flf : List Fd} {cl clf : List Co} {f : PF} {dd c : Nat} {U : Option Addr} {g : Fd} (hM : MD w W DB RB MB FB nb nm (some ⟨ba, oa, none⟩) n cap vo vf vc ol fl clf) (hF : FX w W FB U c g) (h7 : w.cell? ⟨ba, oa + i * 8 + 7, none⟩ = some (.int .u8 f.flags)) (hba : ba < w.heap.size) (hin : (i : Int) < (n : Int)) (hfl : u8k f.flags) (hdd : ol.length = dd) (hd5 : dd ≤ 6) (hfl20 : fl.length ≤ 20) (he : (if endsB f dd then ol.take (dd - 1) else ol) = olf) (hsm : ∀ f ∈ fl, 0 ≤ f.size * f.count ∧ f.size * f.count ≤ 108) (hg0 : g.pos = 0) (hef : fl ++ [{ g with pos := bitsS fl g.kind g.report }] = flf)
  (Q : Exit → Act → World → Prop) (K K2 : Act → World → Prop) (hK : ∀ a w', Code.wp Try.prog (restC code11d) (Exit.then K2 Q) a w' → K a w') (hK2 : ∀ a w', Code.wp Try.prog after11d Q a w' → K2 a w') (hQ : ∀ (s7 tS tR tT tU tV tW s32 tX tY rX rY rZ sA sB sD sE sF sG sH sI tB tC tD tE tF tG tH tI tJ tK tL sJ sK sL sM sN sO sP sQ sR sS sT oD rL rM rN rO rP rQ rR rS rT rU rV rW sU sV sW sX sY sZ tA qZ rA rB rC rD rE rF rG rH rI rJ rK jI lP lS lT lU lO lV lW kX kY kZ lA lB lC lE lG lH lI lJ lK lN lX lY mO mP mQ mR mS mA mB mD mE mF mG mH mI mJ mK mL mM mN mT : Value) (v' vf' vc' : Value) (w' : World), MD w w' DB RB MB FB nb nb (some ⟨ba, oa, none⟩) n cap v' vf' vc' olf flf clf → Q .normal ⟨#[u0, .pointer (some ⟨DB, 0, none⟩), .pointer (some ⟨RB, 0, none⟩), .pointer (some ⟨MB, 0, none⟩), v', .int .i64 (i : Int), .pointer (some ⟨FB, 0, none⟩), s7, u8, u9, gI, kI, gJ, jY, eG, eH, u16, eE, eF, dX, dY, dZ, eA, eB, eC, eD, tS, tR, tT, tU, tV, tW, s32, tX, tY, rX, rY, rZ, sA, sB, sD, sE, sF, sG, sH, sI, tB, tC, tD, tE, tF, tG, tH, tI, tJ, tK, tL, sJ, sK, sL, sM, sN, sO, sP, sQ, sR, sS, sT, oD, rL, rM, rN, rO, rP, rQ, rR, rS, rT, rU, rV, rW, sU, sV, sW, sX, sY, sZ, tA, qZ, rA, rB, rC, rD, rE, rF, rG, rH, rI, rJ, rK, jI, lP, lS, lT, lU, lO, lV, lW, kX, kY, kZ, lA, lB, lC, lE, lG, lH, lI, lJ, lK, lN, lX, lY, mO, mP, mQ, mR, mS, mA, mB, mD, mE, mF, mG, mH, mI, mJ, mK, mL, mM, mN, mT, bR], []⟩ w') :
  Code.wp Try.prog (headC code11d) (Exit.then K (Exit.then K2 Q)) ⟨#[u0, .pointer (some ⟨DB, 0, none⟩), .pointer (some ⟨RB, 0, none⟩), .pointer (some ⟨MB, 0, none⟩), vo, .int .i64 (i : Int), .pointer (some ⟨FB, 0, none⟩), u7, u8, u9, gI, kI, gJ, jY, eG, eH, u16, eE, eF, dX, dY, dZ, eA, eB, eC, eD, eI, eJ, eK, eL, eM, eN, u32, eO, eP, iN, iO, iP, iQ, iR, fK, iS, iT, iU, iV, iW, iX, gK, gL, gM, gN, gO, gP, gQ, gR, gS, gT, iY, iZ, jA, jB, jC, jD, jE, u64, jF, jG, jH, jJ, jK, jL, jM, jN, jO, jP, jQ, jR, jZ, kE, kF, kG, kH, jS, jT, jU, jV, jW, jX, kJ, kK, kM, kN, kO, kP, kQ, kR, kS, kT, kU, kV, aK, aG, aA, aB, aC, aD, aE, aF, aH, aI, aJ, aL, bC, bD, bE, bF, bG, bH, bI, bJ, bK, bL, aR, aM, aN, aO, aP, aQ, aS, aT, aU, aV, aW, aX, aY, aZ, bA, bM, bN, bP, bQ, bS, bR], []⟩ W := by
 obtain ⟨AF, cf, hvf, hf1, hf2⟩ := hM.fs.isSlice
 obtain ⟨fn, hfn⟩ : ∃ fn, fl.length = fn := ⟨_, rfl⟩
 rw [hfn] at hvf hf1 hfl20
 have HM := hide hM
 have hF0 : FX w W FB U c { g with pos := bitsS (fl.take 0) g.kind g.report } := by
  have e : ({ g with pos := bitsS (fl.take 0) g.kind g.report } : Fd) = g := by
   rw [List.take_zero, show bitsS [] g.kind g.report = g.pos from hg0.symm ▸ rfl]
  rw [e]
  exact hF
 have HF := hide hF0
 have HQ := hide hQ
 have He := hide he
 have Hef := hide hef
 have Hdd := hide hdd
 have Hfn := hide hfn
 have Hsm := hide hsm
 clear hM hF hF0 hQ he hef hdd hfn hsm hg0
 conv => arg 2; whnf
 conv at hK => enter [a, w', 1, 2]; whnf
 conv at hK2 => enter [a, w', 1, 2]; whnf
 go_wp2_with fail
 go_loopg [7] fn (fun g' s7 wr => ∃ k : Nat, k + g' = fn ∧ s7 = .int .i64 (k : Int) ∧ MD w wr DB RB MB FB nb nm (some ⟨ba, oa, none⟩) n cap vo vf vc ol fl clf ∧ FX w wr FB U c { g with pos := bitsS (fl.take k) g.kind g.report })
 case atStart => exact ⟨0, by omega, rfl, HM.out, HF.out⟩
 case round =>
  clear HM HF
  obtain ⟨k, hk, rfl, hM, hF⟩ := hrel
  have Hk := hide hk
  clear hk
  have m0 : wr.cell? ⟨MB, 0, none⟩ = some (.slice AF fn cf) := by rw [← hvf]; exact cell_heap hM.bm (o := 0) rfl
  have lM := heap_lt hM.bm
  have lF := heap_lt hF.box
  have hwk : IntKind.i64.wrap ((k : Int) + 1) = ((k + 1 : Nat) : Int) := by rw [IntKind.wrap_i64]; have := Hk.out; omega
  by_cases hlt : k < fn
  case pos =>
   have hM2 := hM.fs
   rw [hvf] at hM2
   obtain ⟨fk, b, off, cs, hfk, hAb, hbb, ⟨A9, c9, rfl, hul, hcl, _⟩, hcs⟩ := hM2.sl.at (show k < fl.length by rw [Hfn.out]; exact hlt)
   subst hAb
   have hcs' : ∀ (o : Nat) v, (fk.cellsC A9 c9)[o]? = some v → wr.cell? ⟨b, off + k * 13 + o, none⟩ = some v := fun o v h => hcs o v h
   have x0 : wr.cell? ⟨b, off + k * 13, none⟩ = some (.int .u8 fk.kind) := hcs' 0 _ rfl
   have x1 : wr.cell? ⟨b, off + k * 13 + 1, none⟩ = some (.int .u8 fk.report) := hcs' 1 _ rfl
   have x6 : wr.cell? ⟨b, off + k * 13 + 6, none⟩ = some (.int .i64 fk.size) := hcs' 6 _ rfl
   have x7 : wr.cell? ⟨b, off + k * 13 + 7, none⟩ = some (.int .i64 fk.count) := hcs' 7 _ rfl
   have y0 : wr.cell? ⟨FB, 0, none⟩ = some (.int .u8 g.kind) := cell_heap hF.box (o := 0) rfl
   have y1 : wr.cell? ⟨FB, 1, none⟩ = some (.int .u8 g.report) := cell_heap hF.box (o := 1) rfl
   have hbl : b < wr.heap.size := hbb
   have hbF : ¬ b = FB := fun e => by have h9 := hM.nf; rw [hvf] at h9; exact h9 (by rw [e]; rfl)
   have hMF : ¬ MB = FB := fun e => by have h1 := hM.bm; rw [e, hF.box] at h1; injection h1 with h1; injection h1 with _ h2 _; exact absurd h2 (by decide)
   have hsn : fl.take (k + 1) = fl.take k ++ [fk] := by
    obtain ⟨h1, h2⟩ := List.getElem?_eq_some_iff.1 hfk
    rw [List.take_succ_eq_append_getElem h1, h2]
   have hbd := bits_le108 (fun f hf => Hsm.out f (List.mem_of_mem_take hf)) g.kind g.report (l := fl.take k)
   have hbd0 := bits_ge0 (fun f hf => (Hsm.out f (List.mem_of_mem_take hf)).1) g.kind g.report (l := fl.take k)
   have hlm : ((fl.take k).length : Int) ≤ 20 := by have := List.length_take_le k fl; have := Hk.out; omega
   obtain ⟨a1, a2⟩ := Hsm.out fk (List.mem_of_getElem? hfk)
   obtain ⟨PB, hPB⟩ : ∃ B, bitsS (fl.take k) g.kind g.report = B := ⟨_, rfl⟩
   rw [hPB] at hF hbd hbd0
   have hb2 : PB ≤ 2160 := by omega
   have hw1 : IntKind.i64.wrap (fk.size * fk.count) = fk.size * fk.count := by rw [IntKind.wrap_i64]; omega
   have hw2 : IntKind.i64.wrap (PB + fk.size * fk.count) = PB + fk.size * fk.count := by rw [IntKind.wrap_i64]; omega
   have hi0 : (0 : Int) ≤ (k : Int) := by omega
   have hlt' : (k : Int) < (fn : Int) := by omega
   have hltd : decide ((k : Int) < (fn : Int)) = true := decide_eq_true hlt'
   have HFX := hide hF
   have HMX := hide hM
   clear hM2 hcs hcs' hfk hbd hbd0 hF hM hlm hlt hbb
   by_cases c1 : fk.kind = g.kind
   case pos =>
    by_cases c2 : fk.report = g.report
    case pos =>
     have t1 : (fk.kind == g.kind) = true := by rw [beq_iff_eq]; exact c1
     have t2 : (fk.report == g.report) = true := by rw [beq_iff_eq]; exact c2
     have hbs : bitsS (fl.take (k + 1)) g.kind g.report = PB + fk.size * fk.count := by
      rw [hsn, bitsS_snoc, hPB, t1, t2]; simp
     have Hbs := hide hbs
     clear hbs hsn hPB c1 c2
     go_upto_region 14 with (fail)
     go_quiet (fail)
     go_upto_region 15 with (fail)
     refine wp_at (fun W6 => Kept wr W6) (by first | exact Below.refl _ _ | exact below_drewN (Below.refl _ _) _ | go_grown) (fun W6 hk6 => ?_)
     have hF6 := HFX.out.keep hk6
     have hM6 := HMX.out.keep hk6
     have lF6 := heap_lt hF6.box
     have lM6 := heap_lt hM6.bm
     have y8 : W6.cell? ⟨FB, 8, none⟩ = some (.int .i64 PB) := cell_heap hF6.box (o := 8) rfl
     have fy8 := frozen_heap hF6.box (o := 8)
     obtain ⟨hc6, hf6⟩ := bcell hk6
     have hz6 := hk6.size
     refine wp_region_noPanic ?_
     refine wp_region_held_named (ops' := ops15d) (n := 18) (S := fun w' => (∀ b o, b < wr.heap.size → ¬ b = FB → w'.cell? ⟨b, o, none⟩ = wr.cell? ⟨b, o, none⟩) ∧ True) (by kernel_rfl) (by kernel_rfl) (by kernel_rfl) ⟨fun b o hb _ => hc6 b o hb, trivial⟩ (fun hS => ?_)
     have ho := opE ops15d 0 (by kernel_rfl)
     conv at ho => rhs; arg 1; whnf
     refine tk0 (v := ?_) ho (by kernel_rfl) hS ?_ ?_ <;> clear ho
     rotate_left
     ·intro w' hq hq2; first | (go_simp; done) | (go_simp; with_reducible rfl)
     try simp only [Act.put, zp1, zp2, zp3, zp4, zp5, zp6]
     have ho := opE ops15d 2 (by kernel_rfl)
     conv at ho => rhs; arg 1; whnf
     refine tk0 (v := ?_) ho (by kernel_rfl) hS ?_ ?_ <;> clear ho
     rotate_left
     ·intro w' hq hq2; first | (go_simp; done) | (go_simp; with_reducible rfl)
     try simp only [Act.put, zp1, zp2, zp3, zp4, zp5, zp6]
     have ho := opE ops15d 3 (by kernel_rfl)
     conv at ho => rhs; arg 1; whnf
     refine tk0 (v := ?_) ho (by kernel_rfl) hS ?_ ?_ <;> clear ho
     rotate_left
     ·intro w' hq hq2; first | (go_simp; done) | (go_simp; with_reducible rfl)
     try simp only [Act.put, zp1, zp2, zp3, zp4, zp5, zp6]
     have ho := opE ops15d 4 (by kernel_rfl)
     conv at ho => rhs; arg 1; whnf
     refine tk0 (v := ?_) ho (by kernel_rfl) hS ?_ ?_ <;> clear ho
     rotate_left
     ·intro w' hq hq2; first | (go_simp; done) | (go_simp; with_reducible rfl)
     try simp only [Act.put, zp1, zp2, zp3, zp4, zp5, zp6]
     have ho := opE ops15d 5 (by kernel_rfl)
     conv at ho => rhs; arg 1; whnf
     refine tk0 (v := ?_) ho (by kernel_rfl) hS ?_ ?_ <;> clear ho
     rotate_left
     ·intro w' hq hq2; first | (go_simp; done) | (go_simp; with_reducible rfl)
     try simp only [Act.put, zp1, zp2, zp3, zp4, zp5, zp6]
     have ho := opE ops15d 6 (by kernel_rfl)
     conv at ho => rhs; arg 1; whnf
     refine tk0 (v := ?_) ho (by kernel_rfl) hS ?_ ?_ <;> clear ho
     rotate_left
     ·intro w' hq hq2; first | (go_simp; done) | (go_simp; with_reducible rfl)
     try simp only [Act.put, zp1, zp2, zp3, zp4, zp5, zp6]
     have ho := opE ops15d 7 (by kernel_rfl)
     conv at ho => rhs; arg 1; whnf
     refine tk0 (v := ?_) ho (by kernel_rfl) hS ?_ ?_ <;> clear ho
     rotate_left
     ·intro w' hq hq2; first | (go_simp; done) | (go_simp; with_reducible rfl)
     try simp only [Act.put, zp1, zp2, zp3, zp4, zp5, zp6]
     have ho := opE ops15d 8 (by kernel_rfl)
     conv at ho => rhs; arg 1; whnf
     refine tk0 (v := ?_) ho (by kernel_rfl) hS ?_ ?_ <;> clear ho
     rotate_left
     ·intro w' hq hq2; first | (go_simp; done) | (go_simp; with_reducible rfl)
     try simp only [Act.put, zp1, zp2, zp3, zp4, zp5, zp6]
     have ho := opE ops15d 9 (by kernel_rfl)
     conv at ho => rhs; arg 1; whnf
     refine tk0 (v := ?_) ho (by kernel_rfl) hS ?_ ?_ <;> clear ho
     rotate_left
     ·intro w' hq hq2; first | (go_simp; done) | (go_simp; with_reducible rfl)
     try simp only [Act.put, zp1, zp2, zp3, zp4, zp5, zp6]
     have ho := opE ops15d 10 (by kernel_rfl)
     conv at ho => rhs; arg 1; whnf
     refine tk0 (v := ?_) ho (by kernel_rfl) hS ?_ ?_ <;> clear ho
     rotate_left
     ·intro w' hq hq2; first | (go_simp; done) | (go_simp; with_reducible rfl)
     try simp only [Act.put, zp1, zp2, zp3, zp4, zp5, zp6]
     have ho := opE ops15d 11 (by kernel_rfl)
     conv at ho => rhs; arg 1; whnf
     refine tk0 (v := ?_) ho (by kernel_rfl) hS ?_ ?_ <;> clear ho
     rotate_left
     ·intro w' hq hq2; first | (go_simp; done) | (go_simp; with_reducible rfl)
     try simp only [Act.put, zp1, zp2, zp3, zp4, zp5, zp6]
     have ho := opE ops15d 12 (by kernel_rfl)
     conv at ho => rhs; arg 1; whnf
     refine tk0 (v := ?_) ho (by kernel_rfl) hS ?_ ?_ <;> clear ho
     rotate_left
     ·intro w' hq hq2; first | (go_simp; done) | (go_simp; with_reducible rfl)
     try simp only [Act.put, zp1, zp2, zp3, zp4, zp5, zp6]
     have ho := opE ops15d 13 (by kernel_rfl)
     conv at ho => rhs; arg 1; whnf
     refine tk0 (v := ?_) ho (by kernel_rfl) hS ?_ ?_ <;> clear ho
     rotate_left
     ·intro w' hq hq2; first | (go_simp; done) | (go_simp; with_reducible rfl)
     try simp only [Act.put, zp1, zp2, zp3, zp4, zp5, zp6]
     have ho := opE ops15d 14 (by kernel_rfl)
     conv at ho => rhs; arg 1; whnf
     refine tk0 (v := ?_) ho (by kernel_rfl) hS ?_ ?_ <;> clear ho
     rotate_left
     ·intro w' hq hq2; first | (go_simp; done) | (go_simp; with_reducible rfl)
     try simp only [Act.put, zp1, zp2, zp3, zp4, zp5, zp6]
     have ho1 := opE ops15d 1 (by kernel_rfl)
     conv at ho1 => rhs; arg 1; whnf
     refine wpAnyH_ready (rs := [1]) (by kernel_rfl) (by simp) ?_
     refine (AllReadyH.cons ho1 (fun K hK => ?_) AllReadyH.nil)
     all_goals clear ho1
     go_simp
     try dsimp only
     refine hK.out _ _ ?_ (fun hS => ?_)
     ·exact hS
     clear hK K
     try simp only [Act.put, zp1, zp2, zp3, zp4, zp5, zp6]
     have ho := opE ops15d 15 (by kernel_rfl)
     conv at ho => rhs; arg 1; whnf
     refine tk0 (v := ?_) ho (by kernel_rfl) hS ?_ ?_ <;> clear ho
     rotate_left
     ·intro w' hq hq2; first | (go_simp; done) | (go_simp; with_reducible rfl)
     try simp only [Act.put, zp1, zp2, zp3, zp4, zp5, zp6]
     have ho := opE ops15d 16 (by kernel_rfl)
     conv at ho => rhs; arg 1; whnf
     refine tk0 (v := ?_) ho (by kernel_rfl) hS ?_ ?_ <;> clear ho
     rotate_left
     ·intro w' hq hq2; first | (go_simp; done) | (go_simp; with_reducible rfl)
     try simp only [Act.put, zp1, zp2, zp3, zp4, zp5, zp6]
     have ho17 := opE ops15d 17 (by kernel_rfl)
     conv at ho17 => rhs; arg 1; whnf
     refine wpAnyH_ready (rs := [17]) (by kernel_rfl) (by simp) ?_
     refine (AllReadyH.cons ho17 (fun K hK => ?_) AllReadyH.nil)
     all_goals clear ho17
     go_simp
     try dsimp only
     refine hK.out _ _ ?_ (fun hS => ?_)
     ·exact ⟨fun b o hb hne => (World.cell?_setCell_other _ _ _ _ (fun e => hne (congrArg Addr.block e).symm)).trans (hS.1 b o hb hne), trivial⟩
     clear hK K
     try simp only [Act.put, zp1, zp2, zp3, zp4, zp5, zp6]
     refine wpAnyH_done (by kernel_rfl) ?_ _
     have HM9 := hide ((hM6.keep ((Below.refl _ _).drew)).box (hF6.keep ((Below.refl _ _).drew)) 8 (.int .i64 (PB + fk.size * fk.count)))
     have HF9 := hide ((hF6.keep ((Below.refl _ _).drew)).set 8 (.int .i64 (PB + fk.size * fk.count)) (g' := { g with pos := PB + fk.size * fk.count }) rfl rfl)
     clear hS hc6 hf6 hF6 hM6 y8 fy8
     unfold NoPanic
     go_wp2_with fail
     go_roundg (gk - 1)
     case measure => have := Hk.out; omega
     case rel => exact ⟨k + 1, by have := Hk.out; omega, by first | rfl | go_num | (rw [hwk]), HM9.out, by rw [Hbs.out]; exact HF9.out⟩
    case neg =>
     have t1 : (fk.kind == g.kind) = true := by rw [beq_iff_eq]; exact c1
     have t2 : (fk.report == g.report) = false := beq_false_of_ne c2
     have hbs : bitsS (fl.take (k + 1)) g.kind g.report = PB := by
      rw [hsn, bitsS_snoc, hPB, t1, t2]; simp
     have Hbs := hide hbs
     clear hbs hsn hPB c1 c2
     go_upto_region 14 with (fail)
     go_quiet (fail)
     go_wp2_with fail
     go_roundg (gk - 1)
     case measure => have := Hk.out; omega
     case rel => exact ⟨k + 1, by have := Hk.out; omega, by first | rfl | go_num | (rw [hwk]), HMX.out.keep (by first | exact Below.refl _ _ | exact below_drewN (Below.refl _ _) _ | go_grown), by rw [Hbs.out]; exact HFX.out.keep (by first | exact Below.refl _ _ | exact below_drewN (Below.refl _ _) _ | go_grown)⟩
   case neg =>
    have t1 : (fk.kind == g.kind) = false := beq_false_of_ne c1
    have hbs : bitsS (fl.take (k + 1)) g.kind g.report = PB := by
     rw [hsn, bitsS_snoc, hPB, t1]; simp
    have Hbs := hide hbs
    clear hbs hsn hPB c1
    go_upto_region 14 with (fail)
    go_quiet (fail)
    go_wp2_with fail
    go_roundg (gk - 1)
    case measure => have := Hk.out; omega
    case rel => exact ⟨k + 1, by have := Hk.out; omega, by first | rfl | go_num | (rw [hwk]), HMX.out.keep (by first | exact Below.refl _ _ | exact below_drewN (Below.refl _ _) _ | go_grown), by rw [Hbs.out]; exact HFX.out.keep (by first | exact Below.refl _ _ | exact below_drewN (Below.refl _ _) _ | go_grown)⟩
  case neg =>
   have hkn : k = fn := by have := Hk.out; omega
   have hltd : decide ((k : Int) < (fn : Int)) = false := decide_eq_false (by omega)
   have e9 : fl.take k = fl := by rw [hkn, ← Hfn.out, List.take_length]
   rw [e9] at hF
   have HFX := hide hF
   have HMX := hide hM
   clear hF hM hkn e9
   go_upto_region 16 with fail
   refine q16 (cl := clf) HMX.out HFX.out h7 hba hin hfl Hdd.out hd5 (by rw [Hfn.out]; exact hfl20) He.out Hef.out _ _ ?_ HQ.out <;> assumption
noncomputable def code10d : Code := (Try.f19.body.bind (findQ 10)).getD .skip
set_option maxRecDepth 1000000 in
theorem q10 {w W : World} {DB RB MB FB ba oa n cap i : Nat} {nb nm : Bool} {vo vf vc : Value} {ol olf : List Int} {fl flf : List Fd} {cl clf : List Co} {f : PF} {dd c : Nat} {p : Int} {U : Option Addr} {g : Fd} (hM : MD w W DB RB MB FB nb nm (some ⟨ba, oa, none⟩) n cap vo vf vc ol fl clf) (hF : FX w W FB U c g) (h7 : w.cell? ⟨ba, oa + i * 8 + 7, none⟩ = some (.int .u8 f.flags)) (hba : ba < w.heap.size) (hin : (i : Int) < (n : Int)) (hfl : u8k f.flags) (hdd : ol.length = dd) (hd5 : dd ≤ 6) (hd1 : 1 ≤ dd) (hp : ol[dd - 1]? = some p) (hfl20 : fl.length ≤ 20) (he : (if endsB f dd then ol.take (dd - 1) else ol) = olf) (hsm : ∀ f ∈ fl, 0 ≤ f.size * f.count ∧ f.size * f.count ≤ 108) (hg0 : g.pos = 0) (hef : fl ++ [{ g with parent := p, pos := bitsS fl g.kind g.report }] = flf)
  (Q : Exit → Act → World → Prop) (K : Act → World → Prop) (hK : ∀ a w', Code.wp Try.prog (restC code10d) Q a w' → K a w') (hQ : ∀ (s7 tS tR tT tU tV tW s32 tX tY rX rY rZ sA sB sD sE sF sG sH sI tB tC tD tE tF tG tH tI tJ tK tL sJ sK sL sM sN sO sP sQ sR sS sT oD rL rM rN rO rP rQ rR rS rT rU rV rW sU sV sW sX sY sZ tA qZ rA rB rC rD rE rF rG rH rI rJ rK jI lP lS lT lU lO lV lW kX kY kZ lA lB lC lE lG lH lI lJ lK lN lX lY mO mP mQ mR mS mA mB mD mE mF mG mH mI mJ mK mL mM mN mT : Value) (v' vf' vc' : Value) (w' : World), MD w w' DB RB MB FB nb nb (some ⟨ba, oa, none⟩) n cap v' vf' vc' olf flf clf → Q .normal ⟨#[u0, .pointer (some ⟨DB, 0, none⟩), .pointer (some ⟨RB, 0, none⟩), .pointer (some ⟨MB, 0, none⟩), v', .int .i64 (i : Int), .pointer (some ⟨FB, 0, none⟩), s7, u8, u9, gI, kI, gJ, jY, eG, eH, u16, eE, eF, dX, dY, dZ, eA, eB, eC, eD, tS, tR, tT, tU, tV, tW, s32, tX, tY, rX, rY, rZ, sA, sB, sD, sE, sF, sG, sH, sI, tB, tC, tD, tE, tF, tG, tH, tI, tJ, tK, tL, sJ, sK, sL, sM, sN, sO, sP, sQ, sR, sS, sT, oD, rL, rM, rN, rO, rP, rQ, rR, rS, rT, rU, rV, rW, sU, sV, sW, sX, sY, sZ, tA, qZ, rA, rB, rC, rD, rE, rF, rG, rH, rI, rJ, rK, jI, lP, lS, lT, lU, lO, lV, lW, kX, kY, kZ, lA, lB, lC, lE, lG, lH, lI, lJ, lK, lN, lX, lY, mO, mP, mQ, mR, mS, mA, mB, mD, mE, mF, mG, mH, mI, mJ, mK, mL, mM, mN, mT, bR], []⟩ w') :
  Code.wp Try.prog (headC code10d) (Exit.then K Q) ⟨#[u0, .pointer (some ⟨DB, 0, none⟩), .pointer (some ⟨RB, 0, none⟩), .pointer (some ⟨MB, 0, none⟩), vo, .int .i64 (i : Int), .pointer (some ⟨FB, 0, none⟩), u7, u8, u9, gI, kI, gJ, jY, eG, eH, u16, eE, eF, dX, dY, dZ, eA, eB, eC, eD, eI, eJ, eK, eL, eM, eN, u32, eO, eP, iN, iO, iP, iQ, iR, fK, iS, iT, iU, iV, iW, iX, gK, gL, gM, gN, gO, gP, gQ, gR, gS, gT, iY, iZ, jA, jB, jC, jD, jE, u64, jF, jG, jH, jJ, jK, jL, jM, jN, jO, jP, jQ, jR, jZ, kE, kF, kG, kH, jS, jT, jU, jV, jW, jX, kJ, kK, kM, kN, kO, kP, kQ, kR, kS, kT, kU, kV, aK, aG, aA, aB, aC, aD, aE, aF, aH, aI, aJ, aL, bC, bD, bE, bF, bG, bH, bI, bJ, bK, bL, aR, aM, aN, aO, aP, aQ, aS, aT, aU, aV, aW, aX, aY, aZ, bA, bM, bN, bP, bQ, bS, bR], []⟩ W := by
 obtain ⟨k, rfl⟩ : ∃ k, dd = k + 1 := ⟨dd - 1, by omega⟩
 have hop := hM.op
 rw [hdd] at hop
 obtain ⟨gg, co, ccur, rfl, hgh, hc1, hc2⟩ := own_block34 hop (by omega)
 have e := own_cells34 (j := k) (cs := [.int .i64 p]) hop (by simpa using hp) (fun F c hr => hr.1) 0 _ rfl
 have e' : W.cell? ⟨gg, k, none⟩ = some (.int .i64 p) := by simpa [i64D, Ty.flat] using e
 have lg := heap_lt hgh
 have y2 : W.cell? ⟨FB, 2, none⟩ = some (.int .i64 g.parent) := cell_heap hF.box (o := 2) rfl
 have fy2 := frozen_heap hF.box (o := 2)
 have lF := heap_lt hF.box
 have hw1 : IntKind.i64.wrap (((k + 1 : Nat) : Int) - 1) = (k : Int) := by rw [IntKind.wrap_i64]; omega
 have hw2 : IntKind.i64.wrap ((k : Int) + 1 - 1) = (k : Int) := by rw [IntKind.wrap_i64]; omega
 have hw0 : IntKind.i64.wrap (k : Int) = (k : Int) := by rw [IntKind.wrap_i64]; omega
 have hk0 : (0 : Int) ≤ (k : Int) := by omega
 have hk1 : (k : Int) < ((k + 1 : Nat) : Int) := by omega
 have hk2 : (k : Int) < (k : Int) + 1 := by omega
 have hk3 : k < k + 1 := by omega
 have HM := hide (hM.box hF 2 (.int .i64 p))
 have HF := hide (hF.set 2 (.int .i64 p) (g' := { g with parent := p }) rfl rfl)
 have HQ := hide hQ
 have He := hide he
 have Hef := hide hef
 have Hdd := hide hdd
 have Hsm := hide hsm
 clear hM hF hQ he hef hdd hsm hop e hgh hp
 conv => arg 2; whnf
 conv at hK => enter [a, w', 1, 2]; whnf
 go_upto_region 11 with fail
 refine q11 (cl := clf) HM.out HF.out h7 hba hin hfl Hdd.out hd5 hfl20 He.out Hsm.out hg0 Hef.out _ _ _ ?_ ?_ HQ.out <;> assumption
end Go.Proofs.Ytegdigfcgeoboaa
