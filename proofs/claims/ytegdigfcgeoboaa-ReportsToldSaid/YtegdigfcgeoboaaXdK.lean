/- The law's map of plain data: where the field lies. Printed by gen_xm.py. -/
import Derived.Test.YtegdigfcgeoboaaChecked
import Derived.Deep.RegionHeld3
import Derived.Deep.DrawnRows
import Derived.Deep.DeepCutAuto
import Derived.Deep.LoopGhost
import Derived.Outline
import Derived.Handy
import Derived.OwnWalk
import Derived.BigQuiet
import Derived.Deep.DeepMust
import Derived.Test.YtegdigfcgeoboaaN35
import Derived.Test.YtegdigfcgeoboaaN2
import Derived.Test.YtegdigfcgeoboaaN11
set_option linter.unusedVariables false
set_option linter.unusedSimpArgs false
set_option linter.unusedSectionVars false
namespace Go.Proofs.Ytegdigfcgeoboaa
open Go.RowKit Go.Maps
attribute [local go_sem ↓] Go.wp_at_zero Go.wp_at_succ

theorem bits_ge0 : ∀ {l : List Fd}, (∀ f ∈ l, 0 ≤ f.size * f.count) → ∀ k r, 0 ≤ bitsS l k r
  | [], _, _, _ => Int.le_refl 0
  | g :: l, h, k, r => by
    have h1 := bits_ge0 (fun g hg => h g (List.mem_cons_of_mem _ hg)) k r
    have h2 := h g List.mem_cons_self
    unfold bitsS at h1 ⊢
    rw [List.filter_cons]
    split
    · simp only [List.map_cons, List.sum_cons]; omega
    · exact h1
noncomputable def ops15d : Array Oper := opsOf ((Try.f19.body.bind (findQ 15)).getD .skip)
noncomputable def code11d : Code := (Try.f19.body.bind (findQ 11)).getD .skip
noncomputable def after11d : Code := (Try.f19.body.bind (afterQ 11)).getD .skip
set_option maxRecDepth 1000000 in
set_option maxHeartbeats 16000000 in
theorem q11 {u0 u7 u8 u9 u10 u11 u12 u13 u14 u15 u16 u17 u18 u19 u20 u21 u22 u23 u24 u25 u26 u27 u28 u29 u30 u31 u32 u33 u34 u35 u36 u37 u38 u39 u40 u41 u42 u43 u44 u45 u46 u47 u48 u49 u50 u51 u52 u53 u54 u55 u56 u57 u58 u59 u60 u61 u62 u63 u64 u65 u66 u67 u68 u69 u70 u71 u72 u73 u74 u75 u76 u77 u78 u79 u80 u81 u82 u83 u84 u85 u86 u87 u88 u89 u90 u91 u92 u93 u94 u95 u96 u97 u98 u99 u100 u101 u102 u103 u104 u105 u106 u107 u108 u109 u110 u111 u112 u113 u114 u115 u116 u117 u118 u119 u120 u121 u122 u123 u124 u125 u126 u127 u128 u129 u130 u131 u132 u133 u134 u135 u136 u137 u138 u139 u140 u141 u142 : Value} {w W : World} {DB RB MB FB ba oa n cap i : Nat} {nb nm : Bool} {vo vf vc : Value} {ol olf : List Int} {fl flf : List Fd} {cl clf : List Co} {f : PF} {dd c : Nat} {U : Option Addr} {g : Fd} (hM : MD w W DB RB MB FB nb nm (some ⟨ba, oa, none⟩) n cap vo vf vc ol fl clf) (hF : FX w W FB U c g) (h7 : w.cell? ⟨ba, oa + i * 8 + 7, none⟩ = some (.int .u8 f.flags)) (hba : ba < w.heap.size) (hin : (i : Int) < (n : Int)) (hfl : u8k f.flags) (hdd : ol.length = dd) (hd5 : dd ≤ 6) (hfl20 : fl.length ≤ 20) (he : (if endsB f dd then ol.take (dd - 1) else ol) = olf) (hsm : ∀ f ∈ fl, 0 ≤ f.size * f.count ∧ f.size * f.count ≤ 108) (hg0 : g.pos = 0) (hef : fl ++ [{ g with pos := bitsS fl g.kind g.report }] = flf)
    (Q : Exit → Act → World → Prop) (K K2 : Act → World → Prop) (hK : ∀ a w', Code.wp Try.prog (restC code11d) (Exit.then K2 Q) a w' → K a w') (hK2 : ∀ a w', Code.wp Try.prog after11d Q a w' → K2 a w') (hQ : ∀ (s7 s26 s27 s28 s29 s30 s31 s32 s33 s34 s35 s36 s37 s38 s39 s40 s41 s42 s43 s44 s45 s46 s47 s48 s49 s50 s51 s52 s53 s54 s55 s56 s57 s58 s59 s60 s61 s62 s63 s64 s65 s66 s67 s68 s69 s70 s71 s72 s73 s74 s75 s76 s77 s78 s79 s80 s81 s82 s83 s84 s85 s86 s87 s88 s89 s90 s91 s92 s93 s94 s95 s96 s97 s98 s99 s100 s101 s102 s103 s104 s105 s106 s107 s108 s109 s110 s111 s112 s113 s114 s115 s116 s117 s118 s119 s120 s121 s122 s123 s124 s125 s126 s127 s128 s129 s130 s131 s132 s133 s134 s135 s136 s137 s138 s139 s140 s141 : Value) (v' vf' vc' : Value) (w' : World), MD w w' DB RB MB FB nb nb (some ⟨ba, oa, none⟩) n cap v' vf' vc' olf flf clf → Q .normal ⟨#[u0, .pointer (some ⟨DB, 0, none⟩), .pointer (some ⟨RB, 0, none⟩), .pointer (some ⟨MB, 0, none⟩), v', .int .i64 (i : Int), .pointer (some ⟨FB, 0, none⟩), s7, u8, u9, u10, u11, u12, u13, u14, u15, u16, u17, u18, u19, u20, u21, u22, u23, u24, u25, s26, s27, s28, s29, s30, s31, s32, s33, s34, s35, s36, s37, s38, s39, s40, s41, s42, s43, s44, s45, s46, s47, s48, s49, s50, s51, s52, s53, s54, s55, s56, s57, s58, s59, s60, s61, s62, s63, s64, s65, s66, s67, s68, s69, s70, s71, s72, s73, s74, s75, s76, s77, s78, s79, s80, s81, s82, s83, s84, s85, s86, s87, s88, s89, s90, s91, s92, s93, s94, s95, s96, s97, s98, s99, s100, s101, s102, s103, s104, s105, s106, s107, s108, s109, s110, s111, s112, s113, s114, s115, s116, s117, s118, s119, s120, s121, s122, s123, s124, s125, s126, s127, s128, s129, s130, s131, s132, s133, s134, s135, s136, s137, s138, s139, s140, s141, u142], []⟩ w') :
    Code.wp Try.prog (headC code11d) (Exit.then K (Exit.then K2 Q)) ⟨#[u0, .pointer (some ⟨DB, 0, none⟩), .pointer (some ⟨RB, 0, none⟩), .pointer (some ⟨MB, 0, none⟩), vo, .int .i64 (i : Int), .pointer (some ⟨FB, 0, none⟩), u7, u8, u9, u10, u11, u12, u13, u14, u15, u16, u17, u18, u19, u20, u21, u22, u23, u24, u25, u26, u27, u28, u29, u30, u31, u32, u33, u34, u35, u36, u37, u38, u39, u40, u41, u42, u43, u44, u45, u46, u47, u48, u49, u50, u51, u52, u53, u54, u55, u56, u57, u58, u59, u60, u61, u62, u63, u64, u65, u66, u67, u68, u69, u70, u71, u72, u73, u74, u75, u76, u77, u78, u79, u80, u81, u82, u83, u84, u85, u86, u87, u88, u89, u90, u91, u92, u93, u94, u95, u96, u97, u98, u99, u100, u101, u102, u103, u104, u105, u106, u107, u108, u109, u110, u111, u112, u113, u114, u115, u116, u117, u118, u119, u120, u121, u122, u123, u124, u125, u126, u127, u128, u129, u130, u131, u132, u133, u134, u135, u136, u137, u138, u139, u140, u141, u142], []⟩ W := by
  obtain ⟨AF, cf, hvf, hf1, hf2⟩ := hM.fs.isSlice
  obtain ⟨fn, hfn⟩ : ∃ fn, fl.length = fn := ⟨_, rfl⟩
  rw [hfn] at hvf hf1 hfl20
  have HM := hide hM
  have hF0 : FX w W FB U c { g with pos := bitsS (fl.take 0) g.kind g.report } := by
    have e : ({ g with pos := bitsS (fl.take 0) g.kind g.report } : Fd) = g := by
      rw [List.take_zero, show bitsS [] g.kind g.report = g.pos from hg0.symm ▸ rfl]
    rw [e]
    exact hF
  have HF := hide hF0
  have HQ := hide hQ
  have He := hide he
  have Hef := hide hef
  have Hdd := hide hdd
  have Hfn := hide hfn
  have Hsm := hide hsm
  clear hM hF hF0 hQ he hef hdd hfn hsm hg0
  conv => arg 2; whnf
  conv at hK => enter [a, w', 1, 2]; whnf
  conv at hK2 => enter [a, w', 1, 2]; whnf
  go_wp2_with fail
  go_loopg [7] fn (fun g' s7 wr => ∃ k : Nat, k + g' = fn ∧ s7 = .int .i64 (k : Int) ∧ MD w wr DB RB MB FB nb nm (some ⟨ba, oa, none⟩) n cap vo vf vc ol fl clf ∧ FX w wr FB U c { g with pos := bitsS (fl.take k) g.kind g.report })
  case atStart => exact ⟨0, by omega, rfl, HM.out, HF.out⟩
  case round =>
    clear HM HF
    obtain ⟨k, hk, rfl, hM, hF⟩ := hrel
    have Hk := hide hk
    clear hk
    have m0 : wr.cell? ⟨MB, 0, none⟩ = some (.slice AF fn cf) := by rw [← hvf]; exact cell_heap hM.bm (o := 0) rfl
    have lM := heap_lt hM.bm
    have lF := heap_lt hF.box
    have hwk : IntKind.i64.wrap ((k : Int) + 1) = ((k + 1 : Nat) : Int) := by rw [IntKind.wrap_i64]; have := Hk.out; omega
    by_cases hlt : k < fn
    case pos =>
      have hM2 := hM.fs
      rw [hvf] at hM2
      obtain ⟨fk, b, off, cs, hfk, hAb, hbb, ⟨A9, c9, rfl, hul, hcl, _⟩, hcs⟩ := hM2.sl.at (show k < fl.length by rw [Hfn.out]; exact hlt)
      subst hAb
      have hcs' : ∀ (o : Nat) v, (fk.cellsC A9 c9)[o]? = some v → wr.cell? ⟨b, off + k * 13 + o, none⟩ = some v := fun o v h => hcs o v h
      have x0 : wr.cell? ⟨b, off + k * 13, none⟩ = some (.int .u8 fk.kind) := hcs' 0 _ rfl
      have x1 : wr.cell? ⟨b, off + k * 13 + 1, none⟩ = some (.int .u8 fk.report) := hcs' 1 _ rfl
      have x6 : wr.cell? ⟨b, off + k * 13 + 6, none⟩ = some (.int .i64 fk.size) := hcs' 6 _ rfl
      have x7 : wr.cell? ⟨b, off + k * 13 + 7, none⟩ = some (.int .i64 fk.count) := hcs' 7 _ rfl
      have y0 : wr.cell? ⟨FB, 0, none⟩ = some (.int .u8 g.kind) := cell_heap hF.box (o := 0) rfl
      have y1 : wr.cell? ⟨FB, 1, none⟩ = some (.int .u8 g.report) := cell_heap hF.box (o := 1) rfl
      have hbl : b < wr.heap.size := hbb
      have hbF : ¬ b = FB := fun e => by have h9 := hM.nf; rw [hvf] at h9; exact h9 (by rw [e]; rfl)
      have hMF : ¬ MB = FB := fun e => by have h1 := hM.bm; rw [e, hF.box] at h1; injection h1 with h1; injection h1 with _ h2 _; exact absurd h2 (by decide)
      have hsn : fl.take (k + 1) = fl.take k ++ [fk] := by
        obtain ⟨h1, h2⟩ := List.getElem?_eq_some_iff.1 hfk
        rw [List.take_succ_eq_append_getElem h1, h2]
      have hbd := bits_le108 (fun f hf => Hsm.out f (List.mem_of_mem_take hf)) g.kind g.report (l := fl.take k)
      have hbd0 := bits_ge0 (fun f hf => (Hsm.out f (List.mem_of_mem_take hf)).1) g.kind g.report (l := fl.take k)
      have hlm : ((fl.take k).length : Int) ≤ 20 := by have := List.length_take_le k fl; have := Hk.out; omega
      obtain ⟨a1, a2⟩ := Hsm.out fk (List.mem_of_getElem? hfk)
      obtain ⟨PB, hPB⟩ : ∃ B, bitsS (fl.take k) g.kind g.report = B := ⟨_, rfl⟩
      rw [hPB] at hF hbd hbd0
      have hb2 : PB ≤ 2160 := by omega
      have hw1 : IntKind.i64.wrap (fk.size * fk.count) = fk.size * fk.count := by rw [IntKind.wrap_i64]; omega
      have hw2 : IntKind.i64.wrap (PB + fk.size * fk.count) = PB + fk.size * fk.count := by rw [IntKind.wrap_i64]; omega
      have hi0 : (0 : Int) ≤ (k : Int) := by omega
      have hlt' : (k : Int) < (fn : Int) := by omega
      have hltd : decide ((k : Int) < (fn : Int)) = true := decide_eq_true hlt'
      have HFX := hide hF
      have HMX := hide hM
      clear hM2 hcs hcs' hfk hbd hbd0 hF hM hlm hlt hbb
      by_cases c1 : fk.kind = g.kind
      case pos =>
        by_cases c2 : fk.report = g.report
        case pos =>
          have t1 : (fk.kind == g.kind) = true := by rw [beq_iff_eq]; exact c1
          have t2 : (fk.report == g.report) = true := by rw [beq_iff_eq]; exact c2
          have hbs : bitsS (fl.take (k + 1)) g.kind g.report = PB + fk.size * fk.count := by
            rw [hsn, bitsS_snoc, hPB, t1, t2]; simp
          have Hbs := hide hbs
          clear hbs hsn hPB c1 c2
          go_upto_region 14 with (fail)
          go_quiet (fail)
          go_upto_region 15 with (fail)
          refine wp_at (fun W6 => Kept wr W6) (by first | exact Below.refl _ _ | exact below_drewN (Below.refl _ _) _ | go_grown) (fun W6 hk6 => ?_)
          have hF6 := HFX.out.keep hk6
          have hM6 := HMX.out.keep hk6
          have lF6 := heap_lt hF6.box
          have lM6 := heap_lt hM6.bm
          have y8 : W6.cell? ⟨FB, 8, none⟩ = some (.int .i64 PB) := cell_heap hF6.box (o := 8) rfl
          have fy8 := frozen_heap hF6.box (o := 8)
          obtain ⟨hc6, hf6⟩ := bcell hk6
          have hz6 := hk6.size
          refine wp_region_noPanic ?_
          refine wp_region_held_named (ops' := ops15d) (n := 18) (S := fun w' => (∀ b o, b < wr.heap.size → ¬ b = FB → w'.cell? ⟨b, o, none⟩ = wr.cell? ⟨b, o, none⟩) ∧ True) (by kernel_rfl) (by kernel_rfl) (by kernel_rfl) ⟨fun b o hb _ => hc6 b o hb, trivial⟩ (fun hS => ?_)
          have ho : ops15d[0]? = some (opAt ops15d 0) := by kernel_rfl
          conv at ho => rhs; arg 1; whnf
          refine wpAnyH_take (i := 0) (v := ?_) ho (by kernel_rfl) (by kernel_rfl) (by kernel_rfl) (fun _ _ _ h => h) (Or.inl ⟨by kernel_rfl, ?_⟩) hS ?_
          clear ho
          rotate_left
          · intro w' hS'
            have hq := hS'.1
            have hq2 := hS'.2
            clear hS'
            first | (go_simp; done) | (go_simp; with_reducible rfl)
          try clear ho
          try simp only [Act.put, List.getElem_toArray, List.getElem_cons_zero, List.getElem_cons_succ, List.setIfInBounds_toArray, List.set_cons_zero, List.set_cons_succ]
          have ho : ops15d[2]? = some (opAt ops15d 2) := by kernel_rfl
          conv at ho => rhs; arg 1; whnf
          refine wpAnyH_take (i := 2) (v := ?_) ho (by kernel_rfl) (by kernel_rfl) (by kernel_rfl) (fun _ _ _ h => h) (Or.inl ⟨by kernel_rfl, ?_⟩) hS ?_
          clear ho
          rotate_left
          · intro w' hS'
            have hq := hS'.1
            have hq2 := hS'.2
            clear hS'
            first | (go_simp; done) | (go_simp; with_reducible rfl)
          try clear ho
          try simp only [Act.put, List.getElem_toArray, List.getElem_cons_zero, List.getElem_cons_succ, List.setIfInBounds_toArray, List.set_cons_zero, List.set_cons_succ]
          have ho : ops15d[3]? = some (opAt ops15d 3) := by kernel_rfl
          conv at ho => rhs; arg 1; whnf
          refine wpAnyH_take (i := 3) (v := ?_) ho (by kernel_rfl) (by kernel_rfl) (by kernel_rfl) (fun _ _ _ h => h) (Or.inl ⟨by kernel_rfl, ?_⟩) hS ?_
          clear ho
          rotate_left
          · intro w' hS'
            have hq := hS'.1
            have hq2 := hS'.2
            clear hS'
            first | (go_simp; done) | (go_simp; with_reducible rfl)
          try clear ho
          try simp only [Act.put, List.getElem_toArray, List.getElem_cons_zero, List.getElem_cons_succ, List.setIfInBounds_toArray, List.set_cons_zero, List.set_cons_succ]
          have ho : ops15d[4]? = some (opAt ops15d 4) := by kernel_rfl
          conv at ho => rhs; arg 1; whnf
          refine wpAnyH_take (i := 4) (v := ?_) ho (by kernel_rfl) (by kernel_rfl) (by kernel_rfl) (fun _ _ _ h => h) (Or.inl ⟨by kernel_rfl, ?_⟩) hS ?_
          clear ho
          rotate_left
          · intro w' hS'
            have hq := hS'.1
            have hq2 := hS'.2
            clear hS'
            first | (go_simp; done) | (go_simp; with_reducible rfl)
          try clear ho
          try simp only [Act.put, List.getElem_toArray, List.getElem_cons_zero, List.getElem_cons_succ, List.setIfInBounds_toArray, List.set_cons_zero, List.set_cons_succ]
          have ho : ops15d[5]? = some (opAt ops15d 5) := by kernel_rfl
          conv at ho => rhs; arg 1; whnf
          refine wpAnyH_take (i := 5) (v := ?_) ho (by kernel_rfl) (by kernel_rfl) (by kernel_rfl) (fun _ _ _ h => h) (Or.inl ⟨by kernel_rfl, ?_⟩) hS ?_
          clear ho
          rotate_left
          · intro w' hS'
            have hq := hS'.1
            have hq2 := hS'.2
            clear hS'
            first | (go_simp; done) | (go_simp; with_reducible rfl)
          try clear ho
          try simp only [Act.put, List.getElem_toArray, List.getElem_cons_zero, List.getElem_cons_succ, List.setIfInBounds_toArray, List.set_cons_zero, List.set_cons_succ]
          have ho : ops15d[6]? = some (opAt ops15d 6) := by kernel_rfl
          conv at ho => rhs; arg 1; whnf
          refine wpAnyH_take (i := 6) (v := ?_) ho (by kernel_rfl) (by kernel_rfl) (by kernel_rfl) (fun _ _ _ h => h) (Or.inl ⟨by kernel_rfl, ?_⟩) hS ?_
          clear ho
          rotate_left
          · intro w' hS'
            have hq := hS'.1
            have hq2 := hS'.2
            clear hS'
            first | (go_simp; done) | (go_simp; with_reducible rfl)
          try clear ho
          try simp only [Act.put, List.getElem_toArray, List.getElem_cons_zero, List.getElem_cons_succ, List.setIfInBounds_toArray, List.set_cons_zero, List.set_cons_succ]
          have ho : ops15d[7]? = some (opAt ops15d 7) := by kernel_rfl
          conv at ho => rhs; arg 1; whnf
          refine wpAnyH_take (i := 7) (v := ?_) ho (by kernel_rfl) (by kernel_rfl) (by kernel_rfl) (fun _ _ _ h => h) (Or.inl ⟨by kernel_rfl, ?_⟩) hS ?_
          clear ho
          rotate_left
          · intro w' hS'
            have hq := hS'.1
            have hq2 := hS'.2
            clear hS'
            first | (go_simp; done) | (go_simp; with_reducible rfl)
          try clear ho
          try simp only [Act.put, List.getElem_toArray, List.getElem_cons_zero, List.getElem_cons_succ, List.setIfInBounds_toArray, List.set_cons_zero, List.set_cons_succ]
          have ho : ops15d[8]? = some (opAt ops15d 8) := by kernel_rfl
          conv at ho => rhs; arg 1; whnf
          refine wpAnyH_take (i := 8) (v := ?_) ho (by kernel_rfl) (by kernel_rfl) (by kernel_rfl) (fun _ _ _ h => h) (Or.inl ⟨by kernel_rfl, ?_⟩) hS ?_
          clear ho
          rotate_left
          · intro w' hS'
            have hq := hS'.1
            have hq2 := hS'.2
            clear hS'
            first | (go_simp; done) | (go_simp; with_reducible rfl)
          try clear ho
          try simp only [Act.put, List.getElem_toArray, List.getElem_cons_zero, List.getElem_cons_succ, List.setIfInBounds_toArray, List.set_cons_zero, List.set_cons_succ]
          have ho : ops15d[9]? = some (opAt ops15d 9) := by kernel_rfl
          conv at ho => rhs; arg 1; whnf
          refine wpAnyH_take (i := 9) (v := ?_) ho (by kernel_rfl) (by kernel_rfl) (by kernel_rfl) (fun _ _ _ h => h) (Or.inl ⟨by kernel_rfl, ?_⟩) hS ?_
          clear ho
          rotate_left
          · intro w' hS'
            have hq := hS'.1
            have hq2 := hS'.2
            clear hS'
            first | (go_simp; done) | (go_simp; with_reducible rfl)
          try clear ho
          try simp only [Act.put, List.getElem_toArray, List.getElem_cons_zero, List.getElem_cons_succ, List.setIfInBounds_toArray, List.set_cons_zero, List.set_cons_succ]
          have ho : ops15d[10]? = some (opAt ops15d 10) := by kernel_rfl
          conv at ho => rhs; arg 1; whnf
          refine wpAnyH_take (i := 10) (v := ?_) ho (by kernel_rfl) (by kernel_rfl) (by kernel_rfl) (fun _ _ _ h => h) (Or.inl ⟨by kernel_rfl, ?_⟩) hS ?_
          clear ho
          rotate_left
          · intro w' hS'
            have hq := hS'.1
            have hq2 := hS'.2
            clear hS'
            first | (go_simp; done) | (go_simp; with_reducible rfl)
          try clear ho
          try simp only [Act.put, List.getElem_toArray, List.getElem_cons_zero, List.getElem_cons_succ, List.setIfInBounds_toArray, List.set_cons_zero, List.set_cons_succ]
          have ho : ops15d[11]? = some (opAt ops15d 11) := by kernel_rfl
          conv at ho => rhs; arg 1; whnf
          refine wpAnyH_take (i := 11) (v := ?_) ho (by kernel_rfl) (by kernel_rfl) (by kernel_rfl) (fun _ _ _ h => h) (Or.inl ⟨by kernel_rfl, ?_⟩) hS ?_
          clear ho
          rotate_left
          · intro w' hS'
            have hq := hS'.1
            have hq2 := hS'.2
            clear hS'
            first | (go_simp; done) | (go_simp; with_reducible rfl)
          try clear ho
          try simp only [Act.put, List.getElem_toArray, List.getElem_cons_zero, List.getElem_cons_succ, List.setIfInBounds_toArray, List.set_cons_zero, List.set_cons_succ]
          have ho : ops15d[12]? = some (opAt ops15d 12) := by kernel_rfl
          conv at ho => rhs; arg 1; whnf
          refine wpAnyH_take (i := 12) (v := ?_) ho (by kernel_rfl) (by kernel_rfl) (by kernel_rfl) (fun _ _ _ h => h) (Or.inl ⟨by kernel_rfl, ?_⟩) hS ?_
          clear ho
          rotate_left
          · intro w' hS'
            have hq := hS'.1
            have hq2 := hS'.2
            clear hS'
            first | (go_simp; done) | (go_simp; with_reducible rfl)
          try clear ho
          try simp only [Act.put, List.getElem_toArray, List.getElem_cons_zero, List.getElem_cons_succ, List.setIfInBounds_toArray, List.set_cons_zero, List.set_cons_succ]
          have ho : ops15d[13]? = some (opAt ops15d 13) := by kernel_rfl
          conv at ho => rhs; arg 1; whnf
          refine wpAnyH_take (i := 13) (v := ?_) ho (by kernel_rfl) (by kernel_rfl) (by kernel_rfl) (fun _ _ _ h => h) (Or.inl ⟨by kernel_rfl, ?_⟩) hS ?_
          clear ho
          rotate_left
          · intro w' hS'
            have hq := hS'.1
            have hq2 := hS'.2
            clear hS'
            first | (go_simp; done) | (go_simp; with_reducible rfl)
          try clear ho
          try simp only [Act.put, List.getElem_toArray, List.getElem_cons_zero, List.getElem_cons_succ, List.setIfInBounds_toArray, List.set_cons_zero, List.set_cons_succ]
          have ho : ops15d[14]? = some (opAt ops15d 14) := by kernel_rfl
          conv at ho => rhs; arg 1; whnf
          refine wpAnyH_take (i := 14) (v := ?_) ho (by kernel_rfl) (by kernel_rfl) (by kernel_rfl) (fun _ _ _ h => h) (Or.inl ⟨by kernel_rfl, ?_⟩) hS ?_
          clear ho
          rotate_left
          · intro w' hS'
            have hq := hS'.1
            have hq2 := hS'.2
            clear hS'
            first | (go_simp; done) | (go_simp; with_reducible rfl)
          try clear ho
          try simp only [Act.put, List.getElem_toArray, List.getElem_cons_zero, List.getElem_cons_succ, List.setIfInBounds_toArray, List.set_cons_zero, List.set_cons_succ]
          have ho1 : ops15d[1]? = some (opAt ops15d 1) := by kernel_rfl
          conv at ho1 => rhs; arg 1; whnf
          refine wpAnyH_ready (rs := [1]) (by kernel_rfl) (by simp) ?_
          refine (AllReadyH.cons ho1 (fun K hK => ?_) AllReadyH.nil)
          all_goals clear ho1
          go_simp
          try dsimp only
          refine hK.out _ _ ?_ (fun hS => ?_)
          · exact hS
          clear hK K
          try simp only [Act.put, List.getElem_toArray, List.getElem_cons_zero, List.getElem_cons_succ, List.setIfInBounds_toArray, List.set_cons_zero, List.set_cons_succ]
          have ho : ops15d[15]? = some (opAt ops15d 15) := by kernel_rfl
          conv at ho => rhs; arg 1; whnf
          refine wpAnyH_take (i := 15) (v := ?_) ho (by kernel_rfl) (by kernel_rfl) (by kernel_rfl) (fun _ _ _ h => h) (Or.inl ⟨by kernel_rfl, ?_⟩) hS ?_
          clear ho
          rotate_left
          · intro w' hS'
            have hq := hS'.1
            have hq2 := hS'.2
            clear hS'
            first | (go_simp; done) | (go_simp; with_reducible rfl)
          try clear ho
          try simp only [Act.put, List.getElem_toArray, List.getElem_cons_zero, List.getElem_cons_succ, List.setIfInBounds_toArray, List.set_cons_zero, List.set_cons_succ]
          have ho : ops15d[16]? = some (opAt ops15d 16) := by kernel_rfl
          conv at ho => rhs; arg 1; whnf
          refine wpAnyH_take (i := 16) (v := ?_) ho (by kernel_rfl) (by kernel_rfl) (by kernel_rfl) (fun _ _ _ h => h) (Or.inl ⟨by kernel_rfl, ?_⟩) hS ?_
          clear ho
          rotate_left
          · intro w' hS'
            have hq := hS'.1
            have hq2 := hS'.2
            clear hS'
            first | (go_simp; done) | (go_simp; with_reducible rfl)
          try clear ho
          try simp only [Act.put, List.getElem_toArray, List.getElem_cons_zero, List.getElem_cons_succ, List.setIfInBounds_toArray, List.set_cons_zero, List.set_cons_succ]
          have ho17 : ops15d[17]? = some (opAt ops15d 17) := by kernel_rfl
          conv at ho17 => rhs; arg 1; whnf
          refine wpAnyH_ready (rs := [17]) (by kernel_rfl) (by simp) ?_
          refine (AllReadyH.cons ho17 (fun K hK => ?_) AllReadyH.nil)
          all_goals clear ho17
          go_simp
          try dsimp only
          refine hK.out _ _ ?_ (fun hS => ?_)
          · exact ⟨fun b o hb hne => (World.cell?_setCell_other _ _ _ _ (fun e => hne (congrArg Addr.block e).symm)).trans (hS.1 b o hb hne), trivial⟩
          clear hK K
          try simp only [Act.put, List.getElem_toArray, List.getElem_cons_zero, List.getElem_cons_succ, List.setIfInBounds_toArray, List.set_cons_zero, List.set_cons_succ]
          refine wpAnyH_done (by kernel_rfl) ?_ _
          have HM9 := hide ((hM6.keep ((Below.refl _ _).drew)).box (hF6.keep ((Below.refl _ _).drew)) 8 (.int .i64 (PB + fk.size * fk.count)))
          have HF9 := hide ((hF6.keep ((Below.refl _ _).drew)).set 8 (.int .i64 (PB + fk.size * fk.count)) (g' := { g with pos := PB + fk.size * fk.count }) rfl rfl)
          clear hS hc6 hf6 hF6 hM6 y8 fy8
          unfold NoPanic
          go_wp2_with fail
          go_roundg (gk - 1)
          case measure => have := Hk.out; omega
          case rel => exact ⟨k + 1, by have := Hk.out; omega, by first | rfl | go_num | (rw [hwk]), HM9.out, by rw [Hbs.out]; exact HF9.out⟩
        case neg =>
          have t1 : (fk.kind == g.kind) = true := by rw [beq_iff_eq]; exact c1
          have t2 : (fk.report == g.report) = false := beq_false_of_ne c2
          have hbs : bitsS (fl.take (k + 1)) g.kind g.report = PB := by
            rw [hsn, bitsS_snoc, hPB, t1, t2]; simp
          have Hbs := hide hbs
          clear hbs hsn hPB c1 c2
          go_upto_region 14 with (fail)
          go_quiet (fail)
          go_wp2_with fail
          go_roundg (gk - 1)
          case measure => have := Hk.out; omega
          case rel => exact ⟨k + 1, by have := Hk.out; omega, by first | rfl | go_num | (rw [hwk]), HMX.out.keep (by first | exact Below.refl _ _ | exact below_drewN (Below.refl _ _) _ | go_grown), by rw [Hbs.out]; exact HFX.out.keep (by first | exact Below.refl _ _ | exact below_drewN (Below.refl _ _) _ | go_grown)⟩
      case neg =>
        have t1 : (fk.kind == g.kind) = false := beq_false_of_ne c1
        have hbs : bitsS (fl.take (k + 1)) g.kind g.report = PB := by
          rw [hsn, bitsS_snoc, hPB, t1]; simp
        have Hbs := hide hbs
        clear hbs hsn hPB c1
        go_upto_region 14 with (fail)
        go_quiet (fail)
        go_wp2_with fail
        go_roundg (gk - 1)
        case measure => have := Hk.out; omega
        case rel => exact ⟨k + 1, by have := Hk.out; omega, by first | rfl | go_num | (rw [hwk]), HMX.out.keep (by first | exact Below.refl _ _ | exact below_drewN (Below.refl _ _) _ | go_grown), by rw [Hbs.out]; exact HFX.out.keep (by first | exact Below.refl _ _ | exact below_drewN (Below.refl _ _) _ | go_grown)⟩
    case neg =>
      have hkn : k = fn := by have := Hk.out; omega
      have hltd : decide ((k : Int) < (fn : Int)) = false := decide_eq_false (by omega)
      have e9 : fl.take k = fl := by rw [hkn, ← Hfn.out, List.take_length]
      rw [e9] at hF
      have HFX := hide hF
      have HMX := hide hM
      clear hF hM hkn e9
      go_upto_region 16 with fail
      refine q16 (cl := clf) HMX.out HFX.out h7 hba hin hfl Hdd.out hd5 (by rw [Hfn.out]; exact hfl20) He.out Hef.out _ _ ?_ HQ.out <;> assumption
end Go.Proofs.Ytegdigfcgeoboaa
