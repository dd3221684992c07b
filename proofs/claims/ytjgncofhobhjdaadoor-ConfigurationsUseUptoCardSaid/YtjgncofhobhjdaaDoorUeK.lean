/- ConfigurationsUse, walked. Printed by gen_ue.py. -/
import Derived.Test.YtjgncofhobhjdaaDoorChecked
import Derived.Deep.RegionHeld3
import Derived.Deep.DrawnRows
import Derived.Deep.DeepCutAuto
import Derived.Deep.LoopGhost
import Derived.Outline
import Derived.Handy
import Derived.OwnWalk
import Derived.BigQuiet
import Derived.Test.YtjgncofhobhjdaaDoorN14
import Derived.Test.YtjgncofhobhjdaaDoorN11
import Derived.Test.YtjgncofhobhjdaaDoorN15
import Derived.Test.YtjgncofhobhjdaaDoorN19
set_option linter.unusedVariables false
set_option linter.unusedSimpArgs false
set_option linter.unusedSectionVars false
namespace Go.Proofs.YtjgncofhobhjdaaDoor
open Go.RowKit
attribute [local go_sem ↓] Go.wp_at_zero Go.wp_at_succ

theorem endsL_bad {c : Cfg} {l : List Int} (h : endsE c l ≠ 0) : endsL c l = [] := by unfold endsL; rw [if_neg h]
theorem endsL_ok {c : Cfg} {l : List Int} (h : endsE c l = 0) : endsL c l = (tagF 0 (c.ifs.zip l)).map Prod.snd := by unfold endsL; rw [if_pos h, tagF_snd]
theorem ends_width {c : Cfg} {l : List Int} (h : l.length ≠ c.ifs.length) : endsE c l ≠ 0 := by unfold endsE; rw [if_pos h]; decide
theorem flat_lenU : ∀ (a : List (List Alt)) (b : List Int), ((a.zip b).flatMap epsP).length ≤ sumC a
  | [], b => by simp
  | x :: a, [] => by simp
  | x :: a, s :: b => by
    have ih := flat_lenU a b
    have h := epsP_le x s
    rw [List.zip_cons_cons, List.flatMap_cons, List.length_append]
    show _ ≤ sumIf x + sumC a
    omega
theorem Fnd.zero {ad : Int} {t : List (Nat × EpD)} {F : EpD} {o : Nat} (h : Fnd ad t F o 0) : F = ep0 ∧ o = 0 := by
  rcases h with ⟨_, h1, h2, _⟩ | ⟨h, _⟩
  · exact ⟨h1, h2⟩
  · cases h
set_option maxRecDepth 100000 in
set_option maxHeartbeats 16000000 in
theorem use_law (x : PC) (A : Option Addr) (cap : Nat) (B : Option Addr) (m cb : Nat) (l : List Int) (ad : Int) (w : World) (hC : PcIs w x A cap) (hx : x.ok) (hl : Sl u8T w (low w.heap.size) B m l) (hmc : m ≤ cb) (hcb : cb ≤ maxLen) (had : u8k ad) (hz : countP x.ifs ≤ 2000000) (hT : Tabs w) :
    Calls Tryd.prog 10 #[.agg (x.cells A cap).toArray, .slice B m cb, .int .u8 ad] w fun e w' => e = .returned (.bool true) ∧ Kept w w' := by
  have hun := fun hb : bigS x = false => of_uniq hb l
  have Hl := hide hl
  have Had := hide had
  have hbg := fun w' (hk : Kept w w') => big_any x A cap w' (hC.kept hk) hz
  have hof := fun w' (hk : Kept w w') hb => of_plain x A cap w' (hC.kept hk) hb hx
  have hlv := fun w' (hk : Kept w w') => lives_any w' (hT.kept hk)
  obtain ⟨bg, hbgd⟩ : ∃ bg, bigS x = bg := ⟨_, rfl⟩
  have hsz := fun hb => of_size (x := x) hb hx
  have hch := fun hb => of_check (x := x) hb hx
  have hok := fun hb => of_ok (x := x) hb hx
  obtain ⟨C, hCd⟩ : ∃ C, ofS x = C := ⟨_, rfl⟩
  simp only [hbgd, hCd] at hbg hof hsz hch hok
  obtain ⟨nu, te, po, se, wa, L⟩ := x
  obtain ⟨n0, hn0⟩ : ∃ n0, L.length = n0 := ⟨_, rfl⟩
  unfold PC.cells at hbg hof ⊢
  simp only [hn0] at hbg hof ⊢
  simp only [hbgd, hCd] at hun
  have hlm := hl.1
  clear hl had
  clear hC hx hz hT hn0 hbgd hCd
  go_enter Tryd.func10, Tryd.ntmps10
  go_upto_region 1 with (fail)
  refine wp_at (fun W => W.heap[w.heap.size]? = some (.cells #[.int .u8 nu, .int .u8 te, .int .u8 po, .bool se, .bool wa, .slice A n0 cap] 24 (0, 0)) ∧ Kept w W) ⟨heap_at _ rfl, by go_grown⟩ (fun W hW => ?_)
  obtain ⟨hI, hkW⟩ := hW
  obtain ⟨I0, hI0⟩ : ∃ I0, w.heap.size = I0 := ⟨_, rfl⟩
  rw [hI0] at hI
  simp only [hI0]
  have i0 := cell_heap hI (o := 0) rfl
  have i1 := cell_heap hI (o := 1) rfl
  have i2 := cell_heap hI (o := 2) rfl
  have i3 := cell_heap hI (o := 3) rfl
  have i4 := cell_heap hI (o := 4) rfl
  have i5 := cell_heap hI (o := 5) rfl
  have lI := heap_lt hI
  have HI := hide hI
  have HkW := hide hkW
  clear hI hkW hI0
  cases bg with
  | true =>
    clear hof hsz hch hok
    go_wp2_with (first
      | (go_at_call 12; refine (hbg _ HkW.out).mono ?_; rintro e w1 ⟨⟨k, rfl, hk0⟩, hk1⟩; have hkp : 0 < k := by simpa using hk0)
      | (go_at_call 13; refine (hlv _ (HkW.out.trans' hk1)).mono ?_; rintro e w2 ⟨rfl, hk2⟩))
    go_ret
    exact ⟨rfl, (HkW.out.trans' hk1).trans' hk2⟩
  | false =>
  replace hof := fun w' hk => hof w' hk rfl
  replace hsz := hsz rfl
  replace hch := hch rfl
  replace hok := hok rfl
  replace hun := hun rfl
  by_cases hm20 : m ≤ 20
  case neg =>
    have hm21 : (20 : Int) < (m : Int) := by omega
    clear hof hsz hch hok hun hlm
    go_wp2_with (first
      | (go_at_call 12; refine (hbg _ HkW.out).mono ?_; rintro e w1 ⟨⟨k, rfl, hk0⟩, hk1⟩; have hkp : k ≤ 0 := by simpa using hk0)
      | (go_at_call 13; refine (hlv _ (HkW.out.trans' hk1)).mono ?_; rintro e w2 ⟨rfl, hk2⟩))
    go_ret
    exact ⟨rfl, (HkW.out.trans' hk1).trans' hk2⟩
  case pos =>
  have hm21 : (m : Int) ≤ 20 := by omega
  obtain ⟨D, IFS⟩ := C
  obtain ⟨n, hn⟩ : ∃ n, IFS.length = n := ⟨_, rfl⟩
  unfold Cfg.cells CfgD.cells at hof
  simp only [hn, List.cons_append, List.nil_append] at hof
  have hsz' : 9 + sumC IFS ≤ 3129 := hsz
  have hn16 : n ≤ 16 := by rw [← hn]; exact (check_of hch).many
  have hoks : ∀ p ∈ IFS.zip l, ∀ e ∈ epsP p, okEp e = true := fun p hp => epsP_ok hch hp
  have hunq : Uniq (tagF 0 (IFS.zip l)) := hun
  have Hn := hide hn
  have Hoks := hide hoks
  have Hun := hide hunq
  have Hlm := hide hlm
  clear hok hch hsz hn hoks hunq hun hlm
  go_upto_region 3 with (go_at_call 12; refine (hbg _ HkW.out).mono ?_; rintro e w1 ⟨⟨k, rfl, hk0⟩, hk1⟩; have hkp : k ≤ 0 := by simpa using hk0)
  have hI1 := heap_kept hk1 HI.out
  have j0 := cell_heap hI1 (o := 0) rfl; have j1 := cell_heap hI1 (o := 1) rfl; have j2 := cell_heap hI1 (o := 2) rfl; have j3 := cell_heap hI1 (o := 3) rfl; have j4 := cell_heap hI1 (o := 4) rfl; have j5 := cell_heap hI1 (o := 5) rfl
  have lJ := heap_lt hI1
  have hkw1 := HkW.out.trans' hk1
  clear hI1 HI i0 i1 i2 i3 i4 i5 lI hk1 hk0 hkp hbg
  go_upto_region 4 with (go_at_call 14; refine (hof _ hkw1).mono ?_; rintro e w2 ⟨⟨AX, cx, rfl, hcfg⟩, hk2⟩)
  refine wp_at (fun V => ∃ CB, V.heap[CB]? = some (.cells #[.int .u16 D.total, .int .u8 D.ifs, .int .u8 D.number, .int .u8 D.text, .bool D.self, .bool D.wake, .int .u8 D.power, .slice AX n cx] 32 (0, 0)) ∧ CB = w2.heap.size ∧ Kept w2 V) ⟨_, heap_at _ rfl, rfl, by go_grown⟩ (fun V hV => ?_)
  obtain ⟨CB, hCB, hCBd, hkV⟩ := hV
  rw [← hCBd]
  have hCV := hcfg.kept hkV
  have hkwV := (hkw1.trans' hk2).trans' hkV
  have hlV := Hl.out.kept hkwV
  have hal : ∀ w', Kept V w' → Calls Tryd.prog 25 #[.agg #[.int .u16 D.total, .int .u8 D.ifs, .int .u8 D.number, .int .u8 D.text, .bool D.self, .bool D.wake, .int .u8 D.power, .slice AX n cx]] w' (fun e w2 => (∃ b, e = .returned (.slice (some ⟨b, 0, none⟩) n n) ∧ w'.heap.size ≤ b ∧ w2.heap[b]? = some (.cells ((List.replicate n (0 : Int)).map (Value.int .u8)).toArray 5 (0, 0))) ∧ Kept w' w2) := fun w' hk => by
    have h := alternates_any ⟨D, IFS⟩ AX cx w' (by show IFS.length ≤ 100000; rw [Hn.out]; omega)
    unfold Cfg.cells CfgD.cells at h
    simp only [Hn.out, List.cons_append, List.nil_append] at h
    exact h
  obtain ⟨er, her⟩ : ∃ er, endsE ⟨D, IFS⟩ l = er := ⟨_, rfl⟩
  obtain ⟨el, hel⟩ : ∃ el, endsL ⟨D, IFS⟩ l = el := ⟨_, rfl⟩
  have hen : ∀ w', Kept V w' → Calls Tryd.prog 26 #[.agg #[.int .u16 D.total, .int .u8 D.ifs, .int .u8 D.number, .int .u8 D.text, .bool D.self, .bool D.wake, .int .u8 D.power, .slice AX n cx], .slice B m cb] w' (fun e w2 => (∃ A' n', e = .returned (.tuple #[.slice A' n' n', .int .i64 er]) ∧ Sl epT w2 (fun b => w'.heap.size ≤ b ∧ b < w2.heap.size) A' n' el) ∧ Kept w' w2) := fun w' hk => by
    have h := ends_any ⟨D, IFS⟩ AX cx B m cb l w' (hCV.kept hk) (by show 9 + sumC IFS ≤ 1000000; omega) hmc hcb (hlV.kept hk)
    unfold Cfg.cells CfgD.cells at h
    simp only [Hn.out, her, hel, List.cons_append, List.nil_append] at h
    exact h
  obtain ⟨FP, hFP⟩ : ∃ FP, FP = FindPost ⟨D, IFS⟩ l ad := ⟨_, rfl⟩
  have hfi : ∀ w', Kept V w' → Calls Tryd.prog 27 #[.agg #[.int .u16 D.total, .int .u8 D.ifs, .int .u8 D.number, .int .u8 D.text, .bool D.self, .bool D.wake, .int .u8 D.power, .slice AX n cx], .slice B m cb, .int .u8 ad] w' (fun e w2 => FP e ∧ Kept w' w2) := fun w' hk => by
    have h := find_any ⟨D, IFS⟩ AX cx B m cb l ad w' (hCV.kept hk) (by show 9 + sumC IFS ≤ 1000000; omega) hmc hcb (hlV.kept hk)
    unfold Cfg.cells CfgD.cells at h
    simp only [Hn.out, List.cons_append, List.nil_append] at h
    rw [hFP]
    exact h
  have hPbad : er ≠ 0 → ∀ e, FP e → e = .returned (.tuple #[.agg #[.int .u8 0, .bool false, .int .u8 0, .int .u16 0, .int .u8 0], .int .i64 0, .int .i64 er]) := fun h e hp => by
    rw [hFP] at hp
    rw [← her] at h ⊢
    exact find_bad h hp
  have hPok : er = 0 → ∀ F o m', Fnd ad (tagF 0 (IFS.zip l)) F o m' → ∀ e, FP e → e = .returned (.tuple #[.agg #[.int .u8 F.num, .bool F.inn, .int .u8 F.kind, .int .u16 F.max, .int .u8 F.ivl], .int .i64 (o : Int), .int .i64 (if m' = 0 then 7 else 0)]) ∧ (m' = 0 → F = ep0 ∧ o = 0) := fun h F o m' hf e hp => by
    rw [hFP] at hp
    exact find_eq hf Hun.out (her.trans h) hp
  have hLnil : er ≠ 0 → el = [] := fun h => by rw [← hel]; exact endsL_bad (by rw [her]; exact h)
  have hLok : er = 0 → el = (tagF 0 (IFS.zip l)).map Prod.snd := fun h => by rw [← hel]; exact endsL_ok (her.trans h)
  have hwid : m ≠ n → er ≠ 0 := fun h => by rw [← her]; exact ends_width (by show l.length ≠ IFS.length; rw [Hlm.out, Hn.out]; exact h)
  have d0 := cell_heap hCB (o := 0) rfl
  have d1 := cell_heap hCB (o := 1) rfl
  have d2 := cell_heap hCB (o := 2) rfl
  have d3 := cell_heap hCB (o := 3) rfl
  have d4 := cell_heap hCB (o := 4) rfl
  have d5 := cell_heap hCB (o := 5) rfl
  have d6 := cell_heap hCB (o := 6) rfl
  have d7 := cell_heap hCB (o := 7) rfl
  have lC := heap_lt hCB
  have hcn := hCV.len
  simp only at hcn
  rw [Hn.out] at hcn
  have HCB := hide hCB
  have HCV := hide hCV
  have HkwV := hide hkwV
  have HlV := hide hlV
  have HPbad := hide hPbad
  have HPok := hide hPok
  have HLnil0 := hide hLnil
  have HLok := hide hLok
  have Hwid := hide hwid
  have Her := hide her
  have Hcb := hide hcb
  clear hCB hCBd hkV hcfg hk2 hkw1 hof hCV hkwV hlV hPbad hPok hLnil hLok hwid her hel hFP hcb j0 j1 j2 j3 j4 j5 lJ
  go_upto_region 5 with (go_at_call 25; refine (hal _ (Below.refl _ _)).mono ?_; rintro e w3 ⟨⟨b, rfl, hb0, hb1⟩, hk3⟩)
  have hCB3 := heap_kept hk3 HCB.out
  have f0 := cell_heap hCB3 (o := 0) rfl; have f1 := cell_heap hCB3 (o := 1) rfl; have f2 := cell_heap hCB3 (o := 2) rfl; have f3 := cell_heap hCB3 (o := 3) rfl; have f4 := cell_heap hCB3 (o := 4) rfl; have f5 := cell_heap hCB3 (o := 5) rfl; have f6 := cell_heap hCB3 (o := 6) rfl; have f7 := cell_heap hCB3 (o := 7) rfl
  have lC3 := heap_lt hCB3
  have Hb1 := hide hb1
  clear hCB3 d0 d1 d2 d3 d4 d5 d6 d7 lC hb0 hb1 hal
  go_upto_region 7 with (fail)
  refine use_first Hb1.out (by omega) _ _ ?_ ?_
  · assumption
  intro s6 s9 s43 s44 s45 s46 s47 s48 s49 s50 s51 s52 s53 w4 hk4
  have hk4V := hk3.trans' hk4
  have hCB4 := heap_kept hk4V HCB.out
  clear f0 f1 f2 f3 f4 f5 f6 f7 lC3 hk3 hk4
  have f0 := cell_heap hCB4 (o := 0) rfl; have f1 := cell_heap hCB4 (o := 1) rfl; have f2 := cell_heap hCB4 (o := 2) rfl; have f3 := cell_heap hCB4 (o := 3) rfl; have f4 := cell_heap hCB4 (o := 4) rfl; have f5 := cell_heap hCB4 (o := 5) rfl; have f6 := cell_heap hCB4 (o := 6) rfl; have f7 := cell_heap hCB4 (o := 7) rfl
  have lC4 := heap_lt hCB4
  have HC4 := hide (HCV.out.kept hk4V)
  have Hl4 := hide (HlV.out.kept hk4V)
  clear hCB4 Hb1
  by_cases hmn : m = n
  case neg =>
    have hmn1 : ¬ (m : Int) = (n : Int) := by omega
    have hmn2 : ((m : Int) == (n : Int)) = false := by simpa using hmn1
    have Hern := hide (Hwid.out hmn)
    have HPB := hide (HPbad.out Hern.out)
    have HLnil := hide (HLnil0.out Hern.out)
    have Hmn := hide hmn
    clear hmn
    go_upto_region 18 with (fail)
    refine wp_at (fun X => US w4 w4.heap.size ad [] ep0 0 0 (.slice none 0 0) X) ⟨heap_at _ rfl, Own.nil _ _ _ _, by go_grown, rfl, Fnd.start _⟩ (fun X hX => ?_)
    obtain ⟨FB, hFB⟩ : ∃ FB, w4.heap.size = FB := ⟨_, rfl⟩
    rw [hFB] at hX
    simp only [hFB]
    refine use_out (W0 := 5) hX HC4.out Hn.out Hl4.out hmc Hcb.out hm20 f7 lC4 Hoks.out Hun.out Had.out (by show sumC IFS ≤ 3129; omega) (by rw [if_pos Hmn.out]) _ _ ?_ ?_
    · assumption
    intro s10 s13 s14 s15 s16 s17 s60 s61 s62 s63 s64 s65 s66 s67 s68 s69 s70 s71 s72 s73 s74 s75 s76 s77 s78 s79 s80 s81 s82 s83 s84 s85 s86 s87 s88 s89 s90 s91 s92 s93 s94 s95 s96 s97 s98 s99 s100 s101 s102 s103 s104 s105 s106 s107 s108 s109 s110 s111 s112 s113 s114 s115 s116 s117 s118 s119 s120 s121 s122 s123 s124 s125 s126 s127 s128 s129 s130 s131 s132 s133 w5 hk5 hor
    clear hor hX hFB lC4
    rw [Her.out]
    have hCB5 := heap_kept (hk4V.trans' hk5) HCB.out
    clear f0 f1 f2 f3 f4 f5 f6 f7
    have f0 := cell_heap hCB5 (o := 0) rfl; have f1 := cell_heap hCB5 (o := 1) rfl; have f2 := cell_heap hCB5 (o := 2) rfl; have f3 := cell_heap hCB5 (o := 3) rfl; have f4 := cell_heap hCB5 (o := 4) rfl; have f5 := cell_heap hCB5 (o := 5) rfl; have f6 := cell_heap hCB5 (o := 6) rfl; have f7 := cell_heap hCB5 (o := 7) rfl
    have lC5 := heap_lt hCB5
    clear hCB5 hmn1 hmn2
    go_upto_region 33 with (go_at_call 26; refine (hen _ (hk4V.trans' hk5)).mono ?_; rintro e w6 ⟨⟨AE, ne, rfl, hse⟩, hk6⟩)
    have hCB6 := heap_kept ((hk4V.trans' hk5).trans' hk6) HCB.out
    have g0 := cell_heap hCB6 (o := 0) rfl; have g1 := cell_heap hCB6 (o := 1) rfl; have g2 := cell_heap hCB6 (o := 2) rfl; have g3 := cell_heap hCB6 (o := 3) rfl; have g4 := cell_heap hCB6 (o := 4) rfl; have g5 := cell_heap hCB6 (o := 5) rfl; have g6 := cell_heap hCB6 (o := 6) rfl; have g7 := cell_heap hCB6 (o := 7) rfl
    have lC6 := heap_lt hCB6
    have hkV6 := (hk4V.trans' hk5).trans' hk6
    have Hse := hide hse
    clear hCB6 hse f0 f1 f2 f3 f4 f5 f6 f7 lC5
    go_upto_region 34 with (first
      | (go_at_call 27; refine (hfi _ hkV6).mono ?_; rintro e w7 ⟨hfp, hk7⟩; have hfe := (HPB.out _ hfp); clear hfp; subst hfe)
      | (refine wpList_store_row rfl 59 (.tmp 20) (.tmp 145) rfl w7.heap.size #[.int .u8 0, .bool false, .int .u8 0, .int .u16 0, .int .u8 0] (by rfl) (by rfl) 59 _ (heap_at _ rfl) (by kernel_rfl) (by rfl) (by simp [Value.oneCell']) ?_))
    refine wp_at (fun Y => Y.heap[w7.heap.size]? = some (.cells #[.int .u8 0, .bool false, .int .u8 0, .int .u16 0, .int .u8 0] 59 (0, 0)) ∧ Kept w7 Y) ⟨heap_row (heap_at _ rfl), by first | exact below_row ((Below.refl _ _).alloc (Nat.le_refl _) _) (Nat.le_refl _) _ | go_grown⟩ (fun Y hY => ?_)
    obtain ⟨hPB, hkY⟩ := hY
    obtain ⟨PB, hPBd⟩ : ∃ PB, w7.heap.size = PB := ⟨_, rfl⟩
    rw [hPBd] at hPB
    simp only [hPBd]
    have p0 := cell_heap hPB (o := 0) rfl; have p1 := cell_heap hPB (o := 1) rfl; have p2 := cell_heap hPB (o := 2) rfl; have p3 := cell_heap hPB (o := 3) rfl; have p4 := cell_heap hPB (o := 4) rfl
    have lP := heap_lt hPB
    have hkwY : Kept w Y := (((HkwV.out.trans' hkV6).trans' hk7).trans' hkY)
    have hk5Y : Kept w5 Y := (hk6.trans' hk7).trans' hkY
    have hk6Y : Kept w6 Y := hk7.trans' hkY
    clear g0 g1 g2 g3 g4 g5 g6 g7 lC6 hkV6 hk6 hk7 hkY hPBd
    have hn0 : ne = 0 := by have h := Hse.out.1; rw [HLnil.out] at h; simpa using h.symm
    subst hn0
    have hq0 := fun w => eqlEp ep0 ep0 w
    simp only [sameEp_refl] at hq0
    unfold EpD.cells ep0 at hq0
    have hne1 : (er == 0) = false := by simpa using Hern.out
    have hne2 : (er != 0) = true := by simpa using Hern.out
    have hne3 : (er == er) = true := by simp
    have hne4 : ¬ er = 0 := Hern.out
    clear hen hfi
    go_wp2_with (go_at_call 13; refine (hlv _ hkwY).mono ?_; rintro e w8 ⟨rfl, hk8⟩)
    go_ret
    exact ⟨rfl, hkwY.trans' hk8⟩
  case pos =>
  have hmn1 : (m : Int) = (n : Int) := by omega
  have hmn2 : ((m : Int) == (n : Int)) = true := by simpa using hmn1
  have Hmn := hide hmn
  clear hmn
  go_upto_region 18 with (fail)
  refine wp_at (fun X => US w4 w4.heap.size ad [] ep0 0 0 (.slice none 0 0) X) ⟨heap_at _ rfl, Own.nil _ _ _ _, by go_grown, rfl, Fnd.start _⟩ (fun X hX => ?_)
  obtain ⟨FB, hFB⟩ : ∃ FB, w4.heap.size = FB := ⟨_, rfl⟩
  rw [hFB] at hX
  simp only [hFB]
  refine use_out (W0 := 0) hX HC4.out Hn.out Hl4.out hmc Hcb.out hm20 f7 lC4 Hoks.out Hun.out Had.out (by show sumC IFS ≤ 3129; omega) (by rw [if_neg (by simpa using Hmn.out)]) _ _ ?_ ?_
  · assumption
  intro s10 s13 s14 s15 s16 s17 s60 s61 s62 s63 s64 s65 s66 s67 s68 s69 s70 s71 s72 s73 s74 s75 s76 s77 s78 s79 s80 s81 s82 s83 s84 s85 s86 s87 s88 s89 s90 s91 s92 s93 s94 s95 s96 s97 s98 s99 s100 s101 s102 s103 s104 s105 s106 s107 s108 s109 s110 s111 s112 s113 s114 s115 s116 s117 s118 s119 s120 s121 s122 s123 s124 s125 s126 s127 s128 s129 s130 s131 s132 s133 w5 hk5 hor
  clear hX hFB lC4
  rw [Her.out] at hor ⊢
  have hCB5 := heap_kept (hk4V.trans' hk5) HCB.out
  clear f0 f1 f2 f3 f4 f5 f6 f7
  have f0 := cell_heap hCB5 (o := 0) rfl; have f1 := cell_heap hCB5 (o := 1) rfl; have f2 := cell_heap hCB5 (o := 2) rfl; have f3 := cell_heap hCB5 (o := 3) rfl; have f4 := cell_heap hCB5 (o := 4) rfl; have f5 := cell_heap hCB5 (o := 5) rfl; have f6 := cell_heap hCB5 (o := 6) rfl; have f7 := cell_heap hCB5 (o := 7) rfl
  have lC5 := heap_lt hCB5
  clear hCB5 hmn1 hmn2
  rcases hor with ⟨her0, F, o, m', rfl, rfl, hus⟩ | hern
  case inr =>
    have Hern := hide hern
    have HPB := hide (HPbad.out hern)
    have HLnil := hide (HLnil0.out hern)
    clear hern
    go_upto_region 33 with (go_at_call 26; refine (hen _ (hk4V.trans' hk5)).mono ?_; rintro e w6 ⟨⟨AE, ne, rfl, hse⟩, hk6⟩)
    have hCB6 := heap_kept ((hk4V.trans' hk5).trans' hk6) HCB.out
    have g0 := cell_heap hCB6 (o := 0) rfl; have g1 := cell_heap hCB6 (o := 1) rfl; have g2 := cell_heap hCB6 (o := 2) rfl; have g3 := cell_heap hCB6 (o := 3) rfl; have g4 := cell_heap hCB6 (o := 4) rfl; have g5 := cell_heap hCB6 (o := 5) rfl; have g6 := cell_heap hCB6 (o := 6) rfl; have g7 := cell_heap hCB6 (o := 7) rfl
    have lC6 := heap_lt hCB6
    have hkV6 := (hk4V.trans' hk5).trans' hk6
    have Hse := hide hse
    clear hCB6 hse f0 f1 f2 f3 f4 f5 f6 f7 lC5
    go_upto_region 34 with (first
      | (go_at_call 27; refine (hfi _ hkV6).mono ?_; rintro e w7 ⟨hfp, hk7⟩; have hfe := (HPB.out _ hfp); clear hfp; subst hfe)
      | (refine wpList_store_row rfl 59 (.tmp 20) (.tmp 145) rfl w7.heap.size #[.int .u8 0, .bool false, .int .u8 0, .int .u16 0, .int .u8 0] (by rfl) (by rfl) 59 _ (heap_at _ rfl) (by kernel_rfl) (by rfl) (by simp [Value.oneCell']) ?_))
    refine wp_at (fun Y => Y.heap[w7.heap.size]? = some (.cells #[.int .u8 0, .bool false, .int .u8 0, .int .u16 0, .int .u8 0] 59 (0, 0)) ∧ Kept w7 Y) ⟨heap_row (heap_at _ rfl), by first | exact below_row ((Below.refl _ _).alloc (Nat.le_refl _) _) (Nat.le_refl _) _ | go_grown⟩ (fun Y hY => ?_)
    obtain ⟨hPB, hkY⟩ := hY
    obtain ⟨PB, hPBd⟩ : ∃ PB, w7.heap.size = PB := ⟨_, rfl⟩
    rw [hPBd] at hPB
    simp only [hPBd]
    have p0 := cell_heap hPB (o := 0) rfl; have p1 := cell_heap hPB (o := 1) rfl; have p2 := cell_heap hPB (o := 2) rfl; have p3 := cell_heap hPB (o := 3) rfl; have p4 := cell_heap hPB (o := 4) rfl
    have lP := heap_lt hPB
    have hkwY : Kept w Y := (((HkwV.out.trans' hkV6).trans' hk7).trans' hkY)
    have hk5Y : Kept w5 Y := (hk6.trans' hk7).trans' hkY
    have hk6Y : Kept w6 Y := hk7.trans' hkY
    clear g0 g1 g2 g3 g4 g5 g6 g7 lC6 hkV6 hk6 hk7 hkY hPBd
    have hn0 : ne = 0 := by have h := Hse.out.1; rw [HLnil.out] at h; simpa using h.symm
    subst hn0
    have hq0 := fun w => eqlEp ep0 ep0 w
    simp only [sameEp_refl] at hq0
    unfold EpD.cells ep0 at hq0
    have hne1 : (er == 0) = false := by simpa using Hern.out
    have hne2 : (er != 0) = true := by simpa using Hern.out
    have hne3 : (er == er) = true := by simp
    have hne4 : ¬ er = 0 := Hern.out
    clear hen hfi
    go_wp2_with (go_at_call 13; refine (hlv _ hkwY).mono ?_; rintro e w8 ⟨rfl, hk8⟩)
    go_ret
    exact ⟨rfl, hkwY.trans' hk8⟩
  case inl =>
  subst her0
  have HPk := hide (HPok.out rfl F o m' hus.fnd)
  have hm1 := hus.fnd.le
  have Hel := hide (HLok.out rfl)
  obtain ⟨na, hna⟩ : ∃ na, ((tagF 0 (IFS.zip l)).map Prod.snd).length = na := ⟨_, rfl⟩
  have hown := hus.own
  rw [hna] at hown
  obtain ⟨AA, cA, rfl, _, _⟩ := hown.isSlice
  have HUS := hide hus
  have Hna := hide hna
  have Hsl := hide hown.sl
  obtain ⟨f, hf⟩ : ∃ f : Int, (if m' = 0 then 7 else 0) = f := ⟨_, rfl⟩
  simp only [hf] at HPk
  have Hf := hide hf
  clear hus hown hna hf HPok HPbad
  have hnl : na ≤ 100000 := by
    have h := flat_lenU IFS l
    rw [← Hna.out, tagF_snd]
    omega
  go_upto_region 33 with (go_at_call 26; refine (hen _ (hk4V.trans' hk5)).mono ?_; rintro e w6 ⟨⟨AE, ne, rfl, hse⟩, hk6⟩)
  have hCB6 := heap_kept ((hk4V.trans' hk5).trans' hk6) HCB.out
  have g0 := cell_heap hCB6 (o := 0) rfl; have g1 := cell_heap hCB6 (o := 1) rfl; have g2 := cell_heap hCB6 (o := 2) rfl; have g3 := cell_heap hCB6 (o := 3) rfl; have g4 := cell_heap hCB6 (o := 4) rfl; have g5 := cell_heap hCB6 (o := 5) rfl; have g6 := cell_heap hCB6 (o := 6) rfl; have g7 := cell_heap hCB6 (o := 7) rfl
  have lC6 := heap_lt hCB6
  have hkV6 := (hk4V.trans' hk5).trans' hk6
  have Hse := hide hse
  clear hCB6 hse f0 f1 f2 f3 f4 f5 f6 f7 lC5
  go_upto_region 34 with (first
    | (go_at_call 27; refine (hfi _ hkV6).mono ?_; rintro e w7 ⟨hfp, hk7⟩; have hfe := (HPk.out _ hfp).1; clear hfp; subst hfe)
    | (refine wpList_store_row rfl 59 (.tmp 20) (.tmp 145) rfl w7.heap.size #[.int .u8 F.num, .bool F.inn, .int .u8 F.kind, .int .u16 F.max, .int .u8 F.ivl] (by rfl) (by rfl) 59 _ (heap_at _ rfl) (by kernel_rfl) (by rfl) (by simp [Value.oneCell']) ?_))
  refine wp_at (fun Y => Y.heap[w7.heap.size]? = some (.cells #[.int .u8 F.num, .bool F.inn, .int .u8 F.kind, .int .u16 F.max, .int .u8 F.ivl] 59 (0, 0)) ∧ Kept w7 Y) ⟨heap_row (heap_at _ rfl), by first | exact below_row ((Below.refl _ _).alloc (Nat.le_refl _) _) (Nat.le_refl _) _ | go_grown⟩ (fun Y hY => ?_)
  obtain ⟨hPB, hkY⟩ := hY
  obtain ⟨PB, hPBd⟩ : ∃ PB, w7.heap.size = PB := ⟨_, rfl⟩
  rw [hPBd] at hPB
  simp only [hPBd]
  have p0 := cell_heap hPB (o := 0) rfl; have p1 := cell_heap hPB (o := 1) rfl; have p2 := cell_heap hPB (o := 2) rfl; have p3 := cell_heap hPB (o := 3) rfl; have p4 := cell_heap hPB (o := 4) rfl
  have lP := heap_lt hPB
  have hkwY : Kept w Y := (((HkwV.out.trans' hkV6).trans' hk7).trans' hkY)
  have hk5Y : Kept w5 Y := (hk6.trans' hk7).trans' hkY
  have hk6Y : Kept w6 Y := hk7.trans' hkY
  clear g0 g1 g2 g3 g4 g5 g6 g7 lC6 hkV6 hk6 hk7 hkY hPBd
  have hne : ne = na := by rw [← Hna.out, ← Hel.out]; exact Hse.out.1.symm
  subst hne
  have hse2 : Sl epT Y (low Y.heap.size) AE ne ((tagF 0 (IFS.zip l)).map Prod.snd) := by
    have h := Hse.out
    rw [Hel.out] at h
    exact (h.keep (fun b hb => hb.2) (fun _ _ _ => rfl) : Sl epT w6 (low w6.heap.size) AE ne _).kept hk6Y
  have hsl2 := Hsl.out.kept hk5Y
  have hFB2 := heap_kept hk5Y HUS.out.fb
  have q0 := cell_heap hFB2 (o := 0) rfl; have q1 := cell_heap hFB2 (o := 1) rfl; have q2 := cell_heap hFB2 (o := 2) rfl; have q3 := cell_heap hFB2 (o := 3) rfl; have q4 := cell_heap hFB2 (o := 4) rfl
  have lF := heap_lt hFB2
  have Hse2 := hide hse2
  have Hsl2 := hide hsl2
  clear hse2 hsl2 hen hfi
  have hq0 := fun w => eqlEp F F w
  simp only [sameEp_refl] at hq0
  unfold EpD.cells at hq0
  have hkwY2 := hkwY
  have HkwY := hide hkwY
  have HPB2 := hide hPB
  have HFB2 := hide hFB2
  clear hPB hFB2 hkwY2 hkwY hk5Y hk6Y hk5 hk4V
  have hm2 : (m' : Int) ≤ 1 := by omega
  have hnn : ((ne : Int) == (ne : Int)) = true := by simp
  go_upto_region 38 with (fail)
  refine use_cmp Hsl2.out Hse2.out hnl _ _ ?_ ?_
  · assumption
  intro s6 s23 s195 s196 s197 s198 s199 s200 s201 s202 s203 s204 s205 s206 s207 s208 s209 w9 hk9
  have hP9 := heap_kept hk9 HPB2.out
  have hF9 := heap_kept hk9 HFB2.out
  clear p0 p1 p2 p3 p4 q0 q1 q2 q3 q4 lP lF hnn
  have p0 := cell_heap hP9 (o := 0) rfl; have p1 := cell_heap hP9 (o := 1) rfl; have p2 := cell_heap hP9 (o := 2) rfl; have p3 := cell_heap hP9 (o := 3) rfl; have p4 := cell_heap hP9 (o := 4) rfl
  have q0 : w9.cell? ⟨FB, 0, none⟩ = some (.int .u8 F.num) := cell_heap hF9 (o := 0) rfl; have q1 : w9.cell? ⟨FB, 1, none⟩ = some (.bool F.inn) := cell_heap hF9 (o := 1) rfl; have q2 : w9.cell? ⟨FB, 2, none⟩ = some (.int .u8 F.kind) := cell_heap hF9 (o := 2) rfl; have q3 : w9.cell? ⟨FB, 3, none⟩ = some (.int .u16 F.max) := cell_heap hF9 (o := 3) rfl; have q4 : w9.cell? ⟨FB, 4, none⟩ = some (.int .u8 F.ivl) := cell_heap hF9 (o := 4) rfl
  have lP := heap_lt hP9
  have lF := heap_lt hF9
  have hkw9 := HkwY.out.trans' hk9
  clear hP9 hF9
  by_cases hm0 : m' = 0
  case pos =>
    subst hm0
    obtain ⟨hF0, ho0⟩ := HUS.out.fnd.zero
    have hf7 : f = 7 := Hf.out.symm.trans (if_pos rfl)
    subst hF0 ho0 hf7
    dsimp only [ep0] at p0 p1 p2 p3 p4 hq0
    clear q0 q1 q2 q3 q4 lF HUS HPk
    go_wp2_with (go_at_call 13; refine (hlv _ hkw9).mono ?_; rintro e w8 ⟨rfl, hk8⟩)
    go_ret
    exact ⟨rfl, hkw9.trans' hk8⟩
  case neg =>
    have hm4 : ¬ (m' : Int) = 0 := by omega
    have hm5 : ((m' : Int) == 0) = false := by simpa using hm4
    have hf0 : f = 0 := Hf.out.symm.trans (if_neg hm0)
    subst hf0
    have hoo : ((o : Int) == (o : Int)) = true := by simp
    clear hm0 Hf HPk
    go_wp2_with (go_at_call 13; refine (hlv _ hkw9).mono ?_; rintro e w8 ⟨rfl, hk8⟩)
    go_ret
    exact ⟨rfl, hkw9.trans' hk8⟩
end Go.Proofs.YtjgncofhobhjdaaDoor
