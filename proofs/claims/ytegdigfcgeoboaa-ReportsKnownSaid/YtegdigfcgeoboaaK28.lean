/- The law of the chapter on reports, part 28: Zc Lb. -/
import Derived.Test.YtegdigfcgeoboaaK27
set_option maxHeartbeats 16000000
set_option linter.unusedVariables false
set_option linter.unusedSimpArgs false
set_option linter.unusedSectionVars false
namespace Go.Proofs.Ytegdigfcgeoboaa
open Go.RowKit
attribute [local go_sem ↓] Go.wp_at_zero Go.wp_at_succ
def lastN (L : List Int) : Nat → Int
 | 0 => -1
 | i + 1 => L.getD i 0
theorem lastN_lt {L : List Int} {l : List Fd} {k r : Int} {i : Nat} (h : NumsIs l k L) (hl : ∀ f ∈ l, 0 ≤ f.report) (hr : L[i]? = some r) : lastN L i < r ∧ -1 ≤ lastN L i := by
 cases i with
 | zero =>
  obtain ⟨f, hf, _, e⟩ := (h.2 r).1 (List.mem_of_getElem? hr)
  have := hl f hf
  show (-1 : Int) < r ∧ (-1 : Int) ≤ -1
  omega
 | succ i =>
  obtain ⟨h1, h2⟩ := List.getElem?_eq_some_iff.1 hr
  have h3 := List.pairwise_iff_getElem.1 h.1 i (i + 1) (by omega) h1 (by omega)
  have h4 : L.getD i 0 = L[i]'(by omega) := by rw [List.getD_eq_getElem?_getD, List.getElem?_eq_getElem (by omega)]; rfl
  obtain ⟨f, hf, _, e⟩ := (h.2 (L[i]'(by omega))).1 (List.getElem_mem _)
  have := hl f hf
  show L.getD i 0 < r ∧ -1 ≤ L.getD i 0
  rw [h4]
  omega
set_option maxRecDepth 1000000 in
theorem told_law (x : PD) (A : Option Addr) (cap : Nat) (way : Int) (w : World) (hx : PdIs w x A cap) (hok : ∀ f ∈ x.fields, f.ok) (hway : u8k way) :
  Calls Try.prog 6 #[.agg #[.bool x.numbers, .slice A x.fields.length cap], .int .u8 way] w fun e w' => e = .returned (.bool true) ∧ Kept w w' := by
 have hT := told_is hok way
 have hdi := fun w2 (hk : Kept w w2) => ditems_any x A cap way w2 (hx.kept hk) hok hway
 have hdm := fun w2 (hk : Kept w w2) => dmap_any x A cap w2 (hx.kept hk) hok
 obtain ⟨its, hits⟩ : ∃ l, itemsS way x = l := ⟨_, rfl⟩
 obtain ⟨SF, hSF⟩ : ∃ s, stM x (lenD x) = s := ⟨_, rfl⟩
 obtain ⟨t1, t2, t3, t4, t5, t6, t7, t8, t9, t10, t11⟩ := hT
 rw [hits] at t1 t2 t3 t4 t5 t6 t7
 rw [hSF] at t3 t4 t8 t9 t10 t11
 rw [hits] at hdi
 rw [hSF] at hdm
 obtain ⟨NM, hNM⟩ : ∃ b, (x.numbers && decide (0 < lenD x)) = b := ⟨_, rfl⟩
 rw [hNM] at t5 hdm
 have hnm : ∀ f ∈ SF.fields, NM = x.numbers := fun f hf => by rw [← hNM, decide_eq_true (t11 f hf), Bool.and_true]
 obtain ⟨jb, hjb⟩ : ∃ l, joinB its = l := ⟨_, rfl⟩
 rw [hjb] at t2 t3 t4 t5 t6
 obtain ⟨n, hn⟩ : ∃ n, x.fields.length = n := ⟨_, rfl⟩
 obtain ⟨nb, hnb⟩ : ∃ b, x.numbers = b := ⟨_, rfl⟩
 rw [hn, hnb] at hdi hdm ⊢
 rw [hnb] at hnm
 obtain ⟨fl, hfl⟩ : ∃ l, SF.fields = l := ⟨_, rfl⟩
 obtain ⟨cl, hcl⟩ : ∃ l, SF.colls = l := ⟨_, rfl⟩
 rw [hfl] at t3 t8 t10 hdm hnm
 rw [hcl] at t4 t9 hdm
 obtain ⟨q, hq⟩ : ∃ q, its.length = q := ⟨_, rfl⟩
 obtain ⟨fn, hfn⟩ : ∃ q, fl.length = q := ⟨_, rfl⟩
 obtain ⟨cn, hcn⟩ : ∃ q, cl.length = q := ⟨_, rfl⟩
 rw [hq] at hdi t7
 rw [hfn, hcn] at hdm
 rw [hcn] at t9
 have hit : ∀ w2, Kept w w2 → Calls Try.prog 18 #[.agg #[.bool nb, .slice A n cap], .int .u8 way] w2 fun e w' => ∃ A' c', e = .returned (.slice A' q c') ∧ Sl itT w' (low w'.heap.size) A' q its ∧ Kept w2 w' := fun w2 hk => (hdi w2 hk).mono fun e w' h => by
  obtain ⟨⟨A', c', h1, h2⟩, h3⟩ := h
  exact ⟨A', c', h1, h2.sl, h3⟩
 have hjo : ∀ w2 (A' : Option Addr) (c' : Nat), Sl itT w2 (low w2.heap.size) A' q its → Calls Try.prog 11 #[.slice A' q c'] w2 fun e w' => ∃ A2 L, e = .returned (.tuple #[.slice A2 L L, .int .i64 0]) ∧ Sl u8T w' (low w'.heap.size) A2 L jb ∧ L ≤ 4000 ∧ Kept w2 w' := fun w2 A' c' hs =>
  (join_any A' q c' its w2 (by omega) hs).mono fun e w'' h => by
   rcases h with ⟨h, _⟩ | ⟨_, A2, h1, h2, h3⟩
   ·exact absurd t1 h
   ·rw [hjb] at h1 h2
    exact ⟨A2, _, h1, h2.keep (fun g hg => hg.2) (fun _ _ _ => rfl), t6, h3⟩
 have hpa : ∀ w2 (A' : Option Addr) (L : Nat), L ≤ 4000 → Sl u8T w2 (low w2.heap.size) A' L jb → Calls Try.prog 14 #[.slice A' L L] w2 fun e w' => ∃ Ag Ad, e = .returned (.tuple #[.agg #[.slice Ag fn fn, .slice Ad cn cn, .bool NM], .int .i64 0]) ∧ Sl fdT w' (low w'.heap.size) Ag fn fl ∧ Sl coT w' (low w'.heap.size) Ad cn cl ∧ Kept w2 w' := fun w2 A' L hL hs => by
  have h := parse_any A' L L jb w2 (Nat.le_refl _) (by unfold maxLen; omega) hs
  refine h.mono fun e w' ⟨hk, h⟩ => ?_
  rcases h with ⟨h, _⟩ | ⟨_, Ag, Ad, h1, h2, h3⟩
  ·exact absurd t2 h
  ·rw [t3, t4, hfn, hcn, t5] at h1
   rw [t3, hfn] at h2
   rw [t4, hcn] at h3
   exact ⟨Ag, Ad, h1, h2, h3, hk⟩
 have hma : ∀ w2, Kept w w2 → Calls Try.prog 19 #[.agg #[.bool nb, .slice A n cap]] w2 fun e w' => ∃ Af cf Ac cc, e = .returned (.agg #[.slice Af fn cf, .slice Ac cn cc, .bool NM]) ∧ Sl fdM w' (low w'.heap.size) Af fn fl ∧ Sl coT w' (low w'.heap.size) Ac cn cl ∧ Kept w2 w' := fun w2 hk => (hdm w2 hk).mono fun e w' h => by
  obtain ⟨⟨Af, cf, Ac, cc, h1, h2, h3, _⟩, h4⟩ := h
  exact ⟨Af, cf, Ac, cc, h1, h2, h3, h4⟩
 have hf256 := t8.1
 rw [hfn] at hf256
 have hrep0 : ∀ f ∈ fl, 0 ≤ f.report := fun f hf => (t10 f hf).1
 have Hsz := hide t8
 have Hrep := hide t10
 have Hrep0 := hide hrep0
 have Hnm := hide hnm
 have Hit := hide hit
 have Hjo := hide hjo
 have Hpa := hide hpa
 have Hma := hide hma
 clear hit hjo hpa hma t1 t2 t3 t4 t5 t6 t7 t8 t10 t11 hits hSF hNM hnm hjb hn hnb hfl hcl hq hfn hcn hdi hdm hx hok hway hrep0
 go_enter Try.func6, Try.ntmps6
 go_upto_region 1 with fail
 refine wp_at (fun W => W.heap[w.heap.size]? = some (.cells #[.bool nb, .slice A n cap] 52 (0, 0)) ∧ Kept w W) ⟨heap_at _ rfl, by go_grown⟩ (fun W hW => ?_)
 obtain ⟨hD, hkW⟩ := hW
 obtain ⟨DB, hDB⟩ : ∃ b, w.heap.size = b := ⟨_, rfl⟩
 rw [hDB] at hD
 simp only [hDB]
 clear hDB
 have d0 : W.cell? ⟨DB, 0, none⟩ = some (.bool nb) := cell_heap hD (o := 0) rfl
 have d1 : W.cell? ⟨DB, 1, none⟩ = some (.slice A n cap) := cell_heap hD (o := 1) rfl
 have lD := heap_lt hD
 have HD := hide hD
 clear hD
 go_upto_region 2 with (first
  | (go_at_call 11; have hg0 := hk1; refine (Hjo.out _ _ _ hs1).mono ?_; rintro e w2 ⟨A2, L2, rfl, hs2, hL2, hk2⟩; try dsimp only)
  | (go_at_call 18; refine (Hit.out _ hkW).mono ?_; rintro e w1 ⟨A1, c1, rfl, hs1, hk1⟩; try dsimp only))
 have Hs2 := hide hs2
 clear hs1 hs2 d0 d1
 go_upto_region 3 with (go_at_call 14; refine (Hpa.out _ _ _ hL2 Hs2.out).mono ?_; rintro e w3 ⟨Ag, Ad, rfl, hF2, hC2, hk3⟩; try dsimp only)
 have hD3 := heap_kept ((hk1.trans' hk2).trans' hk3) HD.out
 refine wp_at (fun V => ∃ B7, V.heap[B7]? = some (.cells #[.slice Ag fn fn, .slice Ad cn cn, .bool NM] 40 (0, 0)) ∧ B7 = w3.heap.size ∧ Kept w3 V) ⟨_, heap_at _ rfl, rfl, by go_grown⟩ (fun V hV => ?_)
 obtain ⟨B7, hB7, hB7d, hkV⟩ := hV
 rw [← hB7d]
 have hDV := heap_kept hkV hD3
 have d0 : V.cell? ⟨DB, 0, none⟩ = some (.bool nb) := cell_heap hDV (o := 0) rfl
 have d1 : V.cell? ⟨DB, 1, none⟩ = some (.slice A n cap) := cell_heap hDV (o := 1) rfl
 have lDV := heap_lt hDV
 have hkwV : Kept w V := (((hkW.trans' hk1).trans' hk2).trans' hk3).trans' hkV
 have HFV := hide (hF2.kept hkV)
 have HCV := hide (hC2.kept hkV)
 have HDV := hide hDV
 have HB7 := hide hB7
 clear hF2 hC2 hDV hD3 hB7 hB7d hkV hk1 hk2 hk3 lD hkW
 go_upto_region 4 with (go_at_call 19; refine (Hma.out _ hkwV).mono ?_; rintro e w4 ⟨Af, cf, Ac, cc, rfl, hF4, hC4, hk4⟩; try dsimp only)
 refine wp_at (fun U => ∃ B9, U.heap[B9]? = some (.cells #[.slice Af fn cf, .slice Ac cn cc, .bool NM] 40 (0, 0)) ∧ B9 = w4.heap.size ∧ Kept w4 U) ⟨_, heap_at _ rfl, rfl, by go_grown⟩ (fun U hU => ?_)
 obtain ⟨B9, hB9, hB9d, hkU⟩ := hU
 rw [← hB9d]
 have hkVU := hk4.trans' hkU
 have hB7U := heap_kept hkVU HB7.out
 have a0 : U.cell? ⟨B7, 0, none⟩ = some (.slice Ag fn fn) := cell_heap hB7U (o := 0) rfl
 have a1 : U.cell? ⟨B7, 1, none⟩ = some (.slice Ad cn cn) := cell_heap hB7U (o := 1) rfl
 have a2 : U.cell? ⟨B7, 2, none⟩ = some (.bool NM) := cell_heap hB7U (o := 2) rfl
 have al := heap_lt hB7U
 have b0 : U.cell? ⟨B9, 0, none⟩ = some (.slice Af fn cf) := cell_heap hB9 (o := 0) rfl
 have b1 : U.cell? ⟨B9, 1, none⟩ = some (.slice Ac cn cc) := cell_heap hB9 (o := 1) rfl
 have b2 : U.cell? ⟨B9, 2, none⟩ = some (.bool NM) := cell_heap hB9 (o := 2) rfl
 have bl := heap_lt hB9
 have hFU := HFV.out.kept hkVU
 have hCU := HCV.out.kept hkVU
 have hGU := hF4.kept hkU
 have hHU := hC4.kept hkU
 have hDU := heap_kept hkVU HDV.out
 have hkwU := hkwV.trans' hkVU
 have hun := unlike_eq Ag Af Ad Ac fn fn cf cn cn cc NM fl cl U hf256 t9 (sl_fdM hFU) hGU hCU hHU
 have HFU := hide hFU
 have HGU := hide hGU
 have HDU := hide hDU
 have HB7U := hide hB7U
 have HB9 := hide hB9
 have HkwU := hide hkwU
 clear hFU hGU hCU hHU hDU hB7U hB9 hB9d hkU hk4 hkVU hF4 hC4 d0 d1 lDV hkwV HFV HCV HDV HB7 hkwU
 go_upto_region 6 with (go_at_call 15; refine hun.mono ?_; rintro e w5 ⟨rfl, hk5⟩; try dsimp only)
 refine wp_at (fun Z => Kept U Z) (by first | exact hk5 | exact below_drewN hk5 _ | go_grown) (fun Z hZ => ?_)
 have HFZ := hide (HFU.out.kept hZ)
 have HGZ := hide (HGU.out.kept hZ)
 have HDZ := hide (heap_kept hZ HDU.out)
 have HB7Z := hide (heap_kept hZ HB7U.out)
 have HB9Z := hide (heap_kept hZ HB9.out)
 have HkwZ := hide (HkwU.out.trans' hZ)
 clear hZ hk5 HFU HGU HDU HB7U HB9 HkwU hun a0 a1 a2 al b0 b1 b2 bl
 go_wp2_with fail
 go_loopg [10] 3 (fun g' tM wr => ∃ k : Int, k + g' = 4 ∧ 1 ≤ k ∧ tM = .int .i64 k ∧ Kept Z wr)
 case atStart => exact ⟨1, by omega, by omega, rfl, Below.refl _ _⟩
 case round =>
  obtain ⟨k, hk, hk1, rfl, hkr⟩ := hrel
  have Hk := hide hk
  clear hk
  have hB7r := heap_kept hkr HB7Z.out
  have a0 : wr.cell? ⟨B7, 0, none⟩ = some (.slice Ag fn fn) := cell_heap hB7r (o := 0) rfl
  have a1 : wr.cell? ⟨B7, 1, none⟩ = some (.slice Ad cn cn) := cell_heap hB7r (o := 1) rfl
  have a2 : wr.cell? ⟨B7, 2, none⟩ = some (.bool NM) := cell_heap hB7r (o := 2) rfl
  have al := heap_lt hB7r
  have HB7r := hide hB7r
  have Hkr := hide hkr
  clear hB7r hkr
  by_cases hk3 : k ≤ 3
  case neg =>
   have hkd : decide (k ≤ 3) = false := decide_eq_false hk3
   go_wp2_with (go_at_call 8; refine (lives_any _).mono ?_; rintro e w6 ⟨rfl, hk6⟩)
   go_ret
   exact ⟨rfl, (HkwZ.out.trans' Hkr.out).trans' hk6⟩
  case pos =>
   have hwk8 : IntKind.u8.wrap k = k := wrap8 (by omega) (by omega)
   have hwk : IntKind.i64.wrap (k + 1) = k + 1 := by rw [IntKind.wrap_i64]; omega
   have hnu := numbers20 Ag Ad fn fn cn cn NM fl k wr (by omega) Hrep.out (sl_fdM (HFZ.out.kept Hkr.out))
   go_upto_region 10 with (go_at_call 20; refine hnu.mono ?_; rintro e w6 ⟨⟨An, L, rfl, hLn, hLs⟩, hk6⟩; try dsimp only)
   obtain ⟨ln, hln⟩ : ∃ m, L.length = m := ⟨_, rfl⟩
   rw [hln] at hLs ⊢
   have hln4 : ln ≤ 4 := by
    rw [← hln]
    refine nodup_le [0, 1, 2, 3] L (hLn.1.imp (fun h => by omega)) (fun y hy => ?_)
    obtain ⟨f, hf, _, rfl⟩ := (hLn.2 y).1 hy
    have := Hrep.out f hf
    simp only [List.mem_cons, List.not_mem_nil, or_false]
    omega
   have HLn := hide hLn
   have HLs := hide hLs
   have Hln := hide hln
   have Hk6 := hide hk6
   clear hLn hLs hln hk6 hnu a0 a1 a2 al
   obtain ⟨wo, rfl⟩ : ∃ wo : World, wo = wr := ⟨_, rfl⟩
   obtain ⟨go, rfl⟩ : ∃ g : Nat, g = gk := ⟨_, rfl⟩
   go_wp2_with fail
   go_loopg [12, 13] ln (fun g' tN tO wr => ∃ i : Nat, i + g' = ln ∧ tN = .int .i64 (lastN L i) ∧ tO = .int .i64 (i : Int) ∧ Kept w6 wr)
   case atStart => exact ⟨0, by omega, rfl, rfl, Below.refl _ _⟩
   case round =>
    obtain ⟨i, hi, rfl, rfl, hki⟩ := hrel
    have Hi := hide hi
    have Hki := hide hki
    clear hi hki
    by_cases hil : i < ln
    case neg =>
     have hil' : ¬ (i : Int) < (ln : Int) := by omega
     go_wp2_with fail
     go_roundg (go - 1)
     case measure => have := Hk.out; omega
     case rel => exact ⟨k + 1, by have := Hk.out; omega, by omega, by first | rfl | go_num | (rw [hwk]), Hkr.out.trans' (Hk6.out.trans' Hki.out)⟩
    case pos =>
     obtain ⟨r, hr⟩ : ∃ r, L[i]? = some r := ⟨_, List.getElem?_eq_getElem (by rw [Hln.out]; exact hil)⟩
     have hsome := (HLn.out.2 r).1 (List.mem_of_getElem? hr)
     obtain ⟨hl1, hl2⟩ := lastN_lt HLn.out Hrep0.out hr
     have hpb := bits_pos Hsz.out hsome
     have hr03 : 0 ≤ r ∧ r ≤ 3 := by
      obtain ⟨f, hf, _, rfl⟩ := hsome
      exact Hrep.out f hf
     have hNM : NM = nb := by
      obtain ⟨f, hf, _, _⟩ := hsome
      exact Hnm.out f hf
     have hlv : lenS NM fl k r = (bitsS fl k r + 7) / 8 + if nb then 1 else 0 := (len_of hsome).trans (by rw [hNM])
     have hln1 : lastN L (i + 1) = r := by
      show L.getD i 0 = r
      rw [List.getD_eq_getElem?_getD, hr]; rfl
     obtain ⟨lz, hlz⟩ : ∃ z, lastN L i = z := ⟨_, rfl⟩
     rw [hlz] at hl1 hl2 ⊢
     have Hr := hide hr
     have Hsome := hide hsome
     have Hlv := hide hlv
     have Hln1 := hide hln1
     have hi0 : (0 : Int) ≤ (i : Int) := by omega
     have hil' : (i : Int) < (ln : Int) := by omega
     have hwi : IntKind.i64.wrap ((i : Int) + 1) = ((i + 1 : Nat) : Int) := by rw [IntKind.wrap_i64]; have := Hi.out; omega
     clear hr hsome hlv hln1 hlz hNM
     have hkZr := Hkr.out.trans' (Hk6.out.trans' Hki.out)
     go_upto_region 15 with fail
     refine z15 (r := r) (heap_kept hkZr HB9Z.out) (HGZ.out.kept hkZr) Hsz.out (HLs.out.kept Hki.out) Hr.out ⟨hk1, hk3⟩ _ _ _ ?_ ?_
     ·assumption
     intro tQ sJ sK sL sM sN sO sP sQ sR sS sT oD rL rM rN rO rP rQ rR rS rT rU rV rW sU sV sW sX sY sZ tA qZ rA rB rC rD rE rF rG rH rI rJ rK jI W' hk'
     obtain ⟨PB, hPB⟩ : ∃ z, bitsS fl k r = z := ⟨_, rfl⟩
     have hlv2 := Hlv.out
     rw [hPB] at hpb hlv2 ⊢
     obtain ⟨NB, hNB⟩ : ∃ z, (PB + 7) / 8 = z := ⟨_, rfl⟩
     rw [hNB] at hlv2
     have hnb1 : 1 ≤ NB ∧ NB ≤ 300000 := by omega
     obtain ⟨p1, p2⟩ := hpb
     obtain ⟨q1, q2⟩ := hnb1
     have hw7 : IntKind.i64.wrap (PB + 7) = PB + 7 := by rw [IntKind.wrap_i64]; omega
     have hdv : (PB + 7).tdiv 8 = NB := by rw [Int.tdiv_eq_ediv_of_nonneg (by omega), hNB]
     have hwn : IntKind.i64.wrap NB = NB := by rw [IntKind.wrap_i64]; omega
     have hwn1 : IntKind.i64.wrap (NB + 1) = NB + 1 := by rw [IntKind.wrap_i64]; omega
     have hkZ' := hkZr.trans' hk'
     have hDr := heap_kept hkZ' HDZ.out
     have hB7' := heap_kept hkZ' HB7Z.out
     have d0 : W'.cell? ⟨DB, 0, none⟩ = some (.bool nb) := cell_heap hDr (o := 0) rfl
     have lD := heap_lt hDr
     have a0 : W'.cell? ⟨B7, 0, none⟩ = some (.slice Ag fn fn) := cell_heap hB7' (o := 0) rfl
     have a1 : W'.cell? ⟨B7, 1, none⟩ = some (.slice Ad cn cn) := cell_heap hB7' (o := 1) rfl
     have a2 : W'.cell? ⟨B7, 2, none⟩ = some (.bool NM) := cell_heap hB7' (o := 2) rfl
     have al := heap_lt hB7'
     obtain ⟨r', rb, ro, rcs, hr', hAn, hrb, ⟨rfl, _⟩, hrc⟩ := (HLs.out.kept (Hki.out.trans' hk')).at hil
     obtain rfl : r = r' := by have h9 := Hr.out; rw [h9] at hr'; injection hr'
     subst hAn
     have rr : W'.cell? ⟨rb, ro + i, none⟩ = some (.int .u8 r) := by have := hrc 0 _ rfl; simpa [u8T, Ty.flat] using this
     have hrl : rb < W'.heap.size := hrb
     obtain ⟨r0, r3⟩ := hr03
     have hwr : IntKind.i64.wrap r = r := by rw [IntKind.wrap_i64]; omega
     have hle : decide (r ≤ lz) = false := decide_eq_false (by omega)
     have hle' : ¬ r ≤ lz := by omega
     have hpz : (PB == 0) = false := beq_false_of_ne (by omega)
     have hlen : ∀ w2, Kept W' w2 → Calls Try.prog 21 #[.agg #[.slice Ag fn fn, .slice Ad cn cn, .bool NM], .int .u8 k, .int .u8 r] w2 fun e w' => e = .returned (.int .i64 (lenS NM fl k r)) ∧ Kept w2 w' := fun w2 hk2 => length21 Ag Ad fn fn cn cn NM fl k r w2 Hsz.out (HFZ.out.kept (hkZ'.trans' hk2))
     rw [Hlv.out.trans (by rw [hPB, hNB])] at hlen
     have Hlen := hide hlen
     have Hk' := hide hk'
     clear hlv2 hPB hNB hkZr hkZ' hDr hB7' hrc hr' hlen hk' hrb
     refine (show ∀ (a : Act) (w : World), Code.wp Try.prog _ _ a w → _ from by assumption) _ _ ?_
     cases nb with
     | false =>
      simp only [Bool.false_eq_true, if_false, Int.add_zero] at Hlen
      go_upto_region 23 with fail
      go_region_held3 (fun w' => (∀ b o, b < W'.heap.size → w'.cell? ⟨b, o, none⟩ = W'.cell? ⟨b, o, none⟩) ∧ Below W'.heap.size W' w') (first | assumption | exact since_start | exact since_keep (by assumption) (Nat.le_refl _) hk) ((go_at_call 21; refine (Hlen.out _ (by exact (Below.refl _ _).drew)).mono ?_; rintro e w9 ⟨rfl, hk⟩; try dsimp only))
      obtain ⟨hH1, hH2⟩ := ‹(∀ (b o : Nat), b < W'.heap.size → w9.cell? ⟨b, o, none⟩ = W'.cell? ⟨b, o, none⟩) ∧ Below W'.heap.size W' w9›
      have rr9 : w9.cell? ⟨rb, ro + i, none⟩ = some (.int .u8 r) := (hH1 _ _ hrl).trans rr
      have hrl9 : rb < w9.heap.size := Nat.lt_of_lt_of_le hrl hH2.size
      have HH := hide (show Kept W' w9 from hH2)
      clear hH1 hH2 hk rr hrl a0 a1 a2 al d0 lD
      go_wp2_with fail
      go_roundg (gk - 1)
      case measure => have := Hi.out; omega
      case rel => exact ⟨i + 1, by have := Hi.out; omega, by rw [Hln1.out], by first | rfl | go_num | (rw [hwi]), Hki.out.trans' (Hk'.out.trans' HH.out)⟩
     | true =>
      simp only [if_true] at Hlen
      go_upto_region 23 with fail
      go_region_held3 (fun w' => (∀ b o, b < W'.heap.size → w'.cell? ⟨b, o, none⟩ = W'.cell? ⟨b, o, none⟩) ∧ Below W'.heap.size W' w') (first | assumption | exact since_start | exact since_keep (by assumption) (Nat.le_refl _) hk) ((go_at_call 21; refine (Hlen.out _ (by exact (Below.refl _ _).drew)).mono ?_; rintro e w9 ⟨rfl, hk⟩; try dsimp only))
      obtain ⟨hH1, hH2⟩ := ‹(∀ (b o : Nat), b < W'.heap.size → w9.cell? ⟨b, o, none⟩ = W'.cell? ⟨b, o, none⟩) ∧ Below W'.heap.size W' w9›
      have rr9 : w9.cell? ⟨rb, ro + i, none⟩ = some (.int .u8 r) := (hH1 _ _ hrl).trans rr
      have hrl9 : rb < w9.heap.size := Nat.lt_of_lt_of_le hrl hH2.size
      have HH := hide (show Kept W' w9 from hH2)
      clear hH1 hH2 hk rr hrl a0 a1 a2 al d0 lD
      go_wp2_with fail
      go_roundg (gk - 1)
      case measure => have := Hi.out; omega
      case rel => exact ⟨i + 1, by have := Hi.out; omega, by rw [Hln1.out], by first | rfl | go_num | (rw [hwi]), Hki.out.trans' (Hk'.out.trans' HH.out)⟩
variable {u0 u1 u2 u8 u9 gI kI gJ jY eG eH u16 eE eF dX dY dZ eA eB eC eD eI eJ eK eL eM eN u32 eO eP iN iO iP iQ iR fK iS iT iU iV iW iX gK gL gM gN gO gP gQ gR gS gT iY iZ jA jB jC jD jE u64 jF jG jH jJ jK jL jM jN jO jP jQ jR jZ kE kF kG kH jS jT jU jV jW jX kJ kK kM kN kO kP kQ kR kS kT kU kV aK aG aA aB aC aD aE aF aH aI aJ aL bC bD bE bF bG bH bI bJ bK bL aR aM aN aO aP aQ aS aT aU aV aW aX aY aZ bA bM bN bP bQ : Value}
noncomputable def code19 : Code := (Try.f5.body.bind (fromR 19)).getD .skip
noncomputable def codeL6 : Code := restC (restC (restC code19))
theorem all_len {n : Int} (hn : -1 ≤ n ∧ n ≤ 1) (i : Nat) : (allL n i).length ≤ 300 ∧ (partL n i).length ≤ 290 := by
 have h : (partL n i).length ≤ 290 := by
  unfold partL
  split <;> simp [repL_len] <;> omega
 refine ⟨?_, h⟩
 unfold allL
 rw [List.length_append, List.length_append]
 have h1 : headL.length = 3 := rfl
 have h2 : endL.length = 1 := rfl
 omega
theorem lim_facts {n : Int} (hn : -1 ≤ n ∧ n ≤ 1) {i : Nat} (hi : i < 5) : (∀ x ∈ allL n i, x.wide = true) ∧ (parseS (allL n i)).1 = if 0 < n then 3 else 0 := by
 have hw := wide_all ⟨i, hi⟩
 simp only [Bool.and_eq_true] at hw
 obtain ⟨⟨a, b⟩, c⟩ := hw
 rcases (by omega : n = -1 ∨ n = 0 ∨ n = 1) with rfl | rfl | rfl
 ·refine ⟨List.all_eq_true.1 a, ?_⟩
  rw [if_neg (by decide)]
  rcases (by omega : i = 0 ∨ i = 1 ∨ i = 2 ∨ i = 3 ∨ i = 4) with rfl | rfl | rfl | rfl | rfl
  ·exact lim0a
  ·exact lim1a
  ·exact lim2a
  ·exact lim3a
  ·exact lim4a
 ·refine ⟨List.all_eq_true.1 b, ?_⟩
  rw [if_neg (by decide)]
  rcases (by omega : i = 0 ∨ i = 1 ∨ i = 2 ∨ i = 3 ∨ i = 4) with rfl | rfl | rfl | rfl | rfl
  ·exact lim0b
  ·exact lim1b
  ·exact lim2b
  ·exact lim3b
  ·exact lim4b
 ·refine ⟨List.all_eq_true.1 c, ?_⟩
  rw [if_pos (by decide)]
  rcases (by omega : i = 0 ∨ i = 1 ∨ i = 2 ∨ i = 3 ∨ i = 4) with rfl | rfl | rfl | rfl | rfl
  ·exact lim0c
  ·exact lim1c
  ·exact lim2c
  ·exact lim3c
  ·exact lim4c
theorem lim_join {L : List It} (hok : ∀ x ∈ L, x.wide = true ∧ x.ok) (hl : L.length ≤ 300) : joinE L = 0 ∧ parseE (joinB L) = (parseS L).1 ∧ (joinB L).length ≤ 1500 := by
 have hj := joinB_len L hok
 have hij := items_join L hok
 have h1 : joinE L = 0 := by
  unfold joinE
  rw [if_pos (List.all_eq_true.2 fun x hx => (hok x hx).1), if_neg (by omega)]
 have h2 : itemsE (joinB L) = 0 := by
  unfold itemsE goodB
  rw [hij, if_neg (by omega), if_pos]
  rw [List.all_eq_true]
  intro x hx
  have := (wide_iff (hok x hx).1 (hok x hx).2).2.2.2.2
  rw [decide_eq_true_eq]; omega
 refine ⟨h1, ?_, by omega⟩
 unfold parseE
 rw [if_neg (by rw [h2]; simp), hij]
set_option maxRecDepth 1000000 in
theorem lim_6 {B : Nat} {w W : World} {P : Nat} {n : Int} {v0 v1 v2 v3 v4 v5 v6 : Value} (hn : -1 ≤ n ∧ n ≤ 1) (hk : Kept w W) (hPw : w.heap.size ≤ P) (hP : W.heap[P]? = some (.cells #[v0, v1, v2, v3, v4] 48 (0, 0)))
  (h5 : PartIs P B W v5 headL) (h6 : PartIs P B W v6 endL) (hPB : P < B) (hBW : B ≤ W.heap.size) (p0 : PartIs P B W v0 (partL n 0)) (p1 : PartIs P B W v1 (partL n 1)) (p2 : PartIs P B W v2 (partL n 2)) (p3 : PartIs P B W v3 (partL n 3)) (p4 : PartIs P B W v4 (partL n 4))
  (K K2 : Act → World → Prop) (hK : ∀ a w', Code.wp Try.prog (restC (headC codeL6)) (Exit.then K2 (bodyPost Try.prog Try.f5 fun e w' => e = .returned (.bool true) ∧ Kept w w')) a w' → K a w') (hK2 : ∀ a w', Code.wp Try.prog (restC codeL6) (bodyPost Try.prog Try.f5 fun e w' => e = .returned (.bool true) ∧ Kept w w') a w' → K2 a w') :
  Code.wp Try.prog (headC (headC codeL6)) (Exit.then K (Exit.then K2 (bodyPost Try.prog Try.f5 fun e w' => e = .returned (.bool true) ∧ Kept w w'))) ⟨#[u0, u1, u2, .int .i64 n, .bool (decide (0 < n)), v5, v6, .pointer (some ⟨P, 0, none⟩), u8, u9, gI, kI, gJ, jY, eG, eH, u16, eE, eF, dX, dY, dZ, eA, eB, eC, eD, eI, eJ, eK, eL, eM, eN, u32, eO, eP, iN, iO, iP, iQ, iR, fK, iS, iT, iU, iV, iW, iX, gK, gL, gM, gN, gO, gP, gQ, gR, gS, gT, iY, iZ, jA, jB, jC, jD, jE, u64, jF, jG, jH, jJ, jK, jL, jM, jN, jO, jP, jQ, jR, jZ, kE, kF, kG, kH, jS, jT, jU, jV, jW, jX, kJ, kK, kM, kN, kO, kP, kQ, kR, kS, kT, kU, kV, aK, aG, aA, aB, aC, aD, aE, aF, aH, aI, aJ, aL, bC, bD, bE, bF, bG, bH, bI, bJ, bK, bL, aR, aM, aN, aO, aP, aQ, aS, aT, aU, aV, aW, aX, aY, aZ, bA, bM, bN, bP, bQ], []⟩ W := by
 conv => arg 2; whnf
 conv at hK => enter [a, w', 1, 2]; whnf
 conv at hK2 => enter [a, w', 1, 2]; whnf
 dsimp only
 obtain ⟨i29, hi29, hz0, hz1, hz2⟩ := info_parts info29
 obtain ⟨vs, hvs⟩ : ∃ vs : Nat → Value, (∀ i, i < 5 → PartIs P B W (vs i) (partL n i)) ∧ (∀ i, i < 5 → W.cell? ⟨P, i, none⟩ = some (vs i)) := by
  refine ⟨fun i => match i with | 0 => v0 | 1 => v1 | 2 => v2 | 3 => v3 | _ => v4, fun i hi => ?_, fun i hi => ?_⟩
  ·rcases (by omega : i = 0 ∨ i = 1 ∨ i = 2 ∨ i = 3 ∨ i = 4) with rfl | rfl | rfl | rfl | rfl
   ·exact p0
   ·exact p1
   ·exact p2
   ·exact p3
   ·exact p4
  ·rcases (by omega : i = 0 ∨ i = 1 ∨ i = 2 ∨ i = 3 ∨ i = 4) with rfl | rfl | rfl | rfl | rfl <;> exact cell_heap hP rfl
 obtain ⟨hvp, hvc⟩ := hvs
 have Hn := hide hn
 have Hk := hide hk
 have Hvp := hide hvp
 have Hvc := hide hvc
 have hPl := heap_lt hP
 obtain ⟨A5, c5, rfl, _, _, hs5⟩ := h5
 obtain ⟨A6, c6, rfl, _, _, hs6⟩ := h6
 have Hs5 := hide hs5
 have Hs6 := hide hs6
 obtain ⟨ov, hov⟩ : ∃ ov, decide (0 < n) = ov := ⟨_, rfl⟩
 rw [hov]
 have Hov := hide hov
 have hh3 : headL.length = 3 := rfl
 have hh1 : endL.length = 1 := rfl
 clear hn hk hvp hvc hP p0 p1 p2 p3 p4 hs5 hs6 hov
 rw [hh3, hh1]
 clear hh3 hh1
 go_wp2_with fail
 go_loopg [13] 5 (fun g tO wr => ∃ i : Nat, i + g = 5 ∧ tO = .int .i64 i ∧ Kept W wr)
 case atStart => exact ⟨0, by omega, rfl, Below.refl _ _⟩
 case round =>
  obtain ⟨i, hi, rfl, hkr⟩ := hrel
  have Hi := hide hi
  clear hi
  have hkz := hkr.size
  by_cases hlt : i < 5
  ·have hi0 : (0 : Int) ≤ (i : Int) := by omega
   have hi5 : (i : Int) < 5 := by omega
   obtain ⟨Ap, cp, hvi, _, _, hsp⟩ := Hvp.out i hlt
   have hci := Hvc.out i hlt
   rw [hvi] at hci
   have hcr : wr.cell? ⟨P, i, none⟩ = some (.slice Ap (partL n i).length cp) := (hkr.cell (p := ⟨P, i, none⟩) hPl).trans hci
   have hPr : P < wr.heap.size := by omega
   have hlen := all_len Hn.out i
   have hfacts := lim_facts Hn.out hlt
   have hsH : Sl itT wr (low wr.heap.size) A5 3 headL := Hs5.out.keep (fun b hb => show b < wr.heap.size by omega) (fun b o hb => hkr.cell (p := ⟨b, o, none⟩) (by show b < _; omega))
   have hsE : Sl itT wr (low wr.heap.size) A6 1 endL := Hs6.out.keep (fun b hb => show b < wr.heap.size by omega) (fun b o hb => hkr.cell (p := ⟨b, o, none⟩) (by show b < _; omega))
   have hsP : Sl itT wr (low wr.heap.size) Ap (partL n i).length (partL n i) := hsp.keep (fun b hb => show b < wr.heap.size by omega) (fun b o hb => hkr.cell (p := ⟨b, o, none⟩) (by show b < _; omega))
   obtain ⟨L, hL⟩ : ∃ L, allL n i = L := ⟨_, rfl⟩
   have hLe : ([] ++ headL ++ partL n i ++ endL : List It) = L := by rw [List.nil_append]; exact hL
   rw [hL] at hlen hfacts
   obtain ⟨np, hnp⟩ : ∃ np, (partL n i).length = np := ⟨_, rfl⟩
   rw [hnp] at hcr hsP hlen
   have hLl : L.length = 3 + np + 1 := by rw [← hLe]; simp [hnp]; rfl
   have HLe := hide hLe
   have Hfacts := hide hfacts
   have HLl := hide hLl
   obtain ⟨hL1, hL2⟩ := hlen
   clear hci hvi hL hLe hfacts hsp hnp hLl hL1
   go_wp2_with fail
   refine wp_region_held_drew (S := fun w' => (∀ b o, b < wr.heap.size → w'.cell? ⟨b, o, none⟩ = wr.cell? ⟨b, o, none⟩) ∧ Below wr.heap.size wr w') (by kernel_rfl) since_start (fun hS => ?_)
   refine tk0 (i := 1) (v := ?_) rfl (by kernel_rfl) hS ?_ ?_
   rotate_left
   ·intro w' hq hq2; first | (go_simp; done) | (go_simp; with_reducible rfl)
   try simp only [Act.put, zp1, zp2, zp3, zp4, zp5, zp6]
   refine tk0 (i := 3) (v := ?_) rfl (by kernel_rfl) hS ?_ ?_
   rotate_left
   ·intro w' hq hq2; first | (go_simp; done) | (go_simp; with_reducible rfl)
   try simp only [Act.put, zp1, zp2, zp3, zp4, zp5, zp6]
   refine tk0 (i := 4) (v := ?_) rfl (by kernel_rfl) hS ?_ ?_
   rotate_left
   ·intro w' hq hq2; first | (go_simp; done) | (go_simp; with_reducible rfl)
   try simp only [Act.put, zp1, zp2, zp3, zp4, zp5, zp6]
   refine tk0 (i := 5) (v := ?_) rfl (by kernel_rfl) hS ?_ ?_
   rotate_left
   ·intro w' hq hq2; first | (go_simp; done) | (go_simp; with_reducible rfl)
   try simp only [Act.put, zp1, zp2, zp3, zp4, zp5, zp6]
   refine tk0 (i := 7) (v := ?_) rfl (by kernel_rfl) hS ?_ ?_
   rotate_left
   ·intro w' hq hq2; first | (go_simp; done) | (go_simp; with_reducible rfl)
   try simp only [Act.put, zp1, zp2, zp3, zp4, zp5, zp6]
   refine wpAnyH_ready (rs := [0]) (by kernel_rfl) (by simp) ?_
   refine (AllReadyH.cons rfl (fun K hK => ?_) AllReadyH.nil)
   go_simp
   try dsimp only
   refine hK.out _ _ ?_ (fun hS => ?_)
   ·exact ⟨fun b o hb => ((of_drew' ((Below.refl wr.heap.size wr).alloc (Nat.le_refl _) _)).cell (p := ⟨b, o, none⟩) hb), of_drew' ((Below.refl wr.heap.size wr).alloc (Nat.le_refl _) _)⟩
   clear hK K
   try simp only [Act.put, zp1, zp2, zp3, zp4, zp5, zp6]
   have hown0 : Own itT 29 wr.heap.size (wr.alloc (.cells #[] 29)).drew (.slice (some ⟨wr.heap.size, 0, none⟩) 0 0) 0 [] := Own.lit0 itT 29 _ (Nat.le_refl _) (heap_drew (heap_at _ rfl))
   refine wpAnyH_ready (rs := [2]) (by kernel_rfl) (by simp) ?_
   refine (AllReadyH.cons rfl (fun K hK => ?_) AllReadyH.nil)
   have hjq1 := hS.2
   refine step_append_sl (T := itT) rfl (.tmp 113) (.tmp 114) 22 rfl wr.heap.size 29 i29 _ 24 Try.underlying22 hi29 hz0 hz1 hz2 rfl (show 0 < 4 by decide) _ 0 [] (by rfl) hown0 A5 3 c5 headL (by rfl) (sl_apart hsH hS (Nat.le_refl _) (fun g hg => (hown0.lt hg).1)) (by_one29 _ _) (by unfold maxLen; omega) (by omega) (hjq1.size) ?_
   intro uq1 xq1 hownq1 hgq1 hbq1 hatq1
   have hmq1 : Below wr.heap.size wr xq1 := hjq1.trans hbq1
   refine hK.out _ _ ?_ (fun hS => ?_)
   ·exact ⟨(bcell hmq1).1, hmq1⟩
   clear hK K
   try simp only [Act.put, zp1, zp2, zp3, zp4, zp5, zp6]
   refine wpAnyH_ready (rs := [6]) (by kernel_rfl) (by simp) ?_
   refine (AllReadyH.cons rfl (fun K hK => ?_) AllReadyH.nil)
   have hjq2 := hS.2
   refine step_append_sl (T := itT) rfl (.tmp 115) (.tmp 118) 22 rfl wr.heap.size 29 i29 _ 24 Try.underlying22 hi29 hz0 hz1 hz2 rfl (show 0 < 4 by decide) _ (0 + 3) ([] ++ headL) (by rfl) hownq1 Ap np cp (partL n i) (by rfl) (sl_apart hsP hS (Nat.le_refl _) (fun g hg => (hownq1.lt hg).1)) (by_one29 _ _) (by unfold maxLen; omega) (by omega) (hjq2.size) ?_
   intro uq2 xq2 hownq2 hgq2 hbq2 hatq2
   have hmq2 : Below wr.heap.size wr xq2 := hjq2.trans hbq2
   refine hK.out _ _ ?_ (fun hS => ?_)
   ·exact ⟨(bcell hmq2).1, hmq2⟩
   clear hK K
   try simp only [Act.put, zp1, zp2, zp3, zp4, zp5, zp6]
   refine wpAnyH_ready (rs := [8]) (by kernel_rfl) (by simp) ?_
   refine (AllReadyH.cons rfl (fun K hK => ?_) AllReadyH.nil)
   have hjq3 := hS.2
   refine step_append_sl (T := itT) rfl (.tmp 119) (.tmp 120) 22 rfl wr.heap.size 29 i29 _ 24 Try.underlying22 hi29 hz0 hz1 hz2 rfl (show 0 < 4 by decide) _ (0 + 3 + np) ([] ++ headL ++ partL n i) (by rfl) hownq2 A6 1 c6 endL (by rfl) (sl_apart hsE hS (Nat.le_refl _) (fun g hg => (hownq2.lt hg).1)) (by_one29 _ _) (by unfold maxLen; omega) (by omega) (hjq3.size) ?_
   intro uq3 xq3 hownq3 hgq3 hbq3 hatq3
   have hmq3 : Below wr.heap.size wr xq3 := hjq3.trans hbq3
   refine hK.out _ _ ?_ (fun hS => ?_)
   ·exact ⟨(bcell hmq3).1, hmq3⟩
   clear hK K
   try simp only [Act.put, zp1, zp2, zp3, zp4, zp5, zp6]
   refine tk0 (i := 9) (v := ?_) rfl (by kernel_rfl) hS ?_ ?_
   rotate_left
   ·intro w' hq hq2; first | (go_simp; done) | (go_simp; with_reducible rfl)
   try simp only [Act.put, zp1, zp2, zp3, zp4, zp5, zp6]
   refine wpAnyH_done (by kernel_rfl) ?_ _
   clear hS
   obtain ⟨NL, hNL⟩ : ∃ NL, L.length = NL := ⟨_, rfl⟩
   have hownL : Own itT 29 wr.heap.size xq3 uq3 NL L := by
    have h := hownq3
    rw [HLe.out] at h
    have e : 0 + 3 + np + 1 = NL := by have := HLl.out; omega
    rw [e] at h
    exact h
   have hokL : ∀ x ∈ L, x.wide = true ∧ x.ok := by
    obtain ⟨A, c, e, _, _⟩ := hownL.isSlice
    rw [e] at hownL
    exact fun x hx => ⟨Hfacts.out.1 x hx, hownL.sl.its x hx⟩
   obtain ⟨hj1, hj2, hj3⟩ := lim_join hokL (by have := all_len Hn.out i; have h := HLe.out; have h2 := HLl.out; omega)
   obtain ⟨AL, cL, rfl, hcl1, hcl2⟩ := hownL.isSlice
   have hsL := hownL.sl
   obtain ⟨jb, hjb⟩ : ∃ jb, joinB L = jb := ⟨_, rfl⟩
   obtain ⟨JL, hJL⟩ : ∃ JL, jb.length = JL := ⟨_, rfl⟩
   rw [hjb] at hj2 hj3
   rw [hJL] at hj3
   have hjo : Calls Try.prog 11 #[.slice AL NL cL] xq3 fun e w'' => ∃ A', e = .returned (.tuple #[.slice A' JL JL, .int .i64 0]) ∧ Sl u8T w'' (low w''.heap.size) A' JL jb ∧ Kept xq3 w'' :=
    (join_any AL NL cL L xq3 (by rw [← hNL]; have := HLl.out; omega) hsL).mono fun e w'' h => by
     rw [hj1, hjb, hJL] at h
     rcases h with ⟨h, _⟩ | ⟨_, A', h1, h2, h3⟩
     ·exact absurd rfl h
     ·exact ⟨A', h1, h2.keep (fun g hg => hg.2) (fun _ _ _ => rfl), h3⟩
   have hpa : ∀ (w' : World) (A : Option Addr), Sl u8T w' (low w'.heap.size) A JL jb → Calls Try.prog 14 #[.slice A JL JL] w' (ParsePost w' (parseE jb) (parseM jb)) := fun w' A hs => parse_any A JL JL jb w' (Nat.le_refl _) (by unfold maxLen; omega) hs
   have hE := hj2.trans Hfacts.out.2
   rw [hE] at hpa
   have hkx : Kept wr xq3 := hmq3
   have Hkx := hide hkx
   have Hdec := Hov.out
   clear hownq1 hownq2 hownq3 hown0 hownL hokL hj1 hj2 hsL hE hkx hmq1 hmq2 hmq3 hjq1 hjq2 hjq3 hbq1 hbq2 hbq3 hgq1 hgq2 hgq3 hatq1 hatq2 hatq3 hsP hsH hsE hcr hcl1 hcl2 hNL hjb hJL
   cases ov with
   | true =>
    rw [if_pos (of_decide_eq_true Hdec)] at hpa
    have hpa3 : ∀ (w' : World) (A : Option Addr), Sl u8T w' (low w'.heap.size) A JL jb → Calls Try.prog 14 #[.slice A JL JL] w' fun e w'' => e = .returned (.tuple #[.agg #[.slice none 0 0, .slice none 0 0, .bool false], .int .i64 3]) ∧ Kept w' w'' := fun w' A hs => (hpa w' A hs).mono fun e w'' ⟨h1, h2⟩ => by
     rcases h2 with ⟨_, h2⟩ | ⟨h2, _⟩
     ·exact ⟨h2, h1⟩
     ·cases h2
    clear hpa Hdec
    go_wp2_with fail
    go_at_call 11
    refine hjo.mono ?_
    rintro e w4 ⟨A7, rfl, hs7, hk4⟩
    go_wp2_with fail
    go_at_call 14
    refine (hpa3 _ A7 hs7).mono ?_
    rintro e w5 ⟨rfl, hk5⟩
    have hkE : Kept wr w5 := Hkx.out.trans' (hk4.trans' hk5)
    have hz5 := hkE.size
    clear hjo hpa3 hs7 hk4 hk5
    go_wp2_with fail
    go_roundg (gk - 1)
    case measure => have := Hi.out; omega
    case rel => exact ⟨i + 1, by have := Hi.out; omega, by go_num, hkr.trans' (hkE.trans' (by go_grown))⟩
   | false =>
    rw [if_neg (of_decide_eq_false Hdec)] at hpa
    have hpa3 : ∀ (w' : World) (A : Option Addr), Sl u8T w' (low w'.heap.size) A JL jb → Calls Try.prog 14 #[.slice A JL JL] w' fun e w'' => (∃ a1 a2 a3 b1 b2 b3 q, e = .returned (.tuple #[.agg #[.slice a1 a2 a3, .slice b1 b2 b3, .bool q], .int .i64 0])) ∧ Kept w' w'' := fun w' A hs => (hpa w' A hs).mono fun e w'' ⟨h1, h2⟩ => by
     rcases h2 with ⟨h2, _⟩ | ⟨_, Af, Ac, h2, _⟩
     ·exact absurd rfl h2
     ·exact ⟨⟨_, _, _, _, _, _, _, h2⟩, h1⟩
    clear hpa Hdec
    go_wp2_with fail
    go_at_call 11
    refine hjo.mono ?_
    rintro e w4 ⟨A7, rfl, hs7, hk4⟩
    go_wp2_with fail
    go_at_call 14
    refine (hpa3 _ A7 hs7).mono ?_
    rintro e w5 ⟨⟨a1, a2, a3, b1, b2, b3, q, rfl⟩, hk5⟩
    have hkE : Kept wr w5 := Hkx.out.trans' (hk4.trans' hk5)
    have hz5 := hkE.size
    clear hjo hpa3 hs7 hk4 hk5
    go_wp2_with fail
    go_roundg (gk - 1)
    case measure => have := Hi.out; omega
    case rel => exact ⟨i + 1, by have := Hi.out; omega, by go_num, hkr.trans' (hkE.trans' (by go_grown))⟩
  ·have hge : (5 : Int) ≤ (i : Int) := by omega
   go_wp2_with (go_at_call 8; refine (lives_any _).mono ?_; rintro e w2 ⟨rfl, hk2⟩)
   go_ret
   exact ⟨rfl, Hk.out.trans' (hkr.trans' hk2)⟩
end Go.Proofs.Ytegdigfcgeoboaa
