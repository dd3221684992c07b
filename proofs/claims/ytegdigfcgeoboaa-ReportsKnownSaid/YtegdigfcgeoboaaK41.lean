/- The law of the chapter on reports, part 41: Gk. -/
import Derived.Test.YtegdigfcgeoboaaK20
import Derived.Test.YtegdigfcgeoboaaK40
set_option maxHeartbeats 16000000
set_option linter.unusedVariables false
set_option linter.unusedSimpArgs false
set_option linter.unusedSectionVars false
namespace Go.Proofs.Ytegdigfcgeoboaa
open Go.RowKit
attribute [local go_sem ↓] Go.wp_at_zero Go.wp_at_succ
theorem stM_us {x : PD} : ∀ i, ∀ f ∈ (stM x i).fields, f.usages.length ≤ 10
 | 0, f, h => absurd h List.not_mem_nil
 | i + 1, f, h => by
  unfold stM at h
  cases hf : x.fields[i]? with
  | none => rw [hf] at h; exact stM_us i f h
  | some g =>
   rw [hf] at h
   rcases List.mem_append.1 h with h | h
   ·exact stM_us i f h
   ·obtain rfl := List.mem_singleton.1 h
    show (usagesF g).length ≤ 10
    unfold usagesF manyF
    rw [List.length_map, List.length_range]
    omega
theorem info65 : (Try.prog.info? 65).map (fun i => (i.zero, i.size, i.bytes)) = some (some (.agg #[.int .u8 0, .int .u8 0, .int .u8 0, .int .u8 0, .int .i16 0, .int .u16 0, .int .u8 0, .int .u8 0]), 8, 10) := by kernel_rfl
theorem mod8_k (z : Int) : u8k (z % 256) := by unfold u8k; omega
theorem wrapi16_k (z : Int) : -32768 ≤ IntKind.i16.wrap z ∧ IntKind.i16.wrap z ≤ 32767 := by
 have : IntKind.i16.wrap z = (z + 32768) % 65536 - 32768 := by
  simp [IntKind.wrap, IntKind.signed, IntKind.bits]
  omega
 omega
structure KnownIs (W : World) (nb : Bool) (A : Option Addr) (m cap : Nat) (way u : Int) : Prop where
 told : ∀ w2, Kept W w2 → Calls Try.prog 6 #[.agg #[.bool nb, .slice A m cap], .int .u8 way] w2 fun e w' => e = .returned (.bool true) ∧ Kept w2 w'
 rest : ∃ (q fn cn : Nat) (NM : Bool) (its : List It) (fl : List Fd),
  (∀ w2, Kept W w2 → Calls Try.prog 18 #[.agg #[.bool nb, .slice A m cap], .int .u8 way] w2 fun e w' => ∃ A' c', e = .returned (.slice A' q c') ∧ q ≤ c' ∧ c' ≤ maxLen ∧ Sl itT w' (low w'.heap.size) A' q its ∧ Kept w2 w') ∧
  (∀ w2, Kept W w2 → Calls Try.prog 19 #[.agg #[.bool nb, .slice A m cap]] w2 fun e w' => ∃ Af cf Ac cc, e = .returned (.agg #[.slice Af fn cf, .slice Ac cn cc, .bool NM]) ∧ Sl fdM w' (low w'.heap.size) Af fn fl ∧ Kept w2 w') ∧
  (∀ w2 (A' : Option Addr) (c' : Nat), q ≤ c' → c' ≤ maxLen → Sl itT w2 (low w2.heap.size) A' q its → Calls Try.prog 4 #[.slice A' q c'] w2 fun e w' => e = .returned (.bool true) ∧ Kept w2 w') ∧
  (∀ w2 (Af Ac : Option Addr) (cf cc : Nat), Sl fdM w2 (low w2.heap.size) Af fn fl → Calls Try.prog 22 #[.agg #[.slice Af fn cf, .slice Ac cn cc, .bool NM], .int .u8 way, .int .u32 u] w2 fun e w' => e = .returned (.bool true) ∧ Kept w2 w')
theorem known_is {W : World} {x : PD} {A : Option Addr} {cap : Nat} (hx : PdIs W x A cap) (hok : ∀ f ∈ x.fields, f.ok) (way u : Int) (hw : u8k way) : KnownIs W x.numbers A x.fields.length cap way u := by
 have hT := told_is hok way
 refine ⟨fun w2 hk => told_law x A cap way w2 (hx.kept hk) hok hw, (itemsS way x).length, (stM x (lenD x)).fields.length, (stM x (lenD x)).colls.length, x.numbers && decide (0 < lenD x), itemsS way x, (stM x (lenD x)).fields, fun w2 hk => ?_, fun w2 hk => ?_, fun w2 A' c' h1 h2 hs => parse_law A' _ c' _ w2 h1 h2 hs, fun w2 Af Ac cf cc hs => ?_⟩
 ·refine (ditems_any x A cap way w2 (hx.kept hk) hok hw).mono fun e w' h => ?_
  obtain ⟨⟨A', c', h1, h2⟩, h3⟩ := h
  obtain ⟨A2, c2, e2, h4, h5⟩ := h2.isSlice
  injection e2 with _ _ e3
  subst e3
  exact ⟨A', c', h1, h4, h5, h2.sl, h3⟩
 ·refine (dmap_any x A cap w2 (hx.kept hk) hok).mono fun e w' h => ?_
  obtain ⟨⟨Af, cf, Ac, cc, h1, h2, _⟩, h4⟩ := h
  exact ⟨Af, cf, Ac, cc, h1, h2, h4⟩
 ·have h9 := (stM_ok hok (Nat.le_refl (lenD x))).2.2.1
  have h8 : lenD x ≤ 20 := by unfold lenD; omega
  exact find_law Af Ac _ cf _ cc _ _ way u w2 (by omega) hw hT.sizes hT.rep (stM_us _) hs
set_option maxRecDepth 1000000 in
theorem known_law (w : World) : Calls Try.prog 7 #[] w fun e w' => e = .returned (.bool true) ∧ Kept w w' := by
 have hl0 := lim_law 0 (by decide)
 have hl1 := lim_law 1 (by decide)
 have hl2 := lim_law 2 (by decide)
 go_enter Try.func7, Try.ntmps7
 go_wp2_with fail
 go_loopg [1, 2] 40 (fun g' s1 s2 wr => ∃ (n : Nat) (k : Int), n + g' = 40 ∧ s2 = .int .i64 (n : Int) ∧ s1 = .int .i64 k ∧ 0 ≤ k ∧ k < 100003 ∧ Kept w wr)
 case atStart => exact ⟨0, 1, rfl, rfl, rfl, by omega, by omega, Below.refl _ _⟩
 case round =>
  obtain ⟨n, k, hg, rfl, rfl, hk0, hk1, hkw⟩ := hrel
  have Hg := hide hg
  have Hkw := hide hkw
  clear hg hkw
  by_cases hn : n < 40
  case neg =>
   have hge : ¬ (n : Int) < 40 := by omega
   go_wp2_with (first
    | (go_at_call 8; have hg0 := hq2; refine (lives_any _).mono ?_; rintro e w4 ⟨rfl, hq3⟩; try dsimp only)
    | (go_at_call 5; have hg0 := hq1; refine (hl2 _).mono ?_; rintro e w3 ⟨rfl, hq2⟩; try dsimp only)
    | (go_at_call 5; have hg0 := hq0; refine (hl1 _).mono ?_; rintro e w2 ⟨rfl, hq1⟩; try dsimp only)
    | (go_at_call 5; refine (hl0 _).mono ?_; rintro e w1 ⟨rfl, hq0⟩; try dsimp only))
   go_ret
   exact ⟨rfl, (((Hkw.out.trans' hq0).trans' hq1).trans' hq2).trans' hq3⟩
  case pos =>
   have hlt : (n : Int) < 40 := by omega
   have hn0 : (0 : Int) ≤ (n : Int) := by omega
   obtain ⟨n9, hn9⟩ : ∃ z : Nat, n % 9 = z := ⟨_, rfl⟩
   have hm9 : (n : Int) % 9 = (n9 : Int) := by omega
   have hm9' : (n : Int).tmod 9 = (n9 : Int) := by rw [Int.tmod_eq_emod_of_nonneg hn0]; omega
   have h9 : n9 < 9 := by omega
   obtain ⟨nb, hnb⟩ : ∃ b, ((n : Int) % 2 == 0) = b := ⟨_, rfl⟩
   have Hn9 := hide hn9
   clear hn9
   go_upto_region 6 with fail
   refine wp_at (fun V => ∃ DB, V.heap[DB]? = some (.cells #[.bool nb, .slice none 0 0] 52 (0, 0)) ∧ DB = wr.heap.size ∧ Kept wr V) ⟨_, heap_at _ rfl, rfl, by go_grown⟩ (fun V hV => ?_)
   obtain ⟨DB, hD, hDd, hkV⟩ := hV
   rw [← hDd]
   have hlow : w.heap.size ≤ DB := by have := Hkw.out.size; omega
   have HD := hide hD
   have HkV := hide (Hkw.out.trans' hkV)
   clear hD hDd hkV hnb
   obtain ⟨i65, hi65, hz0, hz1, hz2⟩ := info_parts info65
   obtain ⟨wo, rfl⟩ : ∃ wo : World, wo = wr := ⟨_, rfl⟩
   obtain ⟨go, rfl⟩ : ∃ g : Nat, g = gk := ⟨_, rfl⟩
   go_wp2_with fail
   go_loopg [1, 4] n9 (fun g' s1 s4 wr => ∃ (i : Nat) (k : Int) (v : Value) (fl : List PF), i + g' = n9 ∧ s4 = .int .i64 (i : Int) ∧ s1 = .int .i64 k ∧ 0 ≤ k ∧ k < 100003 ∧ wr.heap[DB]? = some (.cells #[.bool nb, v] 52 (0, 0)) ∧ Own pfT 65 w.heap.size wr v i fl ∧ Kept w wr)
   case atStart => exact ⟨0, k, .slice none 0 0, [], by omega, rfl, rfl, hk0, hk1, HD.out, Own.nil _ _ _ _, HkV.out⟩
   case round =>
    clear HD HkV
    obtain ⟨i, k, v, fl, hi, rfl, rfl, hk0', hk1', hD, hown, hkr⟩ := hrel
    have Hi := hide hi
    have dl0 : wr.cell? ⟨DB, 0, none⟩ = some (.bool nb) := cell_heap hD (o := 0) rfl
    have dl1 : wr.cell? ⟨DB, 1, none⟩ = some v := cell_heap hD (o := 1) rfl
    have fl1 := frozen_heap hD (o := 1)
    have lD := heap_lt hD
    have HD := hide hD
    have Hown := hide hown
    have Hkr := hide hkr
    clear hi hD hown hkr
    by_cases hlt9 : i < n9
    case pos =>
     have hi9 : (i : Int) < (n9 : Int) := by omega
     have hwi : IntKind.i64.wrap ((i : Int) + 1) = ((i + 1 : Nat) : Int) := by rw [IntKind.wrap_i64]; omega
     have hsz := Hkr.out.size
     have hFok : PF.ok ⟨k % 256, k / 3 % 256, k / 5 % 256, k / 7 % 256, IntKind.i16.wrap k, k / 2, k / 11 % 256, k / 13 % 256⟩ := ⟨mod8_k _, mod8_k _, mod8_k _, mod8_k _, wrapi16_k _, ⟨by show (0 : Int) ≤ k / 2; omega, by show k / 2 ≤ 65535; omega⟩, mod8_k _, mod8_k _⟩
     have HFok := hide hFok
     have hDv : v.ownBlock ≠ some DB := own_type_ne Hown.out HD.out (by decide)
     have HDv := hide hDv
     clear hFok hDv
     go_upto_region 10 with (first
      | (at_builtin; go_must (refine wpList_append_el (T := pfT) rfl (.tmp 20) (.tmp 44) 50 rfl w.heap.size 65 i65 _ 10 Try.underlying50 hi65 hz0 hz1 hz2 rfl (show 0 < 8 by decide) v i fl (by rfl) (Hown.out.kept (by go_grown)) wr.heap.size _ _ ⟨k % 256, k / 3 % 256, k / 5 % 256, k / 7 % 256, IntKind.i16.wrap k, k / 2, k / 11 % 256, k / 13 % 256⟩ (by rfl) (heap_at _ rfl) ⟨rfl, HFok.out⟩ (by simp [Value.oneCell']) (by unfold maxLen; omega) (by omega) (by simp; omega) ?_); intro g9 cap9 w9 hown9 hg9 hb9 hat9 hlt9; have hD9 := heap_grown hg9 (heap_past HD.out) (fun e => HDv.out e.symm); have cl9 : w9.cell? ⟨DB, 1, none⟩ = some v := cell_heap hD9 (o := 1) rfl; have fl9 := frozen_heap hD9 (o := 1); have lD9 := heap_lt hD9))
     refine wp_at (fun V => V.heap[DB]? = some (.cells #[.bool nb, .slice (some ⟨g9, 0, none⟩) (i + 1) cap9] 52 (0, 0)) ∧ Own pfT 65 w.heap.size V (.slice (some ⟨g9, 0, none⟩) (i + 1) cap9) (i + 1) (fl ++ [⟨k % 256, k / 3 % 256, k / 5 % 256, k / 7 % 256, IntKind.i16.wrap k, k / 2, k / 11 % 256, k / 13 % 256⟩]) ∧ Kept w V) ⟨heap_store hD9 _, hown9.grownF (fun {_ _ _ _ _ _} h => h) (grown_at grown_self 1 (.slice (some ⟨g9, 0, none⟩) (i + 1) cap9) : w9.grownBy (w9.setCell ⟨DB, 1, none⟩ (.slice (some ⟨g9, 0, none⟩) (i + 1) cap9)) (some DB)) (.inr (own_type_ne hown9 hD9 (by decide))), ((Hkr.out.alloc Hkr.out.size _).trans hb9).setCell (p := ⟨DB, 1, none⟩) hlow _⟩ (fun V hV => ?_)
     obtain ⟨hD2, ho2, hk2⟩ := hV
     have HD2 := hide hD2
     have Ho2 := hide ho2
     have Hk2 := hide hk2
     clear hD2 ho2 hk2 hown9 hg9 hb9 hat9 hlt9 hD9 cl9 fl9 lD9 dl0 dl1 fl1 lD
     have hw1 : IntKind.i64.wrap (k * 31) = k * 31 := by rw [IntKind.wrap_i64]; omega
     have hw2 : IntKind.i64.wrap (7 * (i : Int)) = 7 * (i : Int) := by rw [IntKind.wrap_i64]; omega
     have hw3 : IntKind.i64.wrap (k * 31 + 7 * (i : Int)) = k * 31 + 7 * (i : Int) := by rw [IntKind.wrap_i64]; omega
     have hw4 : IntKind.i64.wrap (k * 31 + 7 * (i : Int) + 11) = k * 31 + 7 * (i : Int) + 11 := by rw [IntKind.wrap_i64]; omega
     obtain ⟨k', hk'⟩ : ∃ z, (k * 31 + 7 * (i : Int) + 11) % 100003 = z := ⟨_, rfl⟩
     have hkt : (k * 31 + 7 * (i : Int) + 11).tmod 100003 = k' := by rw [Int.tmod_eq_emod_of_nonneg (by omega)]; exact hk'
     have hkb : 0 ≤ k' ∧ k' < 100003 := by omega
     have Hkb := hide hkb
     clear hkb
     go_wp2_with fail
     go_roundg (gk - 1)
     case measure => have := Hi.out; omega
     case rel => exact ⟨i + 1, k', _, _, by have := Hi.out; omega, by first | rfl | (rw [hwi]), by first | rfl | (rw [hk']) | (rw [hkt]), Hkb.out.1, Hkb.out.2, HD2.out, Ho2.out, Hk2.out⟩
    case neg =>
     have hi9 : ¬ (i : Int) < (n9 : Int) := by omega
     have hin : i = n9 := by have := Hi.out; omega
     obtain ⟨A, cap, rfl, hc1, hc2⟩ := Hown.out.isSlice
     have hPd : PdIs wr ⟨nb, fl⟩ A cap := ⟨by rw [show fl.length = i from Hown.out.1]; exact hc1, hc2, by rw [show fl.length = i from Hown.out.1]; exact Hown.out.sl⟩
     have hflo : ∀ f ∈ fl, f.ok := fun f hf => by
      obtain ⟨j, hj, rfl⟩ := List.getElem_of_mem hf
      obtain ⟨_, _, _, _, _, ⟨_, h9⟩, _⟩ := Hown.out.sl.2 j _ (List.getElem?_eq_getElem hj)
      exact h9
     obtain ⟨fK, hu40⟩ : ∃ z, k % 40 = z := ⟨_, rfl⟩
     have hu0 : 0 ≤ fK ∧ fK < 40 := by omega
     obtain ⟨hu0, hu1⟩ := hu0
     have hut : k.tmod 40 = fK := by rw [Int.tmod_eq_emod_of_nonneg hk0']; exact hu40
     have huw : IntKind.u32.wrap fK = fK := by rw [IntKind.wrap_u32]; omega
     have huo : bits .or .u32 458752 fK = 458752 + fK := bitsor ⟨hu0, by omega⟩
     have hnw : IntKind.u8.wrap (n : Int) = (n : Int) := wrap8 (by omega) (by omega)
     have hkn := known_is hPd hflo (n : Int) (458752 + fK) ⟨hn0, by omega⟩
     rw [show (⟨nb, fl⟩ : PD).fields.length = i from Hown.out.1] at hkn
     obtain ⟨kt, q, fn, cn, NM, its, flds, ki, km, kp, kf⟩ := hkn
     have Hkt := hide kt
     have Hki := hide ki
     have Hkm := hide km
     have Hkp := hide kp
     have Hkf := hide kf
     have hwn1 : IntKind.i64.wrap ((n : Int) + 1) = ((n + 1 : Nat) : Int) := by rw [IntKind.wrap_i64]; omega
     clear hPd hflo kt ki km kp kf hin
     go_wp2_with (first
      | (go_at_call 22; refine (Hkf.out _ _ _ _ _ hf5).mono ?_; rintro e w5 ⟨rfl, hq5⟩; try dsimp only)
      | (go_at_call 19; have hg0 := hq3; refine (Hkm.out _ ((hq1.trans' hq2).trans' hq3)).mono ?_; rintro e w4 ⟨Af, cf, Ac, cc, rfl, hf5, hq4⟩; try dsimp only)
      | (go_at_call 4; refine (Hkp.out _ _ _ hi1 hi2 hi3).mono ?_; rintro e w3 ⟨rfl, hq3⟩; have hD3 := heap_kept ((hq1.trans' hq2).trans' hq3) HD.out; have e30 : w3.cell? ⟨DB, 0, none⟩ = some (.bool nb) := cell_heap hD3 (o := 0) rfl; have e31 : w3.cell? ⟨DB, 1, none⟩ = some (.slice A i cap) := cell_heap hD3 (o := 1) rfl; have l3 := heap_lt hD3; try dsimp only)
      | (go_at_call 18; refine (Hki.out _ hq1).mono ?_; rintro e w2 ⟨Ai, ci, rfl, hi1, hi2, hi3, hq2⟩; try dsimp only)
      | (go_at_call 6; refine (Hkt.out _ (Below.refl _ _)).mono ?_; rintro e w1 ⟨rfl, hq1⟩; have hD1 := heap_kept hq1 HD.out; have e10 : w1.cell? ⟨DB, 0, none⟩ = some (.bool nb) := cell_heap hD1 (o := 0) rfl; have e11 : w1.cell? ⟨DB, 1, none⟩ = some (.slice A i cap) := cell_heap hD1 (o := 1) rfl; have l1 := heap_lt hD1; try dsimp only))
     go_roundg (go - 1)
     case measure => have := Hg.out; omega
     case rel => exact ⟨n + 1, k, by have := Hg.out; omega, by first | rfl | (rw [hwn1]), rfl, hk0', hk1', (((((Hkr.out.trans' hq1).trans' hq2).trans' hq3).trans' hq4).trans' hq5)⟩
end Go.Proofs.Ytegdigfcgeoboaa
