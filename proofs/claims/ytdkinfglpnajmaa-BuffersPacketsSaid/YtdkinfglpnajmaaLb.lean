

/- The walk of BuffersJoin. -/
import Derived.Test.YtdkinfglpnajmaaChecked
import Derived.Deep.RegionHeld3
import Derived.Deep.DrawnRows
import Derived.Deep.DeepCutAuto
import Derived.Deep.LoopGhost
import Derived.Outline
import Derived.Handy
import Derived.OwnWalk
import Derived.IntWalk
import Derived.Test.YtdkinfglpnajmaaLa
set_option linter.unusedVariables false
set_option linter.unusedSimpArgs false
set_option linter.unusedSectionVars false
namespace Go.Proofs.Ytdkinfglpnajmaa
open Go.RowKit
attribute [local go_sem ↓] Go.wp_at_zero Go.wp_at_succ

theorem win_self {l : List Pc} (h : posL l) : win 0 0 (total l) l = l := by
  rw [win_all 0 (total l) h.ok (Int.le_refl _) (by omega)]
  exact List.filter_eq_self.2 (fun p hp => by simpa using (h p hp).2)
/-- the joined pieces of the law's list -/
def JL (l : List Pc) : List Pc := jn (win 0 0 (total l) l)
theorem JL_pos {l : List Pc} (h : okL l) : posL (JL l) := (jn_places (win_posL 0 0 (total l) h)).1
theorem JL_places {l : List Pc} (h : okL l) : places (JL l) = places l := by
  unfold JL
  rw [(jn_places (win_posL 0 0 (total l) h)).2, win_full h]
theorem JL_total {l : List Pc} (h : okL l) : total (JL l) = total l := by
  rw [← places_len (JL_pos h).ok, JL_places h, places_len h]
theorem JL_again {l : List Pc} (h : okL l) : jn (win 0 0 (total (JL l)) (JL l)) = JL l := by
  rw [win_self (JL_pos h)]
  exact jn_again _
theorem JL_len (l : List Pc) : (JL l).length ≤ l.length := Nat.le_trans (jn_len _) (win_le l 0 0 (total l))
theorem JL_gaps (l : List Pc) : gaps (JL l) := jn_gaps _
/-- pieces in a memory of 64 bytes, joined, lie in it -/
theorem JL_bd {l : List Pc} (h : okL l) (hb : ∀ a ∈ places l, 0 ≤ a ∧ a < 64) : ∀ p ∈ JL l, 0 ≤ p.pos ∧ p.pos ≤ 64 ∧ 0 < p.len ∧ p.pos + p.len ≤ 64 := fun p hp => by
  have h1 := JL_pos h p hp
  have hmem : ∀ k : Nat, (k : Int) < p.len → p.pos + k ∈ places (JL l) := fun k hk => by
    refine List.mem_flatMap.2 ⟨p, hp, ?_⟩
    unfold pl
    exact List.mem_map.2 ⟨k, List.mem_range.2 (by omega), rfl⟩
  have h2 := hb _ (by rw [← JL_places h]; exact hmem 0 (by omega))
  have h3 := hb _ (by rw [← JL_places h]; exact hmem (p.len.toNat - 1) (by omega))
  omega
theorem JL_chk {l : List Pc} (h : okL l) (hb : ∀ a ∈ places l, 0 ≤ a ∧ a < 64) (hl : l.length ≤ 256) (ht : total l ≤ 65536) {size : Int} (hs : 64 ≤ size) : chk (JL l) size = 0 :=
  chk_ok (by have := JL_len l; omega) (fun p hp => by have := JL_bd h hb p hp; omega) (by rw [JL_total h]; exact ht)
set_option maxRecDepth 100000 in
set_option maxHeartbeats 2000000 in
theorem join_law (A : Option Addr) (n c : Nat) (x : List (UInt8 × UInt8)) (w : World) (hl : Sl ppT w (low w.heap.size) A n x) (hnc : n ≤ c) (hc : c ≤ maxLen) :
    Calls Try.prog 7 #[.slice A n c] w fun e w' => e = .returned (.bool true) ∧ Kept w w' := by
  have hof := x_of hl hnc hc
  have hL20 := ofL_len x
  have hsm := Lib.hid (ofL_small x)
  have htt := Lib.hid (ofL_total x)
  have hok := Lib.hid (ofL_ok x)
  have hplc := Lib.hid (show ∀ a ∈ places (ofL x), 0 ≤ a ∧ a < 64 from fun a ha => ofL_places ha)
  have hk2 := Lib.hid (ofL_chk x (size := 9223372036854775807) (by omega))
  have hpl0 := ofL_plen x
  generalize ofL x = l at *
  have hJp := Lib.hid (JL_pos hok.out)
  have hJb := Lib.hid (JL_bd hok.out hplc.out)
  have hJg := Lib.hid (JL_gaps l)
  have hJP := Lib.hid (JL_places hok.out)
  have hJt := Lib.hid (show total (JL l) ≤ 65536 by rw [JL_total hok.out]; have := htt.out; omega)
  have hj1 : ∀ (w' : World) (A1 : Option Addr) (c1 : Nat), Sl pcT w' (low w'.heap.size) A1 l.length l → Calls Try.prog 22 #[.slice A1 l.length c1] w' fun e w2 => ∃ A', e = .returned (.tuple #[.slice A' (JL l).length (JL l).length, .int .i64 0]) ∧ Sl pcT w2 (low w2.heap.size) A' (JL l).length (JL l) ∧ Kept w' w2 := fun w' A1 c1 h => join_ok A1 l.length c1 l w' h hk2.out
  have hj2 : ∀ (w' : World) (A1 : Option Addr) (c1 : Nat), Sl pcT w' (low w'.heap.size) A1 (JL l).length (JL l) → Calls Try.prog 22 #[.slice A1 (JL l).length c1] w' fun e w2 => ∃ A', e = .returned (.tuple #[.slice A' (JL l).length (JL l).length, .int .i64 0]) ∧ Sl pcT w2 (low w2.heap.size) A' (JL l).length (JL l) ∧ Kept w' w2 := fun w' A1 c1 h => by
    have hh := join_ok A1 (JL l).length c1 (JL l) w' h (JL_chk hok.out hplc.out (by omega) (by have := htt.out; omega) (by omega))
    rw [JL_again hok.out] at hh
    exact hh
  have hJ20 : (JL l).length ≤ 20 := Nat.le_trans (JL_len l) hL20
  generalize JL l = J at *
  generalize hP : places l = P at *
  replace hP := Lib.hid hP
  go_enter Try.func7, Try.ntmps7
  go_wp2_with (first
    | (go_at_call 10; refine hof.mono ?_; rintro e w1 ⟨A1, c1, rfl, s1, _, _, k1⟩)
    | (have h := k2; go_at_call 22; refine (hj2 _ A2 J.length s2).mono ?_; rintro e w3 ⟨A3, rfl, s3, k3⟩)
    | (go_at_call 22; refine (hj1 _ A1 c1 s1).mono ?_; rintro e w2 ⟨A2, rfl, s2, k2⟩)
    | (have h := k4; go_at_call 11; refine (x_places (((s1.kept k2).kept k3).kept k4) hsm.out (by have := htt.out; omega) (by omega) hP.out).mono ?_; rintro e w5 ⟨A5, c5, rfl, s5, k5⟩)
    | (go_at_call 11; refine (x_places (s2.kept k3) (fun p hp => by have := hJb.out p hp; omega) hJt.out (by omega) hJP.out).mono ?_; rintro e w4 ⟨A4, c4, rfl, s4, k4⟩)
    | (go_at_call 19; refine (same_yes A4 A5 P.length c4 c5 P _ (s4.kept k5) s5 (by omega)).mono ?_; rintro e w6 ⟨rfl, k6⟩)
    | (go_at_call 20; refine (full_yes A2 J.length J _ ((((s2.kept k3).kept k4).kept k5).kept k6) (fun p hp => (hJp.out p hp).2) (by omega)).mono ?_; rintro e w7 ⟨rfl, k7⟩))
  have k37 : Kept w3 w7 := ((k4.trans' k5).trans' k6).trans' k7
  have kw7 : Kept w w7 := ((k1.trans' k2).trans' k3).trans' k37
  have a3 := s3.kept k37
  have a2 := (s2.kept k3).kept k37
  clear hof hj1 hj2 s1 s2 s3 s4 s5 hsm htt hok hplc hk2 hJP hJt hP
  generalize hm : J.length = m at *
  replace hm := Lib.hid hm
  go_loopg [8] m (fun g s8 wr => ∃ i : Nat, i + g = m ∧ s8 = .int .i64 (i : Int) ∧ Kept w7 wr)
  case atStart => exact ⟨0, by omega, by rfl, Below.refl _ _⟩
  case round =>
    obtain ⟨i, hi, rfl, hkw⟩ := hrel
    by_cases hlt : i < m
    · obtain ⟨p, b, off, hx, rfl, hbb, hbw, c0, c1'⟩ := pc_at a3 hkw hlt
      obtain ⟨q, b2, off2, hy, rfl, hbb2, hbw2, d0, d1⟩ := pc_at a2 hkw hlt
      rw [hx] at hy
      cases hy
      have hi' : (i : Int) < (m : Int) := by omega
      by_cases h0 : i = 0
      · subst h0
        simp only [Nat.zero_mul, Nat.add_zero] at c0 c1' d0 d1
        clear hx
        go_wp2_with fail
        go_region
        go_wp2_with fail
        go_roundg (gk - 1)
        case measure => omega
        case rel => exact ⟨1, by omega, by go_num, hkw.drew⟩
      · obtain ⟨j, rfl⟩ : ∃ j, i = j + 1 := ⟨i - 1, by omega⟩
        obtain ⟨r, b3, off3, hz, hA, _, _, f0, f1⟩ := pc_at a2 hkw (show j < m by omega)
        cases hA
        have hgap := gaps_at hJg.out hz hx
        obtain ⟨r0, r1, r2, r3⟩ := hJb.out r (List.mem_of_getElem? hz)
        have hne : (r.pos + r.len == p.pos) = false := by simpa using hgap
        have hwr : IntKind.i64.wrap (r.pos + r.len) = r.pos + r.len := IntWalk.i64_in _ ⟨by omega, by omega⟩
        have hn1 : (j : Int) + 1 < (m : Int) := by omega
        have hn0 : (0 : Int) ≤ j := by omega
        have hn2 : (j : Int) < (m : Int) := by omega
        have hn3 : (0 : Int) ≤ (j : Int) + 1 := by omega
        have hn4 : (0 : Int) < (j : Int) + 1 := by omega
        have hwj : IntKind.i64.wrap (j : Int) = j := IntWalk.i64_in _ ⟨by omega, by omega⟩
        clear hx hz hgap
        go_wp2_with fail
        go_region
        go_wp2_with fail
        go_roundg (gk - 1)
        case measure => omega
        case rel => exact ⟨j + 1 + 1, by omega, by go_num, hkw.drew⟩
    · have hi' : (m : Int) ≤ (i : Int) := by omega
      go_wp2_with (go_at_call 16; refine (lives_any _).mono ?_; rintro e w8 ⟨rfl, k8⟩)
      go_ret
      exact ⟨rfl, kw7.trans' (hkw.trans' k8)⟩
end Go.Proofs.Ytdkinfglpnajmaa
