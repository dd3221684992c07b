

/- The walk of BuffersPages. -/
import Derived.Test.YtdkinfglpnajmaaChecked
import Derived.Deep.RegionHeld3
import Derived.Deep.DrawnRows
import Derived.Deep.DeepCutAuto
import Derived.Deep.LoopGhost
import Derived.Outline
import Derived.Handy
import Derived.OwnWalk
import Derived.IntWalk
import Derived.Test.YtdkinfglpnajmaaLb
set_option linter.unusedVariables false
set_option linter.unusedSimpArgs false
set_option linter.unusedSectionVars false
namespace Go.Proofs.Ytdkinfglpnajmaa
open Go.RowKit
attribute [local go_sem ↓] Go.wp_at_zero Go.wp_at_succ

theorem pgs_filter (page : Int) : ∀ (l : List Pc), okL l → pgs page (l.filter fun p => decide (0 < p.len)) = pgs page l
  | [], _ => rfl
  | p :: r, h => by
    have ih := pgs_filter page r h.tail
    unfold pgs at ih ⊢
    by_cases hp : 0 < p.len
    · rw [List.filter_cons_of_pos (by simpa using hp), List.flatMap_cons, List.flatMap_cons, ih]
    · rw [List.filter_cons_of_neg (by simpa using hp), List.flatMap_cons, ih, pg_end (by omega), List.nil_append]
/-- the pages of the law's list -/
def QL (page : Int) (l : List Pc) : List Pc := pgs page (win 0 0 (total l) l)
theorem QL_pgs {page : Int} {l : List Pc} (h : okL l) : QL page l = pgs page l := by
  unfold QL
  rw [win_all 0 (total l) h (Int.le_refl _) (by omega), pgs_filter page l h]
theorem QL_pos {page : Int} {l : List Pc} (hp : 1 ≤ page) (h : okL l) : posL (QL page l) := pgs_pos hp (win_posL 0 0 (total l) h)
theorem QL_total {page : Int} {l : List Pc} (hp : 1 ≤ page) (h : okL l) : total (QL page l) = total l := by
  unfold QL
  rw [pgs_total hp (win_posL 0 0 (total l) h), win_total h (Int.le_refl _)]
theorem QL_join {page : Int} {l : List Pc} (hp : 1 ≤ page) (h : okL l) : jn (win 0 0 (total (QL page l)) (QL page l)) = JL l := by
  rw [win_self (QL_pos hp h)]
  exact jn_pgs hp (win_posL 0 0 (total l) h)
theorem pg_in {page : Int} (hp : 1 ≤ page) : ∀ (f : Nat) (a n : Int), ∀ q ∈ pg page f a n, a ≤ q.pos ∧ q.pos + q.len ≤ a + n
  | 0, a, n, q, h => by simp [pg] at h
  | f + 1, a, n, q, h => by
    unfold pg at h
    split at h
    · rename_i hn
      have hs := pg_step (a := a) hp hn
      rcases List.mem_cons.1 h with rfl | h
      · simp only
        omega
      · have := pg_in hp f _ _ q h
        omega
    · cases h
theorem QL_bd {page : Int} {l : List Pc} (hp : 1 ≤ page) (h : okL l) (hb : ∀ p ∈ l, 0 ≤ p.pos ∧ 0 ≤ p.len ∧ p.pos + p.len ≤ 64) : ∀ q ∈ QL page l, 0 ≤ q.pos ∧ 0 < q.len ∧ q.pos + q.len ≤ 64 := fun q hq => by
  have h1 := QL_pos hp h q hq
  rw [QL_pgs h] at hq
  obtain ⟨p, hpl, hq⟩ := List.mem_flatMap.1 hq
  have h2 := pg_in hp _ _ _ q hq
  have h3 := hb p hpl
  omega
theorem QL_chk {page : Int} {l : List Pc} (hp : 1 ≤ page) (h : okL l) (hb : ∀ p ∈ l, 0 ≤ p.pos ∧ 0 ≤ p.len ∧ p.pos + p.len ≤ 64) (hl : (QL page l).length ≤ 256) (ht : total l ≤ 65536) : chk (QL page l) 9223372036854775807 = 0 :=
  chk_ok hl (fun p hp' => by have := QL_bd hp h hb p hp'; omega) (by rw [QL_total hp h]; exact ht)
theorem QL_len {page : Int} {l : List Pc} (hp : 1 ≤ page) (h : okL l) : ((QL page l).length : Int) ≤ total l := by
  have := pos_len (QL_pos hp h)
  rw [QL_total hp h] at this
  exact this
theorem pgs_take {page : Int} {l : List Pc} {i : Nat} {p : Pc} (h : l[i]? = some p) : pgs page (l.take (i + 1)) = pgs page (l.take i) ++ pg page p.len.toNat p.pos p.len := by
  obtain ⟨hk, e⟩ := List.getElem?_eq_some_iff.1 h
  rw [List.take_succ_eq_append_getElem hk, e, pgs_snoc]
theorem pgs_pre (page : Int) (l : List Pc) (i : Nat) : pgs page (l.take i) <+: pgs page l := by
  conv => rhs; rw [← List.take_append_drop i l]
  unfold pgs
  rw [List.flatMap_append]
  exact List.prefix_append _ _
theorem pagesR_form {L : List Pc} {A' : Option Addr} {e : Ending} {w' : World} (h : PagesR L A' e w') : ∃ (A2 : Option Addr) (K c2 : Nat) (z : Int), e = .returned (.tuple #[.slice A2 K c2, .int .i64 z]) ∧
    Hid ((L.length ≤ 256 → K = L.length ∧ c2 = L.length ∧ z = 0 ∧ Sl pcT w' (low w'.heap.size) A2 L.length L) ∧ (256 < L.length → K = 0 ∧ z = 3)) := by
  unfold PagesR at h
  split at h
  · rename_i hle
    obtain ⟨rfl, hs⟩ := h
    exact ⟨A', _, _, _, rfl, Lib.hid ⟨fun _ => ⟨rfl, rfl, rfl, hs⟩, fun h => by omega⟩⟩
  · rename_i hle
    exact ⟨none, 0, 0, 3, h, Lib.hid ⟨fun h => by omega, fun _ => ⟨rfl, rfl⟩⟩⟩
set_option maxRecDepth 100000 in
set_option maxHeartbeats 2000000 in
theorem pages_low (A : Option Addr) (n c : Nat) (x : List (UInt8 × UInt8)) (page : Int) (w : World) (hl : Sl ppT w (low w.heap.size) A n x) (hnc : n ≤ c) (hc : c ≤ maxLen) (hpg : page < 1) :
    Calls Try.prog 8 #[.slice A n c, .int .i64 page] w fun e w' => e = .returned (.bool true) ∧ Kept w w' := by
  have hof := x_of hl hnc hc
  have hk2 := Lib.hid (ofL_chk x (size := 9223372036854775807) (by omega))
  generalize ofL x = l at *
  go_enter Try.func8, Try.ntmps8
  go_wp2_with (first
    | (go_at_call 10; refine hof.mono ?_; rintro e w1 ⟨A1, c1, rfl, s1, _, _, k1⟩)
    | (go_at_call 23; refine (pages_arg A1 l.length c1 l page _ s1 hk2.out hpg).mono ?_; rintro e w2 ⟨rfl, k2⟩)
    | (go_at_call 16; refine (lives_any _).mono ?_; rintro e w3 ⟨rfl, k3⟩))
  go_ret
  exact ⟨rfl, (k1.trans' k2).trans' k3⟩
set_option maxRecDepth 100000 in
set_option maxHeartbeats 4000000 in
theorem pages_law (A : Option Addr) (n c : Nat) (x : List (UInt8 × UInt8)) (page : Int) (w : World) (hl : Sl ppT w (low w.heap.size) A n x) (hnc : n ≤ c) (hc : c ≤ maxLen) (hpg : 1 ≤ page) (hpg2 : page ≤ 9223372036854775807) :
    Calls Try.prog 8 #[.slice A n c, .int .i64 page] w fun e w' => e = .returned (.bool true) ∧ Kept w w' := by
  have hof := x_of hl hnc hc
  have hL20 := ofL_len x
  have hok := Lib.hid (ofL_ok x)
  have htt := Lib.hid (ofL_total x)
  have h64b := Lib.hid (show ∀ p ∈ ofL x, 0 ≤ p.pos ∧ 0 ≤ p.len ∧ p.pos + p.len ≤ 64 from fun p hp => by have := ofL_bd p hp; omega)
  have hplc := Lib.hid (show ∀ a ∈ places (ofL x), 0 ≤ a ∧ a < 64 from fun a ha => ofL_places ha)
  have hk2 := Lib.hid (ofL_chk x (size := 9223372036854775807) (by omega))
  generalize ofL x = l at *
  have hQp := Lib.hid (QL_pgs (page := page) hok.out)
  have hQl := QL_len hpg hok.out
  have hpgin := Lib.hid (fun A1 c1 W (h : Sl pcT W (low W.heap.size) A1 l.length l) => pages_in A1 l.length c1 l page W h hk2.out hpg hpg2)
  obtain ⟨i44, hi44, hz0, hz1, hz2⟩ := info_parts info44
  go_enter Try.func8, Try.ntmps8
  go_upto_region 3 with (first
    | (go_at_call 10; refine hof.mono ?_; rintro e w1 ⟨A1, c1, rfl, s1, _, _, k1⟩)
    | (go_at_call 23; refine (hpgin.out _ _ _ s1).mono ?_; rintro e w2 ⟨A2', hR, k2⟩; obtain ⟨A2, K2, c2, z2, rfl, hR2⟩ := pagesR_form hR)
    )
  have kw2 := k1.trans' k2
  have a1 := s1.kept k2
  have hm0 := hQp.out
  have hR3 : Hid ((( QL page l).length ≤ 256 → K2 = (QL page l).length ∧ c2 = (QL page l).length ∧ z2 = 0 ∧ Sl pcT w2 (low w2.heap.size) A2 (QL page l).length (QL page l)) ∧ (256 < (QL page l).length → K2 = 0 ∧ z2 = 3)) := hR2
  have hpre := Lib.hid (fun i => pgs_pre page l i)
  have htl := htt.out
  have hcap := Lib.hid (show ∀ i dn, pgs page (l.take i) ++ dn <+: pgs page l → (pgs page (l.take i) ++ dn).length ≤ 1280 from fun i dn h => by
    have h1 := h.length_le
    have h2 := hQl
    rw [hm0] at h2
    omega)
  have htake := Lib.hid (fun i p (h : l[i]? = some p) => pgs_take (page := page) h)
  have hfull := Lib.hid (show pgs page (l.take l.length) = QL page l by rw [List.take_length, hm0])
  clear hR2 hR hof hpgin s1 hm0
  generalize hm : l.length = m at *
  replace hm := Lib.hid hm
  go_wp2_with fail
  go_loopg [8, 9] m (fun g s8 s9 wr => ∃ (i q : Nat), i + g = m ∧ s9 = .int .i64 (i : Int) ∧ Own pcT 44 w2.heap.size wr s8 q (pgs page (l.take i)) ∧ Kept w2 wr)
  case atStart => exact ⟨0, 0, by omega, by rfl, Own.nil _ _ _ _, Below.refl _ _⟩
  case round =>
    obtain ⟨i, q, hi, rfl, hown, hkw⟩ := hrel
    by_cases hlt : i < m
    · obtain ⟨p, b, off, hx, rfl, hbb, hbw, c0, c1'⟩ := pc_at a1 hkw hlt
      obtain ⟨hp0, hp1, hp2⟩ := h64b.out p (List.mem_of_getElem? hx)
      have hst := Lib.hid (htake.out i p hx)
      have hpr := Lib.hid (hpre.out (i + 1))
      rw [hst.out] at hpr
      have hi' : (i : Int) < (m : Int) := by omega
      obtain ⟨wo, hwo⟩ : ∃ wo, wo = wr := ⟨_, rfl⟩
      obtain ⟨g0, hg0⟩ : ∃ g, g = gk := ⟨_, rfl⟩
      have Hg := Lib.hid hg0
      have Hi := Lib.hid hi
      have hkwo : Kept w2 wo := by rw [hwo]; exact hkw
      have hl1 := Lib.hid hlt
      have Hx := Lib.hid hx
      clear hx hwo hg0 hi hlt
      go_wp2_with fail
      go_loopg [8, 10] p.len.toNat (fun gf s8 s10 wi => ∃ (a r : Int) (dn : List Pc) (q : Nat), gf = r.toNat ∧ 0 ≤ r ∧ p.pos ≤ a ∧ Hid (a + r = p.pos + p.len) ∧ s10 = .int .i64 a ∧ Own pcT 44 w2.heap.size wi s8 q (pgs page (l.take i) ++ dn) ∧ Hid (dn ++ pg page r.toNat a r = pg page p.len.toNat p.pos p.len) ∧ Kept w2 wi)
      case atStart => exact ⟨p.pos, p.len, [], q, rfl, hp1, Int.le_refl _, Lib.hid rfl, by rfl, by rw [List.append_nil]; exact hown, Lib.hid rfl, hkw⟩
      case round =>
        clear hown hkw hbw c0 c1'
        obtain ⟨a, r, dn, q, Hgr, hr0, ha0, har, rfl, hown, Hd, hkw⟩ := hrel
        replace Hgr := Lib.hid Hgr
        obtain ⟨p', b', off', hx', hA', hbb', hbw, c0, c1'⟩ := pc_at a1 hkw hl1.out
        cases hA'
        have ep : p' = p := by
          rw [Hx.out] at hx'
          exact (Option.some.inj hx').symm
        rw [ep] at c0 c1'
        clear ep hx'
        obtain rfl : r = p.pos + p.len - a := by have := har.out; omega
        clear har
        have hw1 : IntKind.i64.wrap (p.pos + p.len) = p.pos + p.len := IntWalk.i64_in _ ⟨by omega, by omega⟩
        by_cases hr : 0 < p.pos + p.len - a
        · have hlt1 : a < p.pos + p.len := by omega
          have hpz : (page == 0) = false := by simp; omega
          have hpz2 : page ≠ 0 := by omega
          have hm0 := Int.emod_nonneg a hpz2
          have hm1 := Int.emod_lt_of_pos a (show 0 < page by omega)
          have htm : a.tmod page = a % page := Int.tmod_eq_emod_of_nonneg (by omega)
          have hwp : IntKind.i64.wrap (page - a % page) = page - a % page := IntWalk.i64_in _ ⟨by omega, by omega⟩
          have hwr : IntKind.i64.wrap (p.pos + p.len - a) = p.pos + p.len - a := IntWalk.i64_in _ ⟨by omega, by omega⟩
          have hmm : (if page - a % page < p.pos + p.len - a then page - a % page else p.pos + p.len - a) = min (p.pos + p.len - a) (page - a % page) := by split <;> omega
          obtain ⟨hM1, hM2⟩ := pg_step (a := a) hpg hr
          have Hcons := Lib.hid (pg_cons (a := a) hpg hr)
          have hlen := hcap.out i dn (by
            refine List.IsPrefix.trans ?_ hpr.out
            rw [← Hd.out, ← List.append_assoc]
            exact List.prefix_append _ _)
          rw [hown.1] at hlen
          have Hown := Lib.hid hown
          clear hown
          go_wp2_with fail
          go_region
          go_wp2_with fail
          go_region
          generalize hMM : min (p.pos + p.len - a) (page - a % page) = M at *
          clear hMM hmm hwp htm hm0 hm1 hpz hpz2
          have hwM : IntKind.i64.wrap (a + M) = a + M := IntWalk.i64_in _ ⟨by omega, by omega⟩
          have Hd2 := Lib.hid (show (dn ++ [⟨a, M⟩]) ++ pg page (p.pos + p.len - (a + M)).toNat (a + M) (p.pos + p.len - (a + M)) = pg page p.len.toNat p.pos p.len by
            rw [← Hd.out, Hcons.out, List.append_assoc, show p.pos + p.len - (a + M) = p.pos + p.len - a - M by omega]; rfl)
          go_wp2_with (at_builtin; refine wpList_append_el (T := pcT) rfl (.tmp 80) (.tmp 84) 25 rfl w2.heap.size 44 i44 _ 16 Try.underlying25 hi44 hz0 hz1 hz2 rfl (by decide) u8 q _ (by rfl) (Hown.out.drew.drew.alloc _) _ _ _ ⟨a, M⟩ (by rfl) (heap_alloc_new wr.drew.drew _) ⟨rfl, trivial⟩ (by simp [Value.oneCell']) (by unfold maxLen; omega) (by omega) (by have := hkw.size; first | exact Nat.le_trans this (by simp) | exact this) ?_; intro g4 cap4 w4 hown4 hg4 hb4 hat4 hlt4)
          go_roundg (p.pos + p.len - (a + M)).toNat
          case measure => have := Hgr.out; omega
          case rel => exact ⟨a + M, p.pos + p.len - (a + M), dn ++ [⟨a, M⟩], q + 1, rfl, by omega, by omega, Lib.hid (by omega), by rfl, by rw [← List.append_assoc]; exact hown4, Hd2, (hkw.drew.drew.alloc hkw.size _).trans hb4⟩
        · have hle1 : p.pos + p.len ≤ a := by omega
          have Hfin := Lib.hid (show pgs page (l.take i) ++ dn = pgs page (l.take (i + 1)) by rw [hst.out, ← Hd.out, pg_end (by omega), List.append_nil])
          have Hown := Lib.hid hown
          clear hown
          go_wp2_with fail
          go_region
          go_wp2_with fail
          go_roundg (g0 - 1)
          case measure => have := Hi.out; have := Hg.out; have := hl1.out; omega
          case rel => exact ⟨i + 1, q, by have := Hi.out; have := Hg.out; have := hl1.out; omega, by go_num, by rw [← Hfin.out]; exact Hown.out.drew, hkw.drew⟩
    · have him : i = m := by omega
      rw [him, hfull.out] at hown
      have hi' : (m : Int) ≤ (i : Int) := by omega
      have hql := hown.1
      obtain ⟨A8, c8, rfl, _, _⟩ := hown.isSlice
      have s8 := hown.sl
      have kwr := kw2.trans' hkw
      have hp64 := Lib.hid (QL_bd hpg hok.out h64b.out)
      have hQ1 : ∀ W, Sl pcT W (low W.heap.size) A2 q (QL page l) → q ≤ 256 → Calls Try.prog 22 #[.slice A2 q q] W fun e w3 => ∃ A', e = .returned (.tuple #[.slice A' (JL l).length (JL l).length, .int .i64 0]) ∧ Sl pcT w3 (low w3.heap.size) A' (JL l).length (JL l) ∧ Kept W w3 := fun W h hle => by
        have hh := join_ok A2 q q (QL page l) W h (QL_chk hpg hok.out h64b.out (by omega) (by omega))
        rw [QL_join hpg hok.out] at hh
        exact hh
      have hQ2 : ∀ W, Sl pcT W (low W.heap.size) A1 m l → Calls Try.prog 22 #[.slice A1 m c1] W fun e w3 => ∃ A', e = .returned (.tuple #[.slice A' (JL l).length (JL l).length, .int .i64 0]) ∧ Sl pcT w3 (low w3.heap.size) A' (JL l).length (JL l) ∧ Kept W w3 := fun W h => join_ok A1 m c1 l W h hk2.out
      have hJb := Lib.hid (JL_bd hok.out hplc.out)
      have hJt := Lib.hid (show total (JL l) ≤ 65536 by rw [JL_total hok.out]; omega)
      have hJl := JL_len l
      have hml := hm.out
      have hJP := Lib.hid (JL_places hok.out)
      have hPl : (places l).length ≤ 1280 := by have := places_len hok.out; omega
      have hQpos := Lib.hid (QL_pos hpg hok.out)
      generalize JL l = J at *
      generalize hP : places l = P at *
      clear hql him hown hfull htake hpre hcap h64b hplc hQp hok htt
      generalize QL page l = Q at *
      have hql := s8.1
      by_cases hbig : 256 < q
      · obtain ⟨rfl, rfl⟩ := hR3.out.2 (by omega)
        have hb' : (256 : Int) < (q : Int) := by omega
        clear hR3 hQ1 hQ2
        go_wp2_with (go_at_call 16; refine (lives_any _).mono ?_; rintro e w5 ⟨rfl, k5⟩)
        go_ret
        exact ⟨rfl, kwr.trans' k5⟩
      · obtain ⟨rfl, rfl, rfl, sQ⟩ := hR3.out.1 (by omega)
        have hb' : (q : Int) ≤ 256 := by omega
        clear hR3
        rw [hql] at sQ ⊢
        have sQr := sQ.kept hkw
        have hQ1' : ∀ W, Kept wr W → _ := fun W hk => hQ1 W (sQr.kept hk) (by omega)
        have hQ2' : ∀ W, Kept wr W → _ := fun W hk => hQ2 W ((a1.kept hkw).kept hk)
        have hql' := Lib.hid hql
        clear hQ1 hQ2 hql
        go_wp2_with (go_at_call 20; refine (full_yes A2 q Q _ sQr (fun p hp => (hQpos.out p hp).2) (by omega)).mono ?_; rintro e w5 ⟨rfl, k5⟩)
        have b2 := sQr.kept k5
        have b8 := s8.kept k5
        obtain ⟨W5, hW5⟩ : ∃ W5, W5 = wr := ⟨_, rfl⟩
        rw [← hW5] at hQ1' hQ2' k5 kwr
        clear hW5 s8 sQ sQr hkw a1
        go_loopg [12] q (fun g s12 wi => ∃ j : Nat, j + g = q ∧ s12 = .int .i64 (j : Int) ∧ Kept w5 wi)
        case atStart => exact ⟨0, by omega, by rfl, Below.refl _ _⟩
        case round =>
          obtain ⟨j, hj, rfl, hkw⟩ := hrel
          by_cases hlt : j < q
          · obtain ⟨p, b, off, hx, rfl, hbb, hbw, c0, c1'⟩ := pc_at b2 hkw hlt
            obtain ⟨p', b', off', hx', rfl, hbb', hbw', d0, d1⟩ := pc_at b8 hkw hlt
            rw [hx] at hx'
            cases hx'
            have hj' : (j : Int) < (q : Int) := by omega
            clear hx
            go_wp2_with fail
            go_region
            go_wp2_with fail
            go_roundg (gk - 1)
            case measure => omega
            case rel => exact ⟨j + 1, by omega, by go_num, hkw.drew⟩
          · have hj' : (q : Int) ≤ (j : Int) := by omega
            have kk := k5.trans' hkw
            go_wp2_with (first
              | (have h := k6; go_at_call 22; refine (hQ2' _ (kk.trans' k6)).mono ?_; rintro e w7 ⟨A7, rfl, s7, k7⟩)
              | (go_at_call 22; refine (hQ1' _ kk).mono ?_; rintro e w6 ⟨A6, rfl, s6, k6⟩)
              | (have h := k9; go_at_call 11; refine (x_places (s7.kept k9) (fun p hp => by have := hJb.out p hp; omega) hJt.out (by omega) hJP.out).mono ?_; rintro e w10 ⟨A10, c10, rfl, s10, k10⟩)
              | (go_at_call 11; refine (x_places (s6.kept k7) (fun p hp => by have := hJb.out p hp; omega) hJt.out (by omega) hJP.out).mono ?_; rintro e w9 ⟨A9, c9, rfl, s9, k9⟩)
              | (go_at_call 19; refine (same_yes A9 A10 P.length c9 c10 P _ (s9.kept k10) s10 (by omega)).mono ?_; rintro e w11 ⟨rfl, k11⟩)
              | (go_at_call 16; refine (lives_any _).mono ?_; rintro e w12 ⟨rfl, k12⟩))
            go_ret
            exact ⟨rfl, kwr.trans' ((((((kk.trans' k6).trans' k7).trans' k9).trans' k10).trans' k11).trans' k12)⟩
end Go.Proofs.Ytdkinfglpnajmaa
