

/- The walk of BuffersCut. -/
import Derived.Test.YtdkinfglpnajmaaChecked
import Derived.Deep.RegionHeld3
import Derived.Deep.DrawnRows
import Derived.Deep.DeepCutAuto
import Derived.Deep.LoopGhost
import Derived.Outline
import Derived.Handy
import Derived.OwnWalk
import Derived.IntWalk
import Derived.Test.YtdkinfglpnajmaaLb
set_option linter.unusedVariables false
set_option linter.unusedSimpArgs false
set_option linter.unusedSectionVars false
namespace Go.Proofs.Ytdkinfglpnajmaa
open Go.RowKit
attribute [local go_sem ↓] Go.wp_at_zero Go.wp_at_succ

theorem int_at {W : World} {F : Nat → Prop} {D : Option Addr} {n j : Nat} {zs : List Int} {z : Int} (h : Sl inT W F D n zs) (hx : zs[j]? = some z) : ∃ b off, D = some ⟨b, off, none⟩ ∧ F b ∧ W.cell? ⟨b, off + j, none⟩ = some (.int .i64 z) := by
  obtain ⟨b, off, cs, hA, hF, ⟨rfl, _⟩, hc⟩ := h.2 j z hx
  have h0 := hc 0 _ rfl
  simp only [inT, Ty.flat, Nat.add_zero, Nat.mul_one] at h0
  exact ⟨b, off, hA, hF, h0⟩
theorem sl_int {W : World} {F : Nat → Prop} {D : Option Addr} {n : Nat} {zs : List Int} (hn : zs.length = n) (h : ∀ j z, zs[j]? = some z → ∃ b off, D = some ⟨b, off, none⟩ ∧ F b ∧ W.cell? ⟨b, off + j, none⟩ = some (.int .i64 z)) : Sl inT W F D n zs :=
  ⟨hn, fun j z hx => by
    obtain ⟨b, off, hA, hF, hc⟩ := h j z hx
    refine ⟨b, off, [.int .i64 z], hA, hF, ⟨rfl, trivial⟩, fun i v hv => ?_⟩
    match i, hv with
    | 0, hv =>
      cases hv
      simp only [inT, Ty.flat, Nat.mul_one, Nat.add_zero]
      exact hc⟩
/-- a part of a slice of numbers -/
theorem ipart (D : Option Addr) (n c f k : Nat) (h : f + k ≤ n) (hnc : n ≤ c) : ∃ D', (∀ W, (Instr.slice 27 (.slice D n c) (some (.int .i64 (f : Int))) (some (.int .i64 ((f : Int) + (k : Int)))) none).run Try.prog W = .ok (.slice D' k (c - f)) W ∧ (Instr.sliceAt 27 (.slice D n c) (some (.int .i64 (f : Int))) (some (.int .i64 ((f : Int) + (k : Int)))) none).run Try.prog W = .ok (.slice D' k (c - f)) W) ∧
    ∀ W F zs, Sl inT W F D n zs → Sl inT W F D' k ((zs.drop f).take k) := by
  have hel : Try.prog.elem 27 = 3 := by kernel_rfl
  have d5 : ((f : Int) + (k : Int)).toNat - f = k := by omega
  have hs : ∀ W, (Instr.slice 27 (.slice D n c) (some (.int .i64 (f : Int))) (some (.int .i64 ((f : Int) + (k : Int)))) none).run Try.prog W = .ok (sliced D f (f + k) c 1) W := fun W => by
    rw [run_slice_lh (w := W) 27 _ n c (by rw [hel]; exact Try.underlying27) .i64 .i64 (f : Int) ((f : Int) + (k : Int)) (by omega) (by omega) (by omega), hel, Try.sizeOf3]
    have e1 : ((f : Int) + (k : Int)).toNat = f + k := by omega
    simp only [Result.andThen, e1, Int.toNat_natCast]
  have e2 : sliced D f (f + k) c 1 = .slice (if c = f then D else D.map fun a : Addr => a.add (f * 1)) k (c - f) := by
    unfold sliced
    rw [show f + k - f = k by omega]
  refine ⟨if c = f then D else D.map fun a : Addr => a.add (f * 1), fun W => ⟨by rw [hs W, e2], ?_⟩, fun W F zs hz => ?_⟩
  · rw [run_sliceAt_slice (w := W) 27 _ _ _ _ (by rw [hel]; exact Try.underlying27), hs, e2]
  · have hl := hz.1
    refine sl_int (by rw [List.length_take, List.length_drop, hl]; omega) (fun j z hx => ?_)
    rw [List.getElem?_take] at hx
    split at hx
    · rw [List.getElem?_drop] at hx
      have hj := (List.getElem?_eq_some_iff.1 hx).1
      obtain ⟨b, off, hA, hF, hc⟩ := int_at hz hx
      refine ⟨b, off + f, ?_, hF, by rw [Nat.add_assoc]; exact hc⟩
      rw [if_neg (by omega), hA]
      simp [Addr.add_mid]
    · cases hx
set_option maxRecDepth 100000 in
set_option maxHeartbeats 2000000 in
theorem cut_bad (A : Option Addr) (n c : Nat) (x : List (UInt8 × UInt8)) (f k : Int) (w : World) (hl : Sl ppT w (low w.heap.size) A n x) (hnc : n ≤ c) (hc : c ≤ maxLen) (hf : i64 f) (hk : i64 k) (ha : f < 0 ∨ k < 0 ∨ total (ofL x) < k ∨ total (ofL x) - k < f) :
    Calls Try.prog 5 #[.slice A n c, .int .i64 f, .int .i64 k] w fun e w' => e = .returned (.bool true) ∧ Kept w w' := by
  have hof := x_of hl hnc hc
  have hL20 := ofL_len x
  have hsm := Lib.hid (ofL_small x)
  have htt := Lib.hid (ofL_total x)
  have hk2 := Lib.hid (ofL_chk x (size := 9223372036854775807) (by omega))
  have hpl0 := ofL_plen x
  have hpt := places_len (ofL_ok x)
  generalize ofL x = l at *
  generalize hP : places l = P at *
  replace hP := Lib.hid hP
  have hcut : ∀ (w' : World) (A1 : Option Addr) (c1 : Nat), Sl pcT w' (low w'.heap.size) A1 l.length l → _ := fun w' A1 c1 h => cutN_arg A1 l.length c1 l f k w' h hk2.out hf hk ha
  obtain ⟨hf1, hf2⟩ := hf
  obtain ⟨hk1, hk3⟩ := hk
  go_enter Try.func5, Try.ntmps5
  go_upto_region 4 with (first
    | (go_at_call 10; refine hof.mono ?_; rintro e w1 ⟨A1, c1, rfl, s1, _, _, k1⟩)
    | (go_at_call 11; refine (x_places s1 hsm.out (by have := htt.out; omega) (by omega) hP.out).mono ?_; rintro e w2 ⟨A2, c2, rfl, s2, k2⟩)
    | (go_at_call 18; refine (hcut _ A1 c1 (s1.kept k2)).mono ?_; rintro e w3 ⟨rfl, k3⟩))
  have kw3 := (k1.trans' k2).trans' k3
  rw [← hpt] at ha
  clear hcut hof s1 s2 hsm htt hk2 hpt hP
  generalize P.length = T at *
  have hT0 : (0 : Int) ≤ T := by omega
  by_cases c1 : f < 0
  · clear ha
    go_wp2_with (go_at_call 16; refine (lives_any _).mono ?_; rintro e w4 ⟨rfl, k4⟩)
    go_ret
    exact ⟨rfl, kw3.trans' k4⟩
  have c1' : 0 ≤ f := by omega
  by_cases c2 : k < 0
  · clear ha c1
    go_wp2_with (go_at_call 16; refine (lives_any _).mono ?_; rintro e w4 ⟨rfl, k4⟩)
    go_ret
    exact ⟨rfl, kw3.trans' k4⟩
  have c2' : 0 ≤ k := by omega
  by_cases c3 : (T : Int) < k
  · clear ha c1 c2
    go_wp2_with (go_at_call 16; refine (lives_any _).mono ?_; rintro e w4 ⟨rfl, k4⟩)
    go_ret
    exact ⟨rfl, kw3.trans' k4⟩
  have c4 : (T : Int) - k < f := by omega
  have c3' : k ≤ (T : Int) := by omega
  clear ha c1 c2 c3
  go_wp2_with (go_at_call 16; refine (lives_any _).mono ?_; rintro e w4 ⟨rfl, k4⟩)
  go_ret
  exact ⟨rfl, kw3.trans' k4⟩
theorem x_places2 {A : Option Addr} {n c : Nat} {l : List Pc} {ps : List Int} {W : World} (hl : Sl pcT W (low W.heap.size) A n l) (hb : ∀ p ∈ l, 0 ≤ p.pos ∧ p.pos ≤ 64 ∧ 0 ≤ p.len) (ht : total l ≤ 65536) (hn : n ≤ 2000) (hp : places l = ps) : Calls Try.prog 11 #[.slice A n c] W fun e w' => ∃ A' c', e = .returned (.slice A' ps.length c') ∧ Sl inT w' (low w'.heap.size) A' ps.length ps ∧ ps.length ≤ c' ∧ Kept W w' := by
  refine (places_any A n c l W hl (fun p h => ⟨(hb p h).1, (hb p h).2.2⟩) ht (fun p h => by have := hb p h; omega) hn).mono ?_
  rintro e w' ⟨v, m, rfl, h1, h2⟩
  rw [hp] at h1
  obtain ⟨A', c', rfl, h3, _⟩ := h1.isSlice
  have hm := h1.1
  subst hm
  exact ⟨A', c', rfl, h1.sl, h3, h2⟩
theorem many_step {l : List Pc} {k : Nat} {p : Pc} (h : l[k]? = some p) (f t : Int) : (win 0 f t (l.take (k + 1))).length = (win 0 f t (l.take k)).length + (if max (total (l.take k)) f < min (total (l.take k) + p.len) t then 1 else 0) := by
  rw [win_one h, List.length_append]
  congr 1
  by_cases hc : max (f - total (l.take k)) 0 < min (t - total (l.take k)) p.len
  · rw [if_pos hc, if_pos (by omega)]; rfl
  · rw [if_neg hc, if_neg (by omega)]; rfl
set_option maxRecDepth 100000 in
set_option maxHeartbeats 4000000 in
theorem cut_good (A : Option Addr) (n c : Nat) (x : List (UInt8 × UInt8)) (f k : Nat) (w : World) (hl : Sl ppT w (low w.heap.size) A n x) (hnc : n ≤ c) (hc : c ≤ maxLen) (ha : (f : Int) + k ≤ total (ofL x)) :
    Calls Try.prog 5 #[.slice A n c, .int .i64 (f : Int), .int .i64 (k : Int)] w fun e w' => e = .returned (.bool true) ∧ Kept w w' := by
  have hof := x_of hl hnc hc
  have hL20 := ofL_len x
  have hsm := Lib.hid (ofL_small x)
  have htt := Lib.hid (ofL_total x)
  have hok := Lib.hid (ofL_ok x)
  have h64b := Lib.hid (show ∀ p ∈ ofL x, 0 ≤ p.pos ∧ 0 ≤ p.len ∧ p.pos + p.len ≤ 64 from fun p hp => by have := ofL_bd p hp; omega)
  have hk2 := Lib.hid (ofL_chk x (size := 9223372036854775807) (by omega))
  have hpl0 := ofL_plen x
  have hpt := places_len (ofL_ok x)
  generalize ofL x = l at *
  have hcut : ∀ (w' : World) (A1 : Option Addr) (c1 : Nat), Sl pcT w' (low w'.heap.size) A1 l.length l → _ := fun w' A1 c1 h => cutN_ok A1 l.length c1 l (f : Int) (k : Int) w' h hk2.out (by omega) (by omega) ha
  have hWpos := Lib.hid (win_posL 0 (f : Int) ((f : Int) + k) hok.out)
  have hWsm := Lib.hid (fun q hq => win_le_pos (l := l) (size := 64) h64b.out (a := 0) (f := (f : Int)) (t := (f : Int) + k) q hq)
  have hWl := Lib.hid (win_le l 0 (f : Int) ((f : Int) + k))
  have hWp := Lib.hid (show places (win 0 (f : Int) ((f : Int) + k) l) = ((places l).drop f).take k by
    rw [win_part hok.out _ _ (by omega), show ((f : Int) + k).toNat = f + k by omega, Int.toNat_natCast, List.drop_take, show f + k - f = k by omega])
  have hMany := Lib.hid (show ∀ j p, l[j]? = some p → _ from fun j p h => many_step h (f : Int) ((f : Int) + k))
  have hfull := Lib.hid (show l.take l.length = l from List.take_length)
  have hlen := Lib.hid (show (((places l).drop f).take k).length = k by rw [List.length_take, List.length_drop]; omega)
  have hWt := Lib.hid (show total (win 0 (f : Int) ((f : Int) + k) l) ≤ 1280 from by
    rw [← places_len (win_ok 0 (f : Int) ((f : Int) + k) hok.out), hWp.out, hlen.out]
    have := htt.out; omega)
  generalize hW : win 0 (f : Int) ((f : Int) + k) l = Wn at *
  replace hW := Lib.hid hW
  generalize hP : places l = P at *
  replace hP := Lib.hid hP
  obtain ⟨K, hK⟩ : ∃ K, Wn.length = K := ⟨_, rfl⟩
  rw [hK] at hcut
  have hK20 : K ≤ 20 := by have := hWl.out; omega
  replace hK := Lib.hid hK
  go_enter Try.func5, Try.ntmps5
  go_upto_region 4 with (first
    | (go_at_call 10; refine hof.mono ?_; rintro e w1 ⟨A1, c1, rfl, s1, _, _, k1⟩)
    | (go_at_call 11; refine (x_places2 s1 hsm.out (by have := htt.out; omega) (by omega) hP.out).mono ?_; rintro e w2 ⟨A2, c2, rfl, s2, hc2, k2⟩)
    | (go_at_call 18; refine (hcut _ A1 c1 (s1.kept k2)).mono ?_; rintro e w3 ⟨A3, rfl, s3, k3⟩))
  have kw3 := (k1.trans' k2).trans' k3
  have a1 := (s1.kept k2).kept k3
  have a2 := s2.kept k3
  obtain ⟨D2, hip, hipS⟩ := ipart A2 P.length c2 f k (by omega) hc2
  have hip1 := fun W => (hip W).1
  have hip2 := fun W => (hip W).2
  have hD2 := hipS w3 _ _ a2
  have hpl := Lib.hid (fun w' (hk : Kept w3 w') => x_places (c := K) (s3.kept hk) (fun p hp => by have h1 := hWpos.out p hp; have h2 := hWsm.out p hp; omega) (by have := hWt.out; omega) (by omega) hWp.out)
  have hTl := Lib.hid (fun j => total_take_le hok.out j)
  have ht1 := htt.out
  generalize hPl : ((P.drop f).take k) = Pk at *
  rw [hlen.out] at hpl
  clear hip hcut hof s1 s2 hsm hc2 hipS
  have hl0 := hok.out
  generalize hm : l.length = m at *
  generalize hT : P.length = T at *
  replace hm := Lib.hid hm
  have g0 : (0 : Int) ≤ (f : Int) := by omega
  have g1 : (0 : Int) ≤ (k : Int) := by omega
  have g2 : (k : Int) ≤ (T : Int) := by omega
  have g3 : (f : Int) ≤ (T : Int) - (k : Int) := by omega
  have g4 : IntKind.i64.wrap ((f : Int) + (k : Int)) = (f : Int) + (k : Int) := IntWalk.i64_in _ ⟨by omega, by omega⟩
  have g5 : IntKind.i64.wrap ((T : Int) - (k : Int)) = (T : Int) - (k : Int) := IntWalk.i64_in _ ⟨by omega, by omega⟩
  have hfk : (f : Int) + (k : Int) ≤ 2000 := by omega
  replace hpt := Lib.hid hpt
  replace hl0 := Lib.hid hl0
  have q1 : decide ((f : Int) < 0) = false := by simp
  have q2 : decide ((k : Int) < 0) = false := by simp
  have q3 : decide (T < k) = false := by simp; omega
  have q4 : decide ((T : Int) - (k : Int) < (f : Int)) = false := by simp; omega
  have q5 : decide ((T : Int) < (k : Int)) = false := by simp; omega
  clear ha
  go_wp2_with fail
  go_loopg [11, 12, 13] m (fun g s11 s12 s13 wr => ∃ (j N : Nat) (z : Int), j + g = m ∧ s13 = .int .i64 (j : Int) ∧ Hid (N = (win 0 (f : Int) ((f : Int) + k) (l.take j)).length) ∧ N ≤ j ∧ s11 = .int .i64 (N : Int) ∧ Hid (z = total (l.take j)) ∧ s12 = .int .i64 z ∧ Kept w3 wr)
  case atStart => exact ⟨0, 0, 0, by omega, by rfl, Lib.hid rfl, Nat.le_refl _, by rfl, Lib.hid rfl, by rfl, Below.refl _ _⟩
  case round =>
    obtain ⟨j, N, z, hj, rfl, hN, hNj, rfl, hz, rfl, hkw⟩ := hrel
    have hb := hTl.out j
    rw [← hz.out] at hb
    obtain ⟨hb1, hb2⟩ := hb
    by_cases hlt : j < m
    · obtain ⟨p, b, off, hx, rfl, hbb, hbw, d0, d1⟩ := pc_at a1 hkw hlt
      have hp1 := (hl0.out p (List.mem_of_getElem? hx)).2
      have hb3 := (hTl.out (j + 1)).2
      have htk := Lib.hid (take_total hx)
      rw [htk.out, ← hz.out] at hb3
      have hst := hMany.out j p hx
      rw [← hz.out, ← hN.out] at hst
      have hj' : (j : Int) < (m : Int) := by omega
      have hw1 : IntKind.i64.wrap (z + p.len) = z + p.len := IntWalk.i64_in _ ⟨by omega, by omega⟩
      have hmx : (if z < (f : Int) then (f : Int) else z) = max z f := by split <;> omega
      have hmn : (if (f : Int) + (k : Int) < z + p.len then (f : Int) + (k : Int) else z + p.len) = min (z + p.len) ((f : Int) + k) := by split <;> omega
      generalize max z (f : Int) = MX at *
      generalize min (z + p.len) ((f : Int) + k) = MN at *
      clear hx
      by_cases hc : MX < MN
      · rw [if_pos hc] at hst
        replace hst := Lib.hid hst
        go_wp2_with fail
        go_roundg (gk - 1)
        case measure => omega
        case rel => exact ⟨j + 1, N + 1, z + p.len, by omega, by go_num, Lib.hid hst.out.symm, by omega, by go_num, Lib.hid (by rw [htk.out, hz.out]), by go_num, hkw⟩
      · rw [if_neg hc] at hst
        replace hst := Lib.hid hst
        have hc' : MN ≤ MX := by omega
        go_wp2_with fail
        go_roundg (gk - 1)
        case measure => omega
        case rel => exact ⟨j + 1, N, z + p.len, by omega, by go_num, Lib.hid (by have := hst.out; omega), by omega, by go_num, Lib.hid (by rw [htk.out, hz.out]), by go_num, hkw⟩
    · have hjm : j = m := by omega
      have hNK : N = K := by
        rw [hN.out, hjm, hfull.out, ← hK.out, hW.out]
      subst hNK
      have hj' : (m : Int) ≤ (j : Int) := by omega
      have hpl1 := hpl.out _ hkw
      have hfu := fun w' (hk' : Kept w3 w') => full_yes A3 N Wn w' (s3.kept hk') (fun p hp => (hWpos.out p hp).2) (by omega)
      have hsame := fun w' A5 c5 (h5 : Sl inT w' (low w'.heap.size) A5 k Pk) (hk' : Kept w3 w') => same_yes A5 D2 k c5 (c2 - f) Pk w' h5 (hD2.kept hk') (by omega)
      clear q1 q2 q3 q4 q5
      go_upto_region 13 with fail
      refine wp_region_held_drew (S := fun w' => Kept wr w' ∧ True) (by kernel_rfl) ⟨(Below.refl _ wr).drew, trivial⟩ (fun hS => ?_)
      refine wpAnyH_take (i := 0) (v := ?_) rfl (by kernel_rfl) (by kernel_rfl) (by kernel_rfl) (fun _ _ _ h => h) (Or.inl ⟨by kernel_rfl, ?_⟩) hS ?_
      rotate_left
      · intro w' hS'
        have hq := hS'.1
        have hq2 := hS'.2
        clear hS'
        first | (go_simp; done) | (go_simp; with_reducible rfl)
      try simp only [Act.put, List.getElem_toArray, List.getElem_cons_zero, List.getElem_cons_succ, List.setIfInBounds_toArray, List.set_cons_zero, List.set_cons_succ]
      refine wpAnyH_take (i := 1) (v := ?_) rfl (by kernel_rfl) (by kernel_rfl) (by kernel_rfl) (fun _ _ _ h => h) (Or.inl ⟨by kernel_rfl, ?_⟩) hS ?_
      rotate_left
      · intro w' hS'
        have hq := hS'.1
        have hq2 := hS'.2
        clear hS'
        first | (go_simp; done) | (go_simp; with_reducible rfl)
      try simp only [Act.put, List.getElem_toArray, List.getElem_cons_zero, List.getElem_cons_succ, List.setIfInBounds_toArray, List.set_cons_zero, List.set_cons_succ]
      refine wpAnyH_take (i := 2) (v := ?_) rfl (by kernel_rfl) (by kernel_rfl) (by kernel_rfl) (fun _ _ _ h => h) (Or.inl ⟨by kernel_rfl, ?_⟩) hS ?_
      rotate_left
      · intro w' hS'
        have hq := hS'.1
        have hq2 := hS'.2
        clear hS'
        first | (go_simp; done) | (go_simp; with_reducible rfl)
      try simp only [Act.put, List.getElem_toArray, List.getElem_cons_zero, List.getElem_cons_succ, List.setIfInBounds_toArray, List.set_cons_zero, List.set_cons_succ]
      refine wpAnyH_take (i := 3) (v := ?_) rfl (by kernel_rfl) (by kernel_rfl) (by kernel_rfl) (fun _ _ _ h => h) (Or.inl ⟨by kernel_rfl, ?_⟩) hS ?_
      rotate_left
      · intro w' hS'
        have hq := hS'.1
        have hq2 := hS'.2
        clear hS'
        first | (go_simp; done) | (go_simp; with_reducible rfl)
      try simp only [Act.put, List.getElem_toArray, List.getElem_cons_zero, List.getElem_cons_succ, List.setIfInBounds_toArray, List.set_cons_zero, List.set_cons_succ]
      refine wpAnyH_take (i := 5) (v := ?_) rfl (by kernel_rfl) (by kernel_rfl) (by kernel_rfl) (fun _ _ _ h => h) (Or.inl ⟨by kernel_rfl, ?_⟩) hS ?_
      rotate_left
      · intro w' hS'
        have hq := hS'.1
        have hq2 := hS'.2
        clear hS'
        first | (go_simp; done) | (go_simp; with_reducible rfl)
      try simp only [Act.put, List.getElem_toArray, List.getElem_cons_zero, List.getElem_cons_succ, List.setIfInBounds_toArray, List.set_cons_zero, List.set_cons_succ]
      refine wpAnyH_take (i := 6) (v := ?_) rfl (by kernel_rfl) (by kernel_rfl) (by kernel_rfl) (fun _ _ _ h => h) (Or.inl ⟨by kernel_rfl, ?_⟩) hS ?_
      rotate_left
      · intro w' hS'
        have hq := hS'.1
        have hq2 := hS'.2
        clear hS'
        first | (go_simp; done) | (go_simp; with_reducible rfl)
      try simp only [Act.put, List.getElem_toArray, List.getElem_cons_zero, List.getElem_cons_succ, List.setIfInBounds_toArray, List.set_cons_zero, List.set_cons_succ]
      refine wpAnyH_take (i := 7) (v := ?_) rfl (by kernel_rfl) (by kernel_rfl) (by kernel_rfl) (fun _ _ _ h => h) (Or.inl ⟨by kernel_rfl, ?_⟩) hS ?_
      rotate_left
      · intro w' hS'
        have hq := hS'.1
        have hq2 := hS'.2
        clear hS'
        first | (go_simp; done) | (go_simp; with_reducible rfl)
      try simp only [Act.put, List.getElem_toArray, List.getElem_cons_zero, List.getElem_cons_succ, List.setIfInBounds_toArray, List.set_cons_zero, List.set_cons_succ]
      refine wpAnyH_take (i := 8) (v := ?_) rfl (by kernel_rfl) (by kernel_rfl) (by kernel_rfl) (fun _ _ _ h => h) (Or.inl ⟨by kernel_rfl, ?_⟩) hS ?_
      rotate_left
      · intro w' hS'
        have hq := hS'.1
        have hq2 := hS'.2
        clear hS'
        first | (go_simp; done) | (go_simp; with_reducible rfl)
      try simp only [Act.put, List.getElem_toArray, List.getElem_cons_zero, List.getElem_cons_succ, List.setIfInBounds_toArray, List.set_cons_zero, List.set_cons_succ]
      refine wpAnyH_take (i := 9) (v := ?_) rfl (by kernel_rfl) (by kernel_rfl) (by kernel_rfl) (fun _ _ _ h => h) (Or.inl ⟨by kernel_rfl, ?_⟩) hS ?_
      rotate_left
      · intro w' hS'
        have hq := hS'.1
        have hq2 := hS'.2
        clear hS'
        first | (go_simp; done) | (go_simp; with_reducible rfl)
      try simp only [Act.put, List.getElem_toArray, List.getElem_cons_zero, List.getElem_cons_succ, List.setIfInBounds_toArray, List.set_cons_zero, List.set_cons_succ]
      refine wpAnyH_take (i := 10) (v := ?_) rfl (by kernel_rfl) (by kernel_rfl) (by kernel_rfl) (fun _ _ _ h => h) (Or.inl ⟨by kernel_rfl, ?_⟩) hS ?_
      rotate_left
      · intro w' hS'
        have hq := hS'.1
        have hq2 := hS'.2
        clear hS'
        first | (go_simp; done) | (go_simp; with_reducible rfl)
      try simp only [Act.put, List.getElem_toArray, List.getElem_cons_zero, List.getElem_cons_succ, List.setIfInBounds_toArray, List.set_cons_zero, List.set_cons_succ]
      refine wpAnyH_ready (rs := [4]) (by kernel_rfl) (by simp) ?_
      refine AllReadyH.cons rfl (fun K hK => ?_) AllReadyH.nil
      go_simp
      go_at_call 11
      refine (hpl.out _ (hkw.trans' hS.1)).mono ?_
      rintro e5 w5 ⟨A5, c5, rfl, s5, k5⟩
      try dsimp only
      refine hK.out _ _ ?_ (fun hS => ?_)
      · exact ⟨hS.1.trans' k5, trivial⟩
      clear hK K
      try simp only [Act.put, List.getElem_toArray, List.getElem_cons_zero, List.getElem_cons_succ, List.setIfInBounds_toArray, List.set_cons_zero, List.set_cons_succ]
      refine wpAnyH_ready (rs := [11]) (by kernel_rfl) (by simp) ?_
      refine AllReadyH.cons rfl (fun K hK => ?_) AllReadyH.nil
      go_simp
      go_at_call 19
      refine (hsame _ A5 c5 s5 (hkw.trans' hS.1)).mono ?_
      rintro e6 w6 ⟨rfl, k6⟩
      try dsimp only
      refine hK.out _ _ ?_ (fun hS => ?_)
      · exact ⟨hS.1.trans' k6, trivial⟩
      clear hK K
      try simp only [Act.put, List.getElem_toArray, List.getElem_cons_zero, List.getElem_cons_succ, List.setIfInBounds_toArray, List.set_cons_zero, List.set_cons_succ]
      refine wpAnyH_take (i := 12) (v := ?_) rfl (by kernel_rfl) (by kernel_rfl) (by kernel_rfl) (fun _ _ _ h => h) (Or.inl ⟨by kernel_rfl, ?_⟩) hS ?_
      rotate_left
      · intro w' hS'
        have hq := hS'.1
        have hq2 := hS'.2
        clear hS'
        first | (go_simp; done) | (go_simp; with_reducible rfl)
      try simp only [Act.put, List.getElem_toArray, List.getElem_cons_zero, List.getElem_cons_succ, List.setIfInBounds_toArray, List.set_cons_zero, List.set_cons_succ]
      refine wpAnyH_take (i := 13) (v := ?_) rfl (by kernel_rfl) (by kernel_rfl) (by kernel_rfl) (fun _ _ _ h => h) (Or.inl ⟨by kernel_rfl, ?_⟩) hS ?_
      rotate_left
      · intro w' hS'
        have hq := hS'.1
        have hq2 := hS'.2
        clear hS'
        first | (go_simp; done) | (go_simp; with_reducible rfl)
      try simp only [Act.put, List.getElem_toArray, List.getElem_cons_zero, List.getElem_cons_succ, List.setIfInBounds_toArray, List.set_cons_zero, List.set_cons_succ]
      refine wpAnyH_take (i := 14) (v := ?_) rfl (by kernel_rfl) (by kernel_rfl) (by kernel_rfl) (fun _ _ _ h => h) (Or.inl ⟨by kernel_rfl, ?_⟩) hS ?_
      rotate_left
      · intro w' hS'
        have hq := hS'.1
        have hq2 := hS'.2
        clear hS'
        first | (go_simp; done) | (go_simp; with_reducible rfl)
      try simp only [Act.put, List.getElem_toArray, List.getElem_cons_zero, List.getElem_cons_succ, List.setIfInBounds_toArray, List.set_cons_zero, List.set_cons_succ]
      refine wpAnyH_take (i := 15) (v := ?_) rfl (by kernel_rfl) (by kernel_rfl) (by kernel_rfl) (fun _ _ _ h => h) (Or.inl ⟨by kernel_rfl, ?_⟩) hS ?_
      rotate_left
      · intro w' hS'
        have hq := hS'.1
        have hq2 := hS'.2
        clear hS'
        first | (go_simp; done) | (go_simp; with_reducible rfl)
      try simp only [Act.put, List.getElem_toArray, List.getElem_cons_zero, List.getElem_cons_succ, List.setIfInBounds_toArray, List.set_cons_zero, List.set_cons_succ]
      refine wpAnyH_take (i := 16) (v := ?_) rfl (by kernel_rfl) (by kernel_rfl) (by kernel_rfl) (fun _ _ _ h => h) (Or.inl ⟨by kernel_rfl, ?_⟩) hS ?_
      rotate_left
      · intro w' hS'
        have hq := hS'.1
        have hq2 := hS'.2
        clear hS'
        first | (go_simp; done) | (go_simp; with_reducible rfl)
      try simp only [Act.put, List.getElem_toArray, List.getElem_cons_zero, List.getElem_cons_succ, List.setIfInBounds_toArray, List.set_cons_zero, List.set_cons_succ]
      refine wpAnyH_take (i := 17) (v := ?_) rfl (by kernel_rfl) (by kernel_rfl) (by kernel_rfl) (fun _ _ _ h => h) (Or.inl ⟨by kernel_rfl, ?_⟩) hS ?_
      rotate_left
      · intro w' hS'
        have hq := hS'.1
        have hq2 := hS'.2
        clear hS'
        first | (go_simp; done) | (go_simp; with_reducible rfl)
      try simp only [Act.put, List.getElem_toArray, List.getElem_cons_zero, List.getElem_cons_succ, List.setIfInBounds_toArray, List.set_cons_zero, List.set_cons_succ]
      refine wpAnyH_take (i := 18) (v := ?_) rfl (by kernel_rfl) (by kernel_rfl) (by kernel_rfl) (fun _ _ _ h => h) (Or.inl ⟨by kernel_rfl, ?_⟩) hS ?_
      rotate_left
      · intro w' hS'
        have hq := hS'.1
        have hq2 := hS'.2
        clear hS'
        first | (go_simp; done) | (go_simp; with_reducible rfl)
      try simp only [Act.put, List.getElem_toArray, List.getElem_cons_zero, List.getElem_cons_succ, List.setIfInBounds_toArray, List.set_cons_zero, List.set_cons_succ]
      refine wpAnyH_take (i := 19) (v := ?_) rfl (by kernel_rfl) (by kernel_rfl) (by kernel_rfl) (fun _ _ _ h => h) (Or.inl ⟨by kernel_rfl, ?_⟩) hS ?_
      rotate_left
      · intro w' hS'
        have hq := hS'.1
        have hq2 := hS'.2
        clear hS'
        first | (go_simp; done) | (go_simp; with_reducible rfl)
      try simp only [Act.put, List.getElem_toArray, List.getElem_cons_zero, List.getElem_cons_succ, List.setIfInBounds_toArray, List.set_cons_zero, List.set_cons_succ]
      refine wpAnyH_take (i := 20) (v := ?_) rfl (by kernel_rfl) (by kernel_rfl) (by kernel_rfl) (fun _ _ _ h => h) (Or.inl ⟨by kernel_rfl, ?_⟩) hS ?_
      rotate_left
      · intro w' hS'
        have hq := hS'.1
        have hq2 := hS'.2
        clear hS'
        first | (go_simp; done) | (go_simp; with_reducible rfl)
      try simp only [Act.put, List.getElem_toArray, List.getElem_cons_zero, List.getElem_cons_succ, List.setIfInBounds_toArray, List.set_cons_zero, List.set_cons_succ]
      refine wpAnyH_ready (rs := [21]) (by kernel_rfl) (by simp) ?_
      refine AllReadyH.cons rfl (fun K hK => ?_) AllReadyH.nil
      go_simp
      go_at_call 20
      refine (hfu _ (hkw.trans' hS.1)).mono ?_
      rintro e7 w7 ⟨rfl, k7⟩
      try dsimp only
      refine hK.out _ _ ?_ (fun hS => ?_)
      · exact ⟨hS.1.trans' k7, trivial⟩
      clear hK K
      try simp only [Act.put, List.getElem_toArray, List.getElem_cons_zero, List.getElem_cons_succ, List.setIfInBounds_toArray, List.set_cons_zero, List.set_cons_succ]
      refine wpAnyH_take (i := 22) (v := ?_) rfl (by kernel_rfl) (by kernel_rfl) (by kernel_rfl) (fun _ _ _ h => h) (Or.inl ⟨by kernel_rfl, ?_⟩) hS ?_
      rotate_left
      · intro w' hS'
        have hq := hS'.1
        have hq2 := hS'.2
        clear hS'
        first | (go_simp; done) | (go_simp; with_reducible rfl)
      try simp only [Act.put, List.getElem_toArray, List.getElem_cons_zero, List.getElem_cons_succ, List.setIfInBounds_toArray, List.set_cons_zero, List.set_cons_succ]
      refine wpAnyH_take (i := 23) (v := ?_) rfl (by kernel_rfl) (by kernel_rfl) (by kernel_rfl) (fun _ _ _ h => h) (Or.inl ⟨by kernel_rfl, ?_⟩) hS ?_
      rotate_left
      · intro w' hS'
        have hq := hS'.1
        have hq2 := hS'.2
        clear hS'
        first | (go_simp; done) | (go_simp; with_reducible rfl)
      try simp only [Act.put, List.getElem_toArray, List.getElem_cons_zero, List.getElem_cons_succ, List.setIfInBounds_toArray, List.set_cons_zero, List.set_cons_succ]
      refine wpAnyH_ready (rs := [24]) (by kernel_rfl) (by simp) ?_
      refine AllReadyH.cons rfl (fun K hK => ?_) AllReadyH.nil
      go_simp
      go_at_call 16
      refine (lives_any _).mono ?_
      rintro e8 w8 ⟨rfl, k8⟩
      try dsimp only
      refine hK.out _ _ ?_ (fun hS => ?_)
      · exact ⟨hS.1.trans' k8, trivial⟩
      clear hK K
      try simp only [Act.put, List.getElem_toArray, List.getElem_cons_zero, List.getElem_cons_succ, List.setIfInBounds_toArray, List.set_cons_zero, List.set_cons_succ]
      refine wpAnyH_take (i := 25) (v := ?_) rfl (by kernel_rfl) (by kernel_rfl) (by kernel_rfl) (fun _ _ _ h => h) (Or.inl ⟨by kernel_rfl, ?_⟩) hS ?_
      rotate_left
      · intro w' hS'
        have hq := hS'.1
        have hq2 := hS'.2
        clear hS'
        first | (go_simp; done) | (go_simp; with_reducible rfl)
      try simp only [Act.put, List.getElem_toArray, List.getElem_cons_zero, List.getElem_cons_succ, List.setIfInBounds_toArray, List.set_cons_zero, List.set_cons_succ]
      refine wpAnyH_take (i := 26) (v := ?_) rfl (by kernel_rfl) (by kernel_rfl) (by kernel_rfl) (fun _ _ _ h => h) (Or.inl ⟨by kernel_rfl, ?_⟩) hS ?_
      rotate_left
      · intro w' hS'
        have hq := hS'.1
        have hq2 := hS'.2
        clear hS'
        first | (go_simp; done) | (go_simp; with_reducible rfl)
      try simp only [Act.put, List.getElem_toArray, List.getElem_cons_zero, List.getElem_cons_succ, List.setIfInBounds_toArray, List.set_cons_zero, List.set_cons_succ]
      refine wpAnyH_done (by kernel_rfl) ?_ _
      go_wp2_with fail
      go_ret
      exact ⟨rfl, kw3.trans' (hkw.trans' hS.1)⟩
end Go.Proofs.Ytdkinfglpnajmaa
