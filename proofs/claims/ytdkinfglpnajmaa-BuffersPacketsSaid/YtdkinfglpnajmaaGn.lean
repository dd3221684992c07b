
import Derived.Shelf.Abstract
import Derived.Shelf.RegionOpen
import Derived.WalkKit
import Derived.OwnWalkIn
import Derived.TacticsInMore
import Derived.LoopNIn
import Derived.LoopIn
import Derived.Maps.AppendAt
import Derived.Test.YtdkinfglpnajmaaChecked


/- Pages: pieces divided at pages. -/
import Derived.Test.YtdkinfglpnajmaaGm
set_option linter.unusedVariables false
set_option linter.unusedSimpArgs false
set_option linter.unusedSectionVars false
namespace Go.Proofs.Ytdkinfglpnajmaa
open Go.RowKit Go.Shelf

attribute [local go_sem] Oper.semAt_some

theorem pg_fuel {page : Int} (hp : 1 ≤ page) : ∀ (f f' : Nat) (a n : Int), n ≤ f → n ≤ f' → pg page f a n = pg page f' a n
  | 0, 0, a, n, _, _ => rfl
  | 0, f' + 1, a, n, h, _ => by unfold pg; rw [if_neg (by omega)]
  | f + 1, 0, a, n, _, h => by unfold pg; rw [if_neg (by omega)]
  | f + 1, f' + 1, a, n, h, h' => by
    unfold pg
    by_cases hn : 0 < n
    · have hs := pg_step (a := a) hp hn
      rw [if_pos hn, if_pos hn, pg_fuel hp f f' _ _ (by omega) (by omega)]
    · rw [if_neg hn, if_neg hn]
theorem pg_cons {page a n : Int} (hp : 1 ≤ page) (hn : 0 < n) : pg page n.toNat a n = ⟨a, min n (page - a % page)⟩ :: pg page (n - min n (page - a % page)).toNat (a + min n (page - a % page)) (n - min n (page - a % page)) := by
  have hs := pg_step (a := a) hp hn
  obtain ⟨f, hf⟩ : ∃ f, n.toNat = f + 1 := ⟨n.toNat - 1, by omega⟩
  rw [hf, pg, if_pos hn, pg_fuel hp f (n - min n (page - a % page)).toNat _ _ (by omega) (by omega)]
theorem pg_end {page a n : Int} (hn : n ≤ 0) : pg page n.toNat a n = [] := by
  rw [show n.toNat = 0 by omega]; rfl
theorem pgs_snoc (page : Int) (l : List Pc) (x : Pc) : pgs page (l ++ [x]) = pgs page l ++ pg page x.len.toNat x.pos x.len := by simp [pgs]
theorem pos_len : ∀ {l : List Pc}, posL l → (l.length : Int) ≤ total l
  | [], _ => by simp [total]
  | p :: r, h => by
    have h1 := h.head
    have h2 := pos_len h.tail
    rw [total_cons, List.length_cons]
    push_cast
    omega
theorem pgs_total {page : Int} (hp : 1 ≤ page) : ∀ {l : List Pc}, posL l → total (pgs page l) = total l
  | [], _ => rfl
  | p :: r, h => by
    have h1 := h.head
    have ih := pgs_total hp h.tail
    unfold pgs at ih ⊢
    rw [List.flatMap_cons, total_append, ih, total_cons, pg_total hp _ _ _ (by omega) (by omega)]
theorem win_posL {l : List Pc} (a f t : Int) (h : okL l) : posL (win a f t l) := fun q hq => ⟨(win_ok a f t h q hq).1, win_pos a f t q hq⟩
theorem win_total {l : List Pc} {t : Int} (h : okL l) (ht : total l ≤ t) : total (win 0 0 t l) = total l := by
  have h1 := places_len (win_ok 0 0 t h)
  have h2 := places_len h
  rw [win_places 0 0 t h] at h1
  rw [List.take_of_length_le (by omega)] at h1
  simp at h1
  omega
theorem posL_pre {l m : List Pc} (h : posL m) (hp : l <+: m) : posL l := fun q hq => h q (hp.subset hq)
theorem total_pre {l m : List Pc} (h : posL m) (hp : l <+: m) : total l ≤ total m := by
  obtain ⟨r, rfl⟩ := hp
  rw [total_append]
  have := total_nonneg (l := r) (posL.ok (fun q hq => h q (by simp [hq])))
  omega

/-- a store into a block of pieces that is not the row -/
theorem grows_other {w0 W : World} {n₀ Bx Bf Bt Bp i : Nat} {tx : TypeId} {cf ct : List Value} {o : List Pc} (h : Grows w0 n₀ Bx tx Bf Bt cf ct (fun y => y) o W) (htx : tx ≠ 44) (u : Value) {cs : Array Value} (hp : W.heap[Bp]? = some (.cells cs 44 (0, 0)))
    (hn : n₀ ≤ Bp) (hne : ∀ v, W.cell? ⟨Bx, 0, none⟩ = some v → some Bp ≠ v.ownBlock) (B : Nat) :
    Grows w0 n₀ Bx tx Bf Bt cf ct (fun y => y) o (W.setCell ⟨Bp, i, none⟩ u) ∧ KeepsW n₀ Bf Bt W (W.setCell ⟨Bp, i, none⟩ u) ∧ KeepsFrom B W (W.setCell ⟨Bp, i, none⟩ u) ∧ (W.setCell ⟨Bp, i, none⟩ u).cell? ⟨Bx, 0, none⟩ = W.cell? ⟨Bx, 0, none⟩ := by
  obtain ⟨⟨⟨v, hv, hrow, _⟩, hB⟩, hF, hT⟩ := h
  have hx : Bx ≠ Bp := fun e => by
    subst e
    rw [show W.heap[Bx]? = _ from hv] at hp
    cases hp
    exact htx rfl
  have hgo : ∀ {k : Nat} {cq : Array Value}, W.heap[k]? = some (.cells cq 3 (0, 0)) → k ≠ Bp := fun hk e => by
    subst e
    rw [hk] at hp
    cases hp
  have hF' := heap_other (a := ⟨Bp, i, none⟩) (v := u) hF (hgo hF)
  have hT' := heap_other (a := ⟨Bp, i, none⟩) (v := u) hT (hgo hT)
  have hB' : Below n₀ W (W.setCell ⟨Bp, i, none⟩ u) := (Below.refl _ W).setCell (p := ⟨Bp, i, none⟩) hn _
  exact ⟨⟨⟨⟨v, heap_other (a := ⟨Bp, i, none⟩) (v := u) hv hx, hrow.kept (row := some Bp) ⟨rfl, rfl, rfl, by simp [World.setCell], fun k _ hn => Below.heap_setCell W ⟨Bp, i, none⟩ u k (fun e => hn (by rw [e]))⟩ (.inr (hne v hv.cell).symm), trivial⟩, hB.trans hB'⟩, hF', hT'⟩, ⟨hB', hF'.trans hF.symm, hT'.trans hT.symm⟩, (KeepsOthers.setCell _ _ _).from B, World.cell?_of_block (a := ⟨Bx, 0, none⟩) (Below.heap_setCell W ⟨Bp, i, none⟩ u Bx hx)⟩

/-- what Pages returns, of the pieces in pages -/
def PagesR (L : List Pc) (A' : Option Addr) (e : Ending) (w' : World) : Prop :=
  if L.length ≤ 256 then e = .returned (.tuple #[.slice A' L.length L.length, .int .i64 0]) ∧ Sl pcT w' (low w'.heap.size) A' L.length L
  else e = .returned (.tuple #[.slice none 0 0, .int .i64 3])

set_option maxRecDepth 100000 in
set_option maxHeartbeats 4000000 in
theorem pages_in (A : Option Addr) (m c : Nat) (l : List Pc) (page : Int) (w : World) (hl : Sl pcT w (low w.heap.size) A m l) (h0 : chk l 9223372036854775807 = 0) (hpg : 1 ≤ page) (hpg2 : page ≤ 9223372036854775807) :
    Calls Try.prog 23 #[.slice A m c, .int .i64 page] w fun e w' => ∃ A', PagesR (pgs page (win 0 0 (total l) l)) A' e w' ∧ Kept w w' := by
  have hp := chk_parts h0
  have hok : okL l := fun p hp' => ⟨(hp.2.1 p hp').1, (hp.2.1 p hp').2.1⟩
  have hm : m ≤ 256 := by have := hl.1; omega
  have hC : ∀ w', Kept w w' → _ := fun w' hk => check_any A m c l 9223372036854775807 w' (hl.kept hk) (pc_64 h0 max64) max64 (by omega)
  rw [h0] at hC
  have hT : ∀ w', Kept w w' → _ := fun w' hk => total_any A m c l w' (hl.kept hk) hok hp.2.2 (by omega)
  have ht0 := total_nonneg hok
  have ht1 := hp.2.2
  obtain ⟨i44, hi44, hz0, hz1, hz2⟩ := info_parts info44
  clear h0
  have hk0 : Kept w (w.alloc (.cells #[.int .i64 page] 3)) := (Below.refl _ w).alloc (Nat.le_refl _) _
  refine callsIn_wide (n := 4).1 (callsIn_of_wp_marks Try.func23 rfl trivial ?_ rfl)
  (simp only [Try.ntmps23, List.size_toArray, List.length_cons, List.length_nil, Nat.reduceAdd, Nat.reduceSub, Array.replicate_succ, Array.replicate_zero, List.push_toArray, List.append_toArray, List.nil_append, List.cons_append])
  gi_wp2_with (first
    | (refine ⟨trivial, ?_⟩; gi_at_call 15; refine (callsIn_wide.2 (hC _ hk0)).mono ?_; rintro e w1 ⟨rfl, hk1⟩; have hcp : w1.cell? ⟨w.heap.size, 0, none⟩ = some (.int .i64 page) := cell_heap (heap_below hk1 (heap_at _ rfl) (by simp)) rfl)
    | (refine ⟨trivial, ?_⟩; gi_at_call 25; refine (callsIn_wide.2 (hT _ ((hk0.trans' hk1).alloc (hk0.trans' hk1).size _))).mono ?_; rintro e w2 ⟨rfl, hk2⟩)
    | (refine ⟨trivial, ?_⟩; gi_at_call 28; refine (callsIn_wide.2 (window_any A m c 0 (total l) _)).mono ?_; rintro e w3 ⟨rfl, hw3⟩))
  obtain ⟨hBl, hBf, hBt, hz, hbw⟩ := boxes_at w2 A m c 0 (total l) w3 hw3
  have hk01 := hk0.trans' hk1
  have hzw : w.heap.size < w1.heap.size := by have := hk1.size; simp at this; omega
  have hb2 : Below w.heap.size w w2 := (hk01.alloc hk01.size _).trans (hk2.mono (by have := hk01.size; simp; omega))
  have hb3 : Below w.heap.size w w3 := hb2.trans (hbw.mono hb2.size)
  have hz1' : w1.heap.size < w2.heap.size := by have := hk2.size; simp at this; omega
  have bX : Boxed w3 w1.heap.size 25 (.slice none 0 0) := heap_below hbw (heap_below hk2 (Boxed.new w1 25 (.slice none 0 0)) (by simp)) hz1'
  have bP : w3.heap[w.heap.size]? = some (.cells #[.int .i64 page] 3 (0, 0)) := heap_below hbw (heap_below hk2 (heap_past (heap_below hk1 (heap_at _ rfl) (by simp))) (by simp; omega)) (by omega)
  have hwin := win_window 3 (by decide) A m c l 0 (total l) w2.heap.size (w2.heap.size + 1) (w2.heap.size + 1 + 1) w.heap.size w3 hok ht1 (by omega) (by omega) ht0 (by omega) (fun p hp' => (hp.2.1 p hp').2.2) hm (by have := hb3.size; omega) (hl.below hb3) hBl hBf hBt
  have hbd := Lib.hid (win_bd 0 0 (total l) (l := l) (fun q hq => hp.2.1 q hq))
  have hps := Lib.hid (win_posL 0 0 (total l) hok)
  have htw := Lib.hid (show total (win 0 0 (total l) l) ≤ 65536 by rw [win_total hok (Int.le_refl _)]; exact ht1)
  have hs1 := hk01.size
  clear hp hw3 hl ht1 hm hok hC hT hb2 hbw hk01 hk0 hk1 hk2 hBl hcp
  generalize hL : win 0 0 (total l) l = L at hwin hbd hps htw
  replace hL := Lib.hid hL
  generalize hT0 : total l = T at *
  replace hT0 := Lib.hid hT0
  refine range_win (by rfl) hwin (by omega) (by omega) (by omega) (fun pre W => Grows w w.heap.size w1.heap.size 25 (w2.heap.size + 1) (w2.heap.size + 1 + 1) [.int .i64 0] [.int .i64 T] (pgs page) pre W ∧ Boxed W w.heap.size 3 (.int .i64 page))
    (OwnFrom.and (grows_own (by omega) (Nat.le_refl _)) (Go.Own.from (boxed_own w.heap.size 3 (fun _ => .int .i64 page)) _))
    ⟨⟨⟨⟨_, bX, World.ownsRow_nil _ _ _ _, trivial⟩, hb3⟩, hBf, hBt⟩, bP⟩
    (fun x Bp => { tmps := #[.slice A m c, .int .i64 page, undef, .pointer (some ⟨w.heap.size, 0, none⟩), .slice none 0 0, .int .i64 0, .int .i64 0, .pointer (some ⟨w1.heap.size, 0, none⟩), .pointer (some ⟨Bp, 0, none⟩), undef, .slice A m c, .int .i64 0, .int .i64 0, .bool false, undef, .int .i64 page, .bool (decide (page < 1)), .slice A m c, .slice A m c, .int .i64 T, .func (.func 32) #[] #[.pointer (some ⟨w2.heap.size, 0, none⟩), .pointer (some ⟨w2.heap.size + 1, 0, none⟩), .pointer (some ⟨w2.heap.size + 1 + 1, 0, none⟩)], .agg #[.int .i64 x.pos, .int .i64 x.len], undef, undef, undef, undef, undef, undef, undef, undef, undef, undef, undef, undef, undef, undef, undef, undef, undef, undef, undef, undef, undef, undef, undef, undef, undef, undef, undef, undef, undef, undef, undef, undef, undef, undef, undef, undef, undef, undef], defers := [] }) ?assign ?body ?done
  case assign =>
    intro l x W K hK
    gi_wp2
    exact hK
  case body =>
    rintro l pre x W₀ W hB₀ ⟨hgr₀, _⟩ ⟨hgr, hpb⟩ hsame hbp hpre
    replace hgr : Grows w w.heap.size w1.heap.size 25 (w2.heap.size + 1) (w2.heap.size + 1 + 1) [.int .i64 0] [.int .i64 T] (fun y => y) (pgs page pre) W := hgr
    have hne : ∀ v, W.cell? ⟨w1.heap.size, 0, none⟩ = some v → some W₀.heap.size ≠ v.ownBlock := by
      obtain ⟨⟨⟨v, hv, hrow, _⟩, _⟩, _⟩ := hgr₀
      intro v' hv' e
      rw [Boxed.cell (hsame _ _ hv rfl)] at hv'
      cases hv'
      have := (hrow.lt _ e.symm).2
      omega
    clear hgr₀ hsame
    obtain ⟨hx1, hx2, hx3⟩ := hbd.out x (hpre.subset (by simp))
    have Hcap := Lib.hid (show ∀ dn, dn <+: pg page x.len.toNat x.pos x.len → (pgs page pre ++ dn).length ≤ 65536 from fun dn hdn => by
      have h1 : pgs page (pre ++ [x]) = pgs page pre ++ pg page x.len.toNat x.pos x.len := pgs_snoc page pre x
      have h2 := pos_len (pgs_pos hpg (posL_pre hps.out hpre))
      rw [pgs_total hpg (posL_pre hps.out hpre)] at h2
      have h3 := total_pre hps.out hpre
      have h4 := htw.out
      have h5 := hdn.length_le
      rw [h1, List.length_append] at h2
      rw [List.length_append]
      omega)
    have hsn := Lib.hid (pgs_snoc page pre x)
    generalize pgs page pre = o at *
    clear hpre
    have hBlt := heap_lt hbp
    have hwB : w.heap.size ≤ W₀.heap.size := by have := hgr.1.2.size; have := hb3.size; omega
    have hpn : w.heap.size ≠ W₀.heap.size := by omega
    have hKW : KeepsW w.heap.size (w2.heap.size + 1) (w2.heap.size + 1 + 1) W W := KeepsW.refl _ _ _ W
    have hKF : ∀ B, KeepsFrom B W W := fun B => KeepsFrom.refl B W
    gi_wp2
    gi_loopg [9] x.len.toNat (fun gf _ wi => ∃ (a n : Int) (dn : List Pc), gf = n.toNat ∧ Hid (dn ++ pg page n.toNat a n = pg page x.len.toNat x.pos x.len) ∧ 0 ≤ a ∧ 0 ≤ n ∧ a + n ≤ 9223372036854775807 ∧ wi.heap[W₀.heap.size]? = some (.cells #[.int .i64 a, .int .i64 n] 44 (0, 0)) ∧ Grows w w.heap.size w1.heap.size 25 (w2.heap.size + 1) (w2.heap.size + 1 + 1) [.int .i64 0] [.int .i64 T] (fun y => y) (o ++ dn) wi ∧ Boxed wi w.heap.size 3 (.int .i64 page) ∧ KeepsW w.heap.size (w2.heap.size + 1) (w2.heap.size + 1 + 1) W wi ∧ (∀ B, KeepsFrom B W wi) ∧ (∀ v, wi.cell? ⟨w1.heap.size, 0, none⟩ = some v → some W₀.heap.size ≠ v.ownBlock))
    case atStart => exact ⟨x.pos, x.len, [], rfl, Lib.hid rfl, hx1, hx2, hx3, hbp, by simpa using hgr, hpb, hKW, hKF, hne⟩
    case round =>
      clear hgr hpb hbp hKW hKF hne
      obtain ⟨a, n, dn, Hg, Hd, ha, hn, han, hbp, hgr, hpb, hKW, hKF, hne⟩ := hrel
      replace Hg := Lib.hid Hg
      have hp0 : wr.cell? ⟨W₀.heap.size, 0, none⟩ = some (.int .i64 a) := cell_heap hbp rfl
      have hp1 : wr.cell? ⟨W₀.heap.size, 1, none⟩ = some (.int .i64 n) := cell_heap hbp rfl
      have hp2 := heap_lt hbp
      have hpp : wr.cell? ⟨w.heap.size, 0, none⟩ = some (.int .i64 page) := hpb.cell
      have hpp2 := hpb.lt
      have hfp : ∀ o, wr.frozen? ⟨W₀.heap.size, o, none⟩ = false := fun o => frozen_heap hbp
      replace hbp := Lib.hid hbp
      replace hpb := Lib.hid hpb
      replace hKW := Lib.hid hKW
      replace hKF := Lib.hid hKF
      have Hgr := Lib.hid hgr
      clear hgr
      by_cases hn0 : 0 < n
      · have hpz : (page == 0) = false := by simp; omega
        have hpz2 : page ≠ 0 := by omega
        have hm0 := Int.emod_nonneg a hpz2
        have hm1 := Int.emod_lt_of_pos a (show 0 < page by omega)
        have htm : a.tmod page = a % page := Int.tmod_eq_emod_of_nonneg ha
        have hwp : IntKind.i64.wrap (page - a % page) = page - a % page := IntWalk.i64_in _ ⟨by omega, by omega⟩
        have hmm : (if page - a % page < n then page - a % page else n) = min n (page - a % page) := by split <;> omega
        obtain ⟨hM1, hM2⟩ := pg_step (a := a) hpg hn0
        have Hcons := Lib.hid (pg_cons (a := a) hpg hn0)
        gi_wp2
        refine region_round (S := fun w' => (∀ b o, b < wr.heap.size → w'.cell? ⟨b, o, none⟩ = wr.cell? ⟨b, o, none⟩) ∧ wr.grownBy w' none) (by kernel_rfl) (by kernel_rfl) (by rintro ⟨a0, w0, h⟩; have h' : Exit.outgrown = Exit.normal := h.1; cases h') ⟨fun _ _ _ => rfl, grown_drew wr⟩ (fun hS => ?_)
        refine wpAnyH_take (i := 0) (v := ?_) rfl (by kernel_rfl) (by kernel_rfl) (by kernel_rfl) (fun _ _ _ h => h) (Or.inl ⟨by kernel_rfl, ?_⟩) hS ?_
        rotate_left
        · intro w' hS'
          have hq := hS'.1
          have hq2 := hS'.2
          clear hS'
          first | (go_simp; done) | (go_simp; with_reducible rfl)
        try simp only [Act.put, List.getElem_toArray, List.getElem_cons_zero, List.getElem_cons_succ, List.setIfInBounds_toArray, List.set_cons_zero, List.set_cons_succ]
        refine wpAnyH_take (i := 1) (v := ?_) rfl (by kernel_rfl) (by kernel_rfl) (by kernel_rfl) (fun _ _ _ h => h) (Or.inl ⟨by kernel_rfl, ?_⟩) hS ?_
        rotate_left
        · intro w' hS'
          have hq := hS'.1
          have hq2 := hS'.2
          clear hS'
          first | (go_simp; done) | (go_simp; with_reducible rfl)
        try simp only [Act.put, List.getElem_toArray, List.getElem_cons_zero, List.getElem_cons_succ, List.setIfInBounds_toArray, List.set_cons_zero, List.set_cons_succ]
        refine wpAnyH_take (i := 2) (v := ?_) rfl (by kernel_rfl) (by kernel_rfl) (by kernel_rfl) (fun _ _ _ h => h) (Or.inl ⟨by kernel_rfl, ?_⟩) hS ?_
        rotate_left
        · intro w' hS'
          have hq := hS'.1
          have hq2 := hS'.2
          clear hS'
          first | (go_simp; done) | (go_simp; with_reducible rfl)
        try simp only [Act.put, List.getElem_toArray, List.getElem_cons_zero, List.getElem_cons_succ, List.setIfInBounds_toArray, List.set_cons_zero, List.set_cons_succ]
        refine wpAnyH_take (i := 3) (v := ?_) rfl (by kernel_rfl) (by kernel_rfl) (by kernel_rfl) (fun _ _ _ h => h) (Or.inl ⟨by kernel_rfl, ?_⟩) hS ?_
        rotate_left
        · intro w' hS'
          have hq := hS'.1
          have hq2 := hS'.2
          clear hS'
          first | (go_simp; done) | (go_simp; with_reducible rfl)
        try simp only [Act.put, List.getElem_toArray, List.getElem_cons_zero, List.getElem_cons_succ, List.setIfInBounds_toArray, List.set_cons_zero, List.set_cons_succ]
        refine wpAnyH_take (i := 4) (v := ?_) rfl (by kernel_rfl) (by kernel_rfl) (by kernel_rfl) (fun _ _ _ h => h) (Or.inl ⟨by kernel_rfl, ?_⟩) hS ?_
        rotate_left
        · intro w' hS'
          have hq := hS'.1
          have hq2 := hS'.2
          clear hS'
          first | (go_simp; done) | (go_simp; with_reducible rfl)
        try simp only [Act.put, List.getElem_toArray, List.getElem_cons_zero, List.getElem_cons_succ, List.setIfInBounds_toArray, List.set_cons_zero, List.set_cons_succ]
        refine wpAnyH_take (i := 5) (v := ?_) rfl (by kernel_rfl) (by kernel_rfl) (by kernel_rfl) (fun _ _ _ h => h) (Or.inl ⟨by kernel_rfl, ?_⟩) hS ?_
        rotate_left
        · intro w' hS'
          have hq := hS'.1
          have hq2 := hS'.2
          clear hS'
          first | (go_simp; done) | (go_simp; with_reducible rfl)
        try simp only [Act.put, List.getElem_toArray, List.getElem_cons_zero, List.getElem_cons_succ, List.setIfInBounds_toArray, List.set_cons_zero, List.set_cons_succ]
        refine wpAnyH_take (i := 6) (v := ?_) rfl (by kernel_rfl) (by kernel_rfl) (by kernel_rfl) (fun _ _ _ h => h) (Or.inl ⟨by kernel_rfl, ?_⟩) hS ?_
        rotate_left
        · intro w' hS'
          have hq := hS'.1
          have hq2 := hS'.2
          clear hS'
          first | (go_simp; done) | (go_simp; with_reducible rfl)
        try simp only [Act.put, List.getElem_toArray, List.getElem_cons_zero, List.getElem_cons_succ, List.setIfInBounds_toArray, List.set_cons_zero, List.set_cons_succ]
        refine wpAnyH_take (i := 7) (v := ?_) rfl (by kernel_rfl) (by kernel_rfl) (by kernel_rfl) (fun _ _ _ h => h) (Or.inl ⟨by kernel_rfl, ?_⟩) hS ?_
        rotate_left
        · intro w' hS'
          have hq := hS'.1
          have hq2 := hS'.2
          clear hS'
          first | (go_simp; done) | (go_simp; with_reducible rfl)
        try simp only [Act.put, List.getElem_toArray, List.getElem_cons_zero, List.getElem_cons_succ, List.setIfInBounds_toArray, List.set_cons_zero, List.set_cons_succ]
        refine wpAnyH_take (i := 8) (v := ?_) rfl (by kernel_rfl) (by kernel_rfl) (by kernel_rfl) (fun _ _ _ h => h) (Or.inl ⟨by kernel_rfl, ?_⟩) hS ?_
        rotate_left
        · intro w' hS'
          have hq := hS'.1
          have hq2 := hS'.2
          clear hS'
          first | (go_simp; done) | (go_simp; with_reducible rfl)
        try simp only [Act.put, List.getElem_toArray, List.getElem_cons_zero, List.getElem_cons_succ, List.setIfInBounds_toArray, List.set_cons_zero, List.set_cons_succ]
        refine wpAnyH_take (i := 9) (v := ?_) rfl (by kernel_rfl) (by kernel_rfl) (by kernel_rfl) (fun _ _ _ h => h) (Or.inl ⟨by kernel_rfl, ?_⟩) hS ?_
        rotate_left
        · intro w' hS'
          have hq := hS'.1
          have hq2 := hS'.2
          clear hS'
          first | (go_simp; done) | (go_simp; with_reducible rfl)
        try simp only [Act.put, List.getElem_toArray, List.getElem_cons_zero, List.getElem_cons_succ, List.setIfInBounds_toArray, List.set_cons_zero, List.set_cons_succ]
        refine wpAnyH_done (by kernel_rfl) ?_ _
        refine exit_at (fun W5 => wr.grownBy W5 none) (grown_drew wr) (fun W5 h5 => ?_)
        clear hmm hwp htm hm0 hm1 hpz hpz2 hS
        generalize min n (page - a % page) = M at *
        have hw1 : IntKind.i64.wrap (a + M) = a + M := IntWalk.i64_in _ ⟨by omega, by omega⟩
        have hw2 : IntKind.i64.wrap (n - M) = n - M := IntWalk.i64_in _ ⟨by omega, by omega⟩
        have Hd1 := Lib.hid (show (dn ++ [⟨a, M⟩]) ++ pg page (n - M).toNat (a + M) (n - M) = pg page x.len.toNat x.pos x.len by rw [← Hd.out, Hcons.out, List.append_assoc]; rfl)
        have hlen : (o ++ dn).length ≤ 65536 := Hcap.out dn ⟨_, Hd.out⟩
        obtain ⟨⟨⟨v5, hv5, hrow5, _⟩, hB5⟩, hF5, hT5⟩ := grows_own (f := fun y => y) (B := w.heap.size) (Nat.le_refl _) (Nat.le_refl _) (o ++ dn) wr W5 none Hgr.out h5 (fun r e => by cases e)
        replace hrow5 : W5.ownsRow w.heap.size 44 2 v5 (o ++ dn).length (pcC (o ++ dn)) := hrow5
        have e5 : some W₀.heap.size ≠ v5.ownBlock := hne v5 (by
          obtain ⟨⟨⟨v, hv, _, _⟩, _⟩, _⟩ := Hgr.out
          have e := (grown_cell (a := ⟨w1.heap.size, 0, none⟩) h5 hv.lt).symm
          rw [hv5.cell] at e
          exact e)
        have hbp5 : W5.heap[W₀.heap.size]? = some (.cells #[.int .i64 a, .int .i64 n] 44 (0, 0)) := (h5.block _ hp2 (fun e => by cases e)).trans hbp.out
        have hq0 : W5.cell? ⟨W₀.heap.size, 0, none⟩ = some (.int .i64 a) := cell_heap hbp5 rfl
        have hq1 : W5.cell? ⟨W₀.heap.size, 1, none⟩ = some (.int .i64 n) := cell_heap hbp5 rfl
        have hq2 := heap_lt hbp5
        have hpb5 : W5.heap[w.heap.size]? = some (.cells [.int .i64 page].toArray 3 (0, 0)) := (h5.block _ hpp2 (fun e => by cases e)).trans hpb.out
        have hc5 := hv5.cell
        have hf5 := hv5.frozen
        have hvl5 := hv5.lt
        have hBs5 := hB5.size
        have hkw5 : KeepsW w.heap.size (w2.heap.size + 1) (w2.heap.size + 1 + 1) wr W5 := keepsW_grown h5 (by have := h5.size; have := hKW.out.low.size; have := hB5.size; omega) (heap_lt Hgr.out.2.1) (heap_lt Hgr.out.2.2)
        have hkf5 : ∀ B, KeepsFrom B wr W5 := fun B => keepsFrom_grown h5
        have Hrow5 := Lib.hid hrow5
        replace hbp5 := Lib.hid hbp5
        replace hpb5 := Lib.hid hpb5
        clear hp0 hp1 hpp hfp hrow5 hne
        have hpx : W₀.heap.size ≠ w1.heap.size := fun e => by
          have h := hv5
          unfold Boxed at h
          rw [← e, hbp5.out] at h
          cases h
        gi_wp2_with (gi_at_builtin; refine wpListIn_append_own_at _ rfl _ _ 25 rfl w.heap.size 44 i44 _ 2 16 Try.underlying25 hi44 hz0 hz1 hz2 rfl (by decide) _ _ _ rfl (Hrow5.out.alloc _) ⟨W5.heap.size, 0, none⟩ 1 1 [.int .i64 a, .int .i64 M] rfl rfl (cells_two_new _ _ _ _) (by simp [Value.oneCell']) (by unfold maxLen; omega) (by omega) (by simp; omega) ?_; intro v' w4 hown' hgrow _ hat; obtain ⟨g', cap', rfl⟩ := ownsRow_succ hown'; obtain ⟨hv1, hv2, hr2, hk2, hb2⟩ := hv5.appended (by decide) Hrow5.out hBs5 hs1 hown' hgrow; have hc1 := hv1.cell; have hf1 := hv1.frozen; have hbp4 : w4.heap[W₀.heap.size]? = some (.cells #[.int .i64 a, .int .i64 n] 44 (0, 0)) := (hgrow.block _ (by simp; omega) e5).trans (heap_past hbp5.out); have hp40 : w4.cell? ⟨W₀.heap.size, 0, none⟩ = some (.int .i64 a) := cell_heap hbp4 rfl; have hp41 : w4.cell? ⟨W₀.heap.size, 1, none⟩ = some (.int .i64 n) := cell_heap hbp4 rfl; have hp42 : ∀ o, w4.frozen? ⟨W₀.heap.size, o, none⟩ = false := (fun o => frozen_heap hbp4); have hp43 := heap_lt hbp4; replace hbp4 := Lib.hid hbp4)
        have hkwA := keepsW_append hv5 (by decide) Hrow5.out hBs5 hs1 hown' hgrow hF5 hT5 (by omega) (by omega)
        have hkwP := keepsW_append hv5 (by decide) Hrow5.out hBs5 hs1 hown' hgrow hpb5.out hT5 (by omega) (by omega)
        have hr2' := hr2
        have hsn' : pcC (o ++ dn ++ [⟨a, M⟩]) = pcC (o ++ dn) ++ [.int .i64 a, .int .i64 M] := pcC_snoc (o ++ dn) ⟨a, M⟩
        rw [← hsn'] at hr2'
        have hg1 : Grows w w.heap.size w1.heap.size 25 (w2.heap.size + 1) (w2.heap.size + 1 + 1) [.int .i64 0] [.int .i64 T] (fun y => y) (o ++ dn ++ [⟨a, M⟩]) _ := ⟨⟨⟨_, hv2, by simpa [Nat.add_assoc] using hr2', trivial⟩, hB5.trans hb2⟩, hkwA.f.trans hF5, hkwA.t.trans hT5⟩
        have hbp1 := heap_other (a := ⟨w1.heap.size, 0, none⟩) (v := .slice (some ⟨g', 0, none⟩) ((o ++ dn).length + 1) cap') hbp4.out hpx
        have hne1 : ∀ v, (w4.setCell ⟨w1.heap.size, 0, none⟩ (.slice (some ⟨g', 0, none⟩) ((o ++ dn).length + 1) cap')).cell? ⟨w1.heap.size, 0, none⟩ = some v → some W₀.heap.size ≠ v.ownBlock := fun v hv e => by
          rw [hv2.cell] at hv
          cases hv
          rcases hat with h | h
          · rw [h] at e; exact e5 e
          · rw [h] at e
            have e2 := Option.some.inj e
            rw [World.size_alloc] at e2
            omega
        obtain ⟨hg2, hkw2, hkf2, hce2⟩ := grows_other (i := 0) hg1 (by decide) (.int .i64 (a + M)) hbp1 hwB hne1 (w2.heap.size + 1 + 1 + 1)
        have hbp2 := heap_store (i := 0) hbp1 (.int .i64 (a + M))
        obtain ⟨hg3, hkw3, hkf3, hce3⟩ := grows_other (i := 1) hg2 (by decide) (.int .i64 (n - M)) hbp2 hwB (fun v hv => hne1 v (hce2.symm.trans hv)) (w2.heap.size + 1 + 1 + 1)
        have hbp3 := heap_store (i := 1) hbp2 (.int .i64 (n - M))
        have hpbE := heap_other (a := ⟨W₀.heap.size, 1, none⟩) (v := .int .i64 (n - M)) (heap_other (a := ⟨W₀.heap.size, 0, none⟩) (v := .int .i64 (a + M)) (hkwP.f.trans hpb5.out) hpn) hpn
        go_roundg (n - M).toNat
        case measure => have := Hg.out; omega
        case rel =>
          refine ⟨a + M, n - M, dn ++ [⟨a, M⟩], rfl, Hd1, by omega, by omega, by omega, ?_, ?_, ?_, ?_, ?_, ?_⟩
          · simpa using hbp3
          · simpa using hg3
          · have := hpbE
            simp only [List.length_append] at this
            exact this
          · simpa using hKW.out.trans (((hkw5.trans hkwA).trans hkw2).trans hkw3)
          · intro B
            simpa using (hKF.out B).trans ((((hkf5 B).trans (hk2.from B)).trans ((KeepsOthers.setCell _ _ _).from B)).trans ((KeepsOthers.setCell _ _ _).from B))
          · intro v hv
            exact hne1 v (hce2.symm.trans (hce3.symm.trans (by simpa using hv)))
      · have hn1 : n ≤ 0 := by omega
        have Hfin := Lib.hid (show o ++ dn = pgs page (pre ++ [x]) by rw [hsn.out, ← Hd.out, pg_end hn1, List.append_nil])
        gi_wp2
        refine ⟨hKF.out _, hKW.out, ?_, hpb.out⟩
        show Grows w w.heap.size w1.heap.size 25 (w2.heap.size + 1) (w2.heap.size + 1 + 1) [.int .i64 0] [.int .i64 T] (fun y => y) (pgs page (pre ++ [x])) _
        rw [← Hfin.out]
        exact Hgr.out
  case done =>
    rintro D W hD ⟨⟨⟨⟨v, hv, hrow, _⟩, hB⟩, hF, hT⟩, hpb⟩ hK
    have hc := hv.cell
    replace hrow : W.ownsRow w.heap.size 44 2 v (pgs page L).length (pcC (pgs page L)) := hrow
    have hfin : ∀ (A' : Option Addr) (cap : Nat), v = .slice A' (pgs page L).length cap → Sl pcT (W.putObj D (.deferred none)) (low (W.putObj D (.deferred none)).heap.size) A' (pgs page L).length (pgs page L) := fun A' cap e => by
      subst e
      exact (own_of_pcs (ownsRow_putObj hrow _ hK rfl)).sl
    have hkk := hB.trans (belowK_b (w := w) (Nat.le_refl _) W D _ (.deferred none) (by omega) hK rfl rfl)
    rcases hrow.2 with ⟨rfl, h0⟩ | ⟨g, cap, cur, rfl, h1, h2, h3, h4, h5, h6⟩
    · gi_wp2
      refine ⟨by simp, .inl ⟨_, _, rfl, run_takeDeferred hK, ?_⟩⟩
      refine ⟨.tuple #[.slice none 0 0, .int .i64 0], by simp [results, Try.results23, go_sem], none, ?_, hkk⟩
      rw [hT0.out, hL.out]
      unfold PagesR
      rw [if_pos (by omega)]
      exact ⟨by rw [h0], hfin none 0 (by rw [h0])⟩
    · by_cases hbig : (pgs page L).length ≤ 256
      · have hbig' : ((pgs page L).length : Int) ≤ 256 := by omega
        gi_wp2
        refine ⟨by simp, .inl ⟨_, _, rfl, run_takeDeferred hK, ?_⟩⟩
        refine ⟨.tuple #[.slice (some ⟨g, 0, none⟩) (pgs page L).length (pgs page L).length, .int .i64 0], by simp [results, Try.results23, go_sem], some ⟨g, 0, none⟩, ?_, hkk⟩
        rw [hT0.out, hL.out]
        unfold PagesR
        rw [if_pos hbig]
        exact ⟨rfl, hfin _ cap rfl⟩
      · have hbig' : (256 : Int) < ((pgs page L).length : Int) := by omega
        gi_wp2
        refine ⟨by simp, .inl ⟨_, _, rfl, run_takeDeferred hK, ?_⟩⟩
        refine ⟨.tuple #[.slice none 0 0, .int .i64 3], by simp [results, Try.results23, go_sem], none, ?_, hkk⟩
        rw [hT0.out, hL.out]
        unfold PagesR
        rw [if_neg hbig]
theorem pages_bad (A : Option Addr) (n c : Nat) (l : List Pc) (page : Int) (w : World) (hl : Sl pcT w (low w.heap.size) A n l) (h64 : ∀ p ∈ l, i64 p.pos ∧ i64 p.len) (hn : n ≤ 1000) (h0 : chk l 9223372036854775807 ≠ 0) :
    Calls Try.prog 23 #[.slice A n c, .int .i64 page] w fun e w' => e = .returned (.tuple #[.slice none 0 0, .int .i64 (chk l 9223372036854775807)]) ∧ Kept w w' := by
  have hk0 : Kept w (w.alloc (.cells #[.int .i64 page] 3)) := (Below.refl _ w).alloc (Nat.le_refl _) _
  have hC := check_any A n c l 9223372036854775807 _ (hl.kept hk0) h64 max64 hn
  obtain ⟨e0, he⟩ : ∃ e, chk l 9223372036854775807 = e := ⟨_, rfl⟩
  rw [he] at hC h0 ⊢
  have h0' : (e0 != 0) = true := by simpa using h0
  clear he
  refine callsIn_wide (n := 4).1 (callsIn_of_wp_marks Try.func23 rfl trivial ?_ rfl)
  (simp only [Try.ntmps23, List.size_toArray, List.length_cons, List.length_nil, Nat.reduceAdd, Nat.reduceSub, Array.replicate_succ, Array.replicate_zero, List.push_toArray, List.append_toArray, List.nil_append, List.cons_append])
  gi_wp2_with (refine ⟨trivial, ?_⟩; gi_at_call 15; refine (callsIn_wide.2 hC).mono ?_; rintro e w1 ⟨rfl, hk1⟩)
  exact ⟨.tuple #[.slice none 0 0, .int .i64 e0], by simp [results, Try.results23, go_sem], rfl, hk0.trans' hk1⟩
theorem pages_arg (A : Option Addr) (n c : Nat) (l : List Pc) (page : Int) (w : World) (hl : Sl pcT w (low w.heap.size) A n l) (h0 : chk l 9223372036854775807 = 0) (hpg : page < 1) :
    Calls Try.prog 23 #[.slice A n c, .int .i64 page] w fun e w' => e = .returned (.tuple #[.slice none 0 0, .int .i64 1]) ∧ Kept w w' := by
  have hk0 : Kept w (w.alloc (.cells #[.int .i64 page] 3)) := (Below.refl _ w).alloc (Nat.le_refl _) _
  have hC := check_any A n c l 9223372036854775807 _ (hl.kept hk0) (pc_64 h0 max64) max64 (by have := (chk_parts h0).1; have := hl.1; omega)
  rw [h0] at hC
  clear h0
  refine callsIn_wide (n := 4).1 (callsIn_of_wp_marks Try.func23 rfl trivial ?_ rfl)
  (simp only [Try.ntmps23, List.size_toArray, List.length_cons, List.length_nil, Nat.reduceAdd, Nat.reduceSub, Array.replicate_succ, Array.replicate_zero, List.push_toArray, List.append_toArray, List.nil_append, List.cons_append])
  gi_wp2_with (refine ⟨trivial, ?_⟩; gi_at_call 15; refine (callsIn_wide.2 hC).mono ?_; rintro e w1 ⟨rfl, hk1⟩; have hcp : w1.cell? ⟨w.heap.size, 0, none⟩ = some (.int .i64 page) := cell_heap (heap_below hk1 (heap_at _ rfl) (by simp)) rfl)
  exact ⟨.tuple #[.slice none 0 0, .int .i64 1], by simp [results, Try.results23, go_sem], rfl, hk0.trans' hk1⟩
end Go.Proofs.Ytdkinfglpnajmaa
