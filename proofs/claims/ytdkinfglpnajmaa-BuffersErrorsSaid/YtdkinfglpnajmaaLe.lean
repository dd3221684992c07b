

/- The walk of BuffersErrors. -/
import Derived.Test.YtdkinfglpnajmaaChecked
import Derived.Deep.RegionHeld3
import Derived.Deep.DrawnRows
import Derived.Deep.DeepCutAuto
import Derived.Deep.LoopGhost
import Derived.Outline
import Derived.Handy
import Derived.OwnWalk
import Derived.IntWalk
import Derived.Test.YtdkinfglpnajmaaLg
set_option linter.unusedVariables false
set_option linter.unusedSimpArgs false
set_option linter.unusedSectionVars false
namespace Go.Proofs.Ytdkinfglpnajmaa
open Go.RowKit
attribute [local go_sem ↓] Go.wp_at_zero Go.wp_at_succ

theorem wpList_append_sl {α : Type} {T : Ty α} {P : Program} {W : World} {ops : Array Oper} {rest : List Oper} {o : Oper} {a : Act} {Q : Exit → Act → World → Prop} (hgd : o.guard = none) (s x : Operand) (t : TypeId)
    (ho : o.op = .call { callee := .builtin .append, args := #[s, x], argTypes := #[t, t] })
    (base : Nat) (e : TypeId) (i : TypeInfo) (z : Value) (bytes : Nat) (ht : P.underlying t = some (.slice e)) (hi : P.info? e = some i) (hz : i.zero = some z)
    (hsize : i.size = T.size) (hby : i.bytes = bytes) (hzs : z.cells.size = T.size) (hsz : 0 < T.size)
    (v : Value) (n : Nat) (xs : List α) (hs : a.eval s = v) (hown : Own T e base W v n xs)
    (A : Option Addr) (m c : Nat) (ys : List α) (hx : a.eval x = .slice A m c) (hsl : Sl T W (apart W v) A m ys) (h1 : ∀ x cs, T.rel W (apart W v) x cs → ∀ u ∈ cs, u.oneCell' = true)
    (h63 : n + m ≤ maxLen) (hbytes : (n + m) * bytes ≤ 140737488355328) (hbase : base ≤ W.heap.size)
    (h : ∀ v' w', Own T e base w' v' (n + m) (xs ++ ys) → W.grownBy w' v.ownBlock → Below base W w' → (v'.ownBlock = v.ownBlock ∨ v'.ownBlock = some W.heap.size) → wpList P ops Q rest (a.put o.dst v') w') : wpList P ops Q (o :: rest) a W :=
  wpList_plain hgd fun _ hK => wp_append_sl s x t ho base e i z bytes ht hi hz hsize hby hzs hsz v n xs hs hown A m c ys hx hsl h1 h63 hbytes hbase fun v' w' h1 h2 h3 h4 => hK _ _ (h v' w' h1 h2 h3 h4)
set_option maxRecDepth 100000 in
set_option maxHeartbeats 8000000 in
theorem errors_law (A : Option Addr) (n c : Nat) (xs : List Pc) (t s : Int) (w : World) (hl : Sl pcT w (low w.heap.size) A n xs) (h64x : ∀ p ∈ xs, i64 p.pos ∧ i64 p.len) (hnc : n ≤ c) (hc : c ≤ maxLen) (ht0 : 0 ≤ t) (ht1 : t < 65536) (hs : i64 s) :
    Calls Try.prog 9 #[.slice A n c, .int .u16 t, .int .i64 s] w fun e w' => e = .returned (.bool true) ∧ Kept w w' := by
  obtain ⟨i44, hi44, hz0, hz1, hz2⟩ := info_parts info44
  unfold maxLen at hc
  by_cases hn : 20 < n
  · have hn' : (20 : Int) < (n : Int) := by omega
    go_enter Try.func9, Try.ntmps9
    go_wp2_with (go_at_call 16; refine (lives_any _).mono ?_; rintro e w2 ⟨rfl, k2⟩)
    go_ret
    exact ⟨rfl, k2⟩
  have hn' : (n : Int) ≤ 20 := by omega
  have hs64 := Lib.hid hs
  have h64x' := Lib.hid h64x
  clear hs h64x
  have hr0 := Int.emod_nonneg t (show (300 : Int) ≠ 0 by omega)
  have hr1 := Int.emod_lt_of_pos t (show (0 : Int) < 300 by omega)
  go_enter Try.func9, Try.ntmps9
  go_wp2_with fail
  go_loopg [7, 8] 300 (fun g s7 s8 wr => ∃ (i m : Nat) (L : List Pc), i + g = 300 ∧ s8 = .int .i64 (i : Int) ∧ Own pcT 44 w.heap.size wr s7 m L ∧ m ≤ 279 ∧ (∀ p ∈ L, i64 p.pos ∧ i64 p.len) ∧ Kept w wr)
  case atStart => exact ⟨0, 0, [], by omega, by rfl, Own.nil _ _ _ _, by omega, (fun p hp => by cases hp), Below.refl _ _⟩
  case round =>
    obtain ⟨i, m, L, hi, rfl, hown, hm, hb64, hkw⟩ := hrel
    have hsz := hkw.size
    by_cases h1 : (i : Int) < t % 300
    · by_cases h2 : m < 260
      · obtain ⟨A7, c7, rfl, _, _⟩ := hown.isSlice
        have h2' : (m : Int) < 260 := by omega
        have hap := sl_apart (v := .slice A7 m c7) hl ⟨fun b o hb => hkw.cell (p := ⟨b, o, none⟩) hb, hkw⟩ (Nat.le_refl _) (fun g hg => (hown.lt hg).1)
        have Hb := Lib.hid hb64
        have Hown := Lib.hid hown
        clear hb64 hown
        go_wp2_with (at_builtin; refine wpList_append_sl (T := pcT) rfl (.tmp 40) (.tmp 41) 25 rfl w.heap.size 44 i44 _ 16 Try.underlying25 hi44 hz0 hz1 hz2 rfl (by decide) (.slice A7 m c7) m L (by rfl) Hown.out A n c xs (by rfl) hap (by rintro x cs ⟨rfl, _⟩ u hu; simp at hu; rcases hu with rfl | rfl <;> rfl) (by unfold maxLen; omega) (by omega) hsz ?_; intro v8 w8 hown8 hg8 hb8 _)
        go_roundg (gk - 1)
        case measure => omega
        case rel => exact ⟨i + 1, m + n, L ++ xs, by omega, by go_num, hown8, by omega, (fun p hp => by
          rcases List.mem_append.1 hp with h | h
          · exact Hb.out p h
          · exact h64x'.out p h), hkw.trans hb8⟩
      · have h2' : (260 : Int) ≤ (m : Int) := by omega
        obtain ⟨A5, c5, rfl, _, _⟩ := hown.isSlice
        have hS := hown.sl
        have h64 := Lib.hid hb64
        obtain ⟨eS, hSe⟩ : ∃ e, chk L s = e := ⟨_, rfl⟩
        obtain ⟨eM, hMe⟩ : ∃ e, chk L 9223372036854775807 = e := ⟨_, rfl⟩
        obtain ⟨e4, h4e⟩ : ∃ e, chk L 64 = e := ⟨_, rfl⟩
        have hcS : ∀ W, Kept wr W → _ := fun W hk => lawcheck_any A5 m c5 L s W (hS.kept hk) hb64 hs64.out (by omega)
        have hcM : ∀ W, Kept wr W → _ := fun W hk => lawcheck_any A5 m c5 L 9223372036854775807 W (hS.kept hk) hb64 max64 (by omega)
        have hc4 : ∀ W, Kept wr W → _ := fun W hk => lawcheck_any A5 m c5 L 64 W (hS.kept hk) hb64 (by unfold i64; omega) (by omega)
        have hkS : ∀ W, Kept wr W → _ := fun W hk => check_any A5 m c5 L s W (hS.kept hk) hb64 hs64.out (by omega)
        have hkM : ∀ W, Kept wr W → _ := fun W hk => check_any A5 m c5 L 9223372036854775807 W (hS.kept hk) hb64 max64 (by omega)
        have hlM : ∀ W, Kept wr W → _ := fun W hk => len_any A5 m c5 L W (hS.kept hk) hb64 (by omega)
        rw [hSe] at hcS hkS
        rw [hMe] at hcM hkM hlM
        rw [h4e] at hc4
        have hM := Lib.hid hMe
        have h4 := Lib.hid h4e
        have kk : Kept wr wr := Below.refl _ _
        have kk0 := hkw
        clear hb64 hSe hMe h4e hown hkw
        by_cases h0 : eM = 0
        · subst h0
          rw [if_pos rfl] at hlM
          go_upto_region 20 with (first
            | (go_at_call 24; (with_reducible refine (hcS _ kk).mono ?_); rintro e wx ⟨rfl, kx⟩; have kk := kk.trans' kx)
            | (go_at_call 24; (with_reducible refine (hcM _ kk).mono ?_); rintro e wx ⟨rfl, kx⟩; have kk := kk.trans' kx)
            | (go_at_call 24; (with_reducible refine (hc4 _ kk).mono ?_); rintro e wx ⟨rfl, kx⟩; have kk := kk.trans' kx)
            | (go_at_call 15; (with_reducible refine (hkS _ kk).mono ?_); rintro e wx ⟨rfl, kx⟩; have kk := kk.trans' kx)
            | (go_at_call 15; (with_reducible refine (hkM _ kk).mono ?_); rintro e wx ⟨rfl, kx⟩; have kk := kk.trans' kx)
            | (go_at_call 14; refine (hlM _ kk).mono ?_; rintro e wx ⟨rfl, kx⟩; have kk := kk.trans' kx)
            | (go_at_call 18; refine (y_cut (hS.kept kk) h64.out (by omega) hM.out).mono ?_; rintro e wx ⟨Ax, Kx, cx, rfl, hK, kx⟩; have kk := kk.trans' kx; skip)
            | (go_at_call 21; refine (y_packets (hS.kept kk) h64.out (by omega) hM.out).mono ?_; rintro e wx ⟨Ax, Kx, cx, rfl, hK, kx⟩; have kk := kk.trans' kx; skip)
            | (go_at_call 22; refine (y_join (hS.kept kk) h64.out (by omega) hM.out).mono ?_; rintro e wx ⟨Ax, Kx, cx, rfl, hK, kx⟩; have kk := kk.trans' kx; skip)
            | (go_at_call 23; refine (y_pages (hS.kept kk) h64.out (by omega) hM.out).mono ?_; rintro e wx ⟨Ax, Kx, cx, rfl, hK, kx⟩; have kk := kk.trans' kx; skip)
            | (go_at_call 13; refine (x_memory _).mono ?_; rintro e wx ⟨gx, rfl, _, bs, kx⟩; have kk := kk.trans' kx)
            | (go_at_call 12; refine (y_gather bs (hS.kept kk) h64.out (by omega) h4.out).mono ?_; rintro e wx ⟨Ax, Kx, cx, rfl, kx⟩; have kk := kk.trans' kx)
            | (go_at_call 17; refine (y_scat bs (hS.kept kk) h64.out (by omega) h4.out).mono ?_; rintro e wx ⟨Ax, Kx, cx, jx, rfl, hj, kx⟩; have kk := kk.trans' kx))
          rcases hj with rfl | ⟨rfl, rfl⟩
          · go_wp2_with (go_at_call 16; refine (lives_any _).mono ?_; rintro e wx ⟨rfl, kx⟩; have kk := kk.trans' kx)
            go_ret
            exact ⟨rfl, kk0.trans' kk⟩
          · go_wp2_with (go_at_call 16; refine (lives_any _).mono ?_; rintro e wx ⟨rfl, kx⟩; have kk := kk.trans' kx)
            go_ret
            exact ⟨rfl, kk0.trans' kk⟩
        · rw [if_neg h0] at hlM
          have h0b : (eM != 0) = true := by simpa using h0
          go_upto_region 20 with (first
            | (go_at_call 24; (with_reducible refine (hcS _ kk).mono ?_); rintro e wx ⟨rfl, kx⟩; have kk := kk.trans' kx)
            | (go_at_call 24; (with_reducible refine (hcM _ kk).mono ?_); rintro e wx ⟨rfl, kx⟩; have kk := kk.trans' kx)
            | (go_at_call 24; (with_reducible refine (hc4 _ kk).mono ?_); rintro e wx ⟨rfl, kx⟩; have kk := kk.trans' kx)
            | (go_at_call 15; (with_reducible refine (hkS _ kk).mono ?_); rintro e wx ⟨rfl, kx⟩; have kk := kk.trans' kx)
            | (go_at_call 15; (with_reducible refine (hkM _ kk).mono ?_); rintro e wx ⟨rfl, kx⟩; have kk := kk.trans' kx)
            | (go_at_call 14; refine (hlM _ kk).mono ?_; rintro e wx ⟨rfl, kx⟩; have kk := kk.trans' kx)
            | (go_at_call 18; refine (y_cut (hS.kept kk) h64.out (by omega) hM.out).mono ?_; rintro e wx ⟨Ax, Kx, cx, rfl, hK, kx⟩; have kk := kk.trans' kx; obtain rfl := hK.out h0)
            | (go_at_call 21; refine (y_packets (hS.kept kk) h64.out (by omega) hM.out).mono ?_; rintro e wx ⟨Ax, Kx, cx, rfl, hK, kx⟩; have kk := kk.trans' kx; obtain rfl := hK.out h0)
            | (go_at_call 22; refine (y_join (hS.kept kk) h64.out (by omega) hM.out).mono ?_; rintro e wx ⟨Ax, Kx, cx, rfl, hK, kx⟩; have kk := kk.trans' kx; obtain rfl := hK.out h0)
            | (go_at_call 23; refine (y_pages (hS.kept kk) h64.out (by omega) hM.out).mono ?_; rintro e wx ⟨Ax, Kx, cx, rfl, hK, kx⟩; have kk := kk.trans' kx; obtain rfl := hK.out h0)
            | (go_at_call 13; refine (x_memory _).mono ?_; rintro e wx ⟨gx, rfl, _, bs, kx⟩; have kk := kk.trans' kx)
            | (go_at_call 12; refine (y_gather bs (hS.kept kk) h64.out (by omega) h4.out).mono ?_; rintro e wx ⟨Ax, Kx, cx, rfl, kx⟩; have kk := kk.trans' kx)
            | (go_at_call 17; refine (y_scat bs (hS.kept kk) h64.out (by omega) h4.out).mono ?_; rintro e wx ⟨Ax, Kx, cx, jx, rfl, hj, kx⟩; have kk := kk.trans' kx))
          rcases hj with rfl | ⟨rfl, rfl⟩
          · go_wp2_with (go_at_call 16; refine (lives_any _).mono ?_; rintro e wx ⟨rfl, kx⟩; have kk := kk.trans' kx)
            go_ret
            exact ⟨rfl, kk0.trans' kk⟩
          · go_wp2_with (go_at_call 16; refine (lives_any _).mono ?_; rintro e wx ⟨rfl, kx⟩; have kk := kk.trans' kx)
            go_ret
            exact ⟨rfl, kk0.trans' kk⟩
    · have h1' : t % 300 ≤ (i : Int) := by omega
      obtain ⟨A5, c5, rfl, _, _⟩ := hown.isSlice
      have hS := hown.sl
      have h64 := Lib.hid hb64
      obtain ⟨eS, hSe⟩ : ∃ e, chk L s = e := ⟨_, rfl⟩
      obtain ⟨eM, hMe⟩ : ∃ e, chk L 9223372036854775807 = e := ⟨_, rfl⟩
      obtain ⟨e4, h4e⟩ : ∃ e, chk L 64 = e := ⟨_, rfl⟩
      have hcS : ∀ W, Kept wr W → _ := fun W hk => lawcheck_any A5 m c5 L s W (hS.kept hk) hb64 hs64.out (by omega)
      have hcM : ∀ W, Kept wr W → _ := fun W hk => lawcheck_any A5 m c5 L 9223372036854775807 W (hS.kept hk) hb64 max64 (by omega)
      have hc4 : ∀ W, Kept wr W → _ := fun W hk => lawcheck_any A5 m c5 L 64 W (hS.kept hk) hb64 (by unfold i64; omega) (by omega)
      have hkS : ∀ W, Kept wr W → _ := fun W hk => check_any A5 m c5 L s W (hS.kept hk) hb64 hs64.out (by omega)
      have hkM : ∀ W, Kept wr W → _ := fun W hk => check_any A5 m c5 L 9223372036854775807 W (hS.kept hk) hb64 max64 (by omega)
      have hlM : ∀ W, Kept wr W → _ := fun W hk => len_any A5 m c5 L W (hS.kept hk) hb64 (by omega)
      rw [hSe] at hcS hkS
      rw [hMe] at hcM hkM hlM
      rw [h4e] at hc4
      have hM := Lib.hid hMe
      have h4 := Lib.hid h4e
      have kk : Kept wr wr := Below.refl _ _
      have kk0 := hkw
      clear hb64 hSe hMe h4e hown hkw
      by_cases h0 : eM = 0
      · subst h0
        rw [if_pos rfl] at hlM
        go_upto_region 20 with (first
          | (go_at_call 24; (with_reducible refine (hcS _ kk).mono ?_); rintro e wx ⟨rfl, kx⟩; have kk := kk.trans' kx)
          | (go_at_call 24; (with_reducible refine (hcM _ kk).mono ?_); rintro e wx ⟨rfl, kx⟩; have kk := kk.trans' kx)
          | (go_at_call 24; (with_reducible refine (hc4 _ kk).mono ?_); rintro e wx ⟨rfl, kx⟩; have kk := kk.trans' kx)
          | (go_at_call 15; (with_reducible refine (hkS _ kk).mono ?_); rintro e wx ⟨rfl, kx⟩; have kk := kk.trans' kx)
          | (go_at_call 15; (with_reducible refine (hkM _ kk).mono ?_); rintro e wx ⟨rfl, kx⟩; have kk := kk.trans' kx)
          | (go_at_call 14; refine (hlM _ kk).mono ?_; rintro e wx ⟨rfl, kx⟩; have kk := kk.trans' kx)
          | (go_at_call 18; refine (y_cut (hS.kept kk) h64.out (by omega) hM.out).mono ?_; rintro e wx ⟨Ax, Kx, cx, rfl, hK, kx⟩; have kk := kk.trans' kx; skip)
          | (go_at_call 21; refine (y_packets (hS.kept kk) h64.out (by omega) hM.out).mono ?_; rintro e wx ⟨Ax, Kx, cx, rfl, hK, kx⟩; have kk := kk.trans' kx; skip)
          | (go_at_call 22; refine (y_join (hS.kept kk) h64.out (by omega) hM.out).mono ?_; rintro e wx ⟨Ax, Kx, cx, rfl, hK, kx⟩; have kk := kk.trans' kx; skip)
          | (go_at_call 23; refine (y_pages (hS.kept kk) h64.out (by omega) hM.out).mono ?_; rintro e wx ⟨Ax, Kx, cx, rfl, hK, kx⟩; have kk := kk.trans' kx; skip)
          | (go_at_call 13; refine (x_memory _).mono ?_; rintro e wx ⟨gx, rfl, _, bs, kx⟩; have kk := kk.trans' kx)
          | (go_at_call 12; refine (y_gather bs (hS.kept kk) h64.out (by omega) h4.out).mono ?_; rintro e wx ⟨Ax, Kx, cx, rfl, kx⟩; have kk := kk.trans' kx)
          | (go_at_call 17; refine (y_scat bs (hS.kept kk) h64.out (by omega) h4.out).mono ?_; rintro e wx ⟨Ax, Kx, cx, jx, rfl, hj, kx⟩; have kk := kk.trans' kx))
        rcases hj with rfl | ⟨rfl, rfl⟩
        · go_wp2_with (go_at_call 16; refine (lives_any _).mono ?_; rintro e wx ⟨rfl, kx⟩; have kk := kk.trans' kx)
          go_ret
          exact ⟨rfl, kk0.trans' kk⟩
        · go_wp2_with (go_at_call 16; refine (lives_any _).mono ?_; rintro e wx ⟨rfl, kx⟩; have kk := kk.trans' kx)
          go_ret
          exact ⟨rfl, kk0.trans' kk⟩
      · rw [if_neg h0] at hlM
        have h0b : (eM != 0) = true := by simpa using h0
        go_upto_region 20 with (first
          | (go_at_call 24; (with_reducible refine (hcS _ kk).mono ?_); rintro e wx ⟨rfl, kx⟩; have kk := kk.trans' kx)
          | (go_at_call 24; (with_reducible refine (hcM _ kk).mono ?_); rintro e wx ⟨rfl, kx⟩; have kk := kk.trans' kx)
          | (go_at_call 24; (with_reducible refine (hc4 _ kk).mono ?_); rintro e wx ⟨rfl, kx⟩; have kk := kk.trans' kx)
          | (go_at_call 15; (with_reducible refine (hkS _ kk).mono ?_); rintro e wx ⟨rfl, kx⟩; have kk := kk.trans' kx)
          | (go_at_call 15; (with_reducible refine (hkM _ kk).mono ?_); rintro e wx ⟨rfl, kx⟩; have kk := kk.trans' kx)
          | (go_at_call 14; refine (hlM _ kk).mono ?_; rintro e wx ⟨rfl, kx⟩; have kk := kk.trans' kx)
          | (go_at_call 18; refine (y_cut (hS.kept kk) h64.out (by omega) hM.out).mono ?_; rintro e wx ⟨Ax, Kx, cx, rfl, hK, kx⟩; have kk := kk.trans' kx; obtain rfl := hK.out h0)
          | (go_at_call 21; refine (y_packets (hS.kept kk) h64.out (by omega) hM.out).mono ?_; rintro e wx ⟨Ax, Kx, cx, rfl, hK, kx⟩; have kk := kk.trans' kx; obtain rfl := hK.out h0)
          | (go_at_call 22; refine (y_join (hS.kept kk) h64.out (by omega) hM.out).mono ?_; rintro e wx ⟨Ax, Kx, cx, rfl, hK, kx⟩; have kk := kk.trans' kx; obtain rfl := hK.out h0)
          | (go_at_call 23; refine (y_pages (hS.kept kk) h64.out (by omega) hM.out).mono ?_; rintro e wx ⟨Ax, Kx, cx, rfl, hK, kx⟩; have kk := kk.trans' kx; obtain rfl := hK.out h0)
          | (go_at_call 13; refine (x_memory _).mono ?_; rintro e wx ⟨gx, rfl, _, bs, kx⟩; have kk := kk.trans' kx)
          | (go_at_call 12; refine (y_gather bs (hS.kept kk) h64.out (by omega) h4.out).mono ?_; rintro e wx ⟨Ax, Kx, cx, rfl, kx⟩; have kk := kk.trans' kx)
          | (go_at_call 17; refine (y_scat bs (hS.kept kk) h64.out (by omega) h4.out).mono ?_; rintro e wx ⟨Ax, Kx, cx, jx, rfl, hj, kx⟩; have kk := kk.trans' kx))
        rcases hj with rfl | ⟨rfl, rfl⟩
        · go_wp2_with (go_at_call 16; refine (lives_any _).mono ?_; rintro e wx ⟨rfl, kx⟩; have kk := kk.trans' kx)
          go_ret
          exact ⟨rfl, kk0.trans' kk⟩
        · go_wp2_with (go_at_call 16; refine (lives_any _).mono ?_; rintro e wx ⟨rfl, kx⟩; have kk := kk.trans' kx)
          go_ret
          exact ⟨rfl, kk0.trans' kk⟩
end Go.Proofs.Ytdkinfglpnajmaa
