
/- The walk of TextsDecode. The list reads as numbers of 16 bits; the two tables of unicode/utf8 are as the program lays them. -/
import Derived.Test.YtokijdgakphfiaaDoorChecked
import Derived.Deep.RegionHeld3
import Derived.Deep.DrawnRows
import Derived.Deep.DeepCutAuto
import Derived.Deep.LoopGhost
import Derived.Outline
import Derived.Handy
import Derived.OwnWalk
import Derived.Test.YtokijdgakphfiaaDoorSr
namespace Go.Proofs.YtokijdgakphfiaaDoor
open Go.RowKit
attribute [local go_sem ↓] Go.wp_at_zero Go.wp_at_succ

/-- so far: whether one of the first units is a half without its other one -/
def Far (us : List Nat) (k : Nat) (q : Int) : Prop := (q = 4 ∧ ∃ i, i < k ∧ badAt us i) ∨ (q = 0 ∧ ¬ ∃ i, i < k ∧ badAt us i)
theorem far_bad {us : List Nat} {k : Nat} (h : badAt us k) : Far us (k + 1) 4 := .inl ⟨rfl, k, by omega, h⟩
theorem far_fine {us : List Nat} {k : Nat} {q : Int} (hf : Far us k q) (h : ¬ badAt us k) : Far us (k + 1) q := by
  rcases hf with ⟨h1, i, hi, hb⟩ | ⟨h1, hn⟩
  · exact .inl ⟨h1, i, by omega, hb⟩
  · refine .inr ⟨h1, ?_⟩
    rintro ⟨i, hi, hb⟩
    by_cases e : i = k
    · rw [e] at hb; exact h hb
    · exact hn ⟨i, by omega, hb⟩
theorem far_start (us : List Nat) : Far us 0 0 := .inr ⟨rfl, by rintro ⟨i, hi, _⟩; omega⟩
theorem badAt_lt {us : List Nat} {i : Nat} (h : badAt us i) : i < us.length := by
  obtain ⟨u, hu, _⟩ := h
  exact (List.getElem?_eq_some_iff.1 hu).1
theorem far_end {us : List Nat} {k : Nat} {q : Int} (hf : Far us k q) (hk : us.length ≤ k) : (q = 4 ∧ joinU us = none) ∨ (q = 0 ∧ ∃ l, joinU us = some l) := by
  rcases hf with ⟨h1, i, _, hb⟩ | ⟨h1, hn⟩
  · exact .inl ⟨h1, (join_none us).2 ⟨i, hb⟩⟩
  · refine .inr ⟨h1, ?_⟩
    cases hj : joinU us with
    | some l => exact ⟨l, rfl⟩
    | none =>
      obtain ⟨i, hb⟩ := (join_none us).1 hj
      exact absurd ⟨i, by have := badAt_lt hb; omega, hb⟩ hn
theorem bad_first {us : List Nat} {k x : Nat} (hx : us[k]? = some x) (h : 55296 ≤ x ∧ x < 56320) (hn : us.length = k + 1 ∨ ∃ y, us[k + 1]? = some y ∧ (y < 56320 ∨ 57344 ≤ y)) : badAt us k := by
  refine ⟨x, hx, .inl ⟨h.1, h.2, fun v hv => ?_⟩⟩
  rcases hn with hn | ⟨y, hy, h2⟩
  · rw [List.getElem?_eq_none (by omega)] at hv; cases hv
  · rw [hy] at hv; cases hv; omega
theorem bad_second {us : List Nat} {k x : Nat} (hx : us[k]? = some x) (h : 56320 ≤ x ∧ x < 57344) (hn : k = 0 ∨ ∃ y, us[k - 1]? = some y ∧ (y < 55296 ∨ 56320 ≤ y)) : badAt us k := by
  refine ⟨x, hx, .inr ⟨h.1, h.2, ?_⟩⟩
  rcases hn with hn | ⟨y, hy, h2⟩
  · exact .inl hn
  · refine .inr (fun v hv => ?_)
    rw [hy] at hv; cases hv; omega
theorem fine_plain {us : List Nat} {k x : Nat} (hx : us[k]? = some x) (h : x < 55296 ∨ 57344 ≤ x) : ¬ badAt us k := by
  rintro ⟨u, hu, h1⟩
  rw [hx] at hu; cases hu
  rcases h1 with ⟨h1, h2, _⟩ | ⟨h1, h2, _⟩ <;> omega
theorem fine_first {us : List Nat} {k x y : Nat} (hx : us[k]? = some x) (h : x < 56320) (hy : us[k + 1]? = some y) (h2 : 56320 ≤ y ∧ y < 57344) : ¬ badAt us k := by
  rintro ⟨u, hu, h1⟩
  rw [hx] at hu; cases hu
  rcases h1 with ⟨_, _, h3⟩ | ⟨h3, _, _⟩
  · exact h3 y hy h2
  · omega
theorem fine_second {us : List Nat} {k x y : Nat} (hx : us[k]? = some x) (h : 56320 ≤ x) (hk : 0 < k) (hy : us[k - 1]? = some y) (h2 : 55296 ≤ y ∧ y < 56320) : ¬ badAt us k := by
  rintro ⟨u, hu, h1⟩
  rw [hx] at hu; cases hu
  rcases h1 with ⟨_, h3, _⟩ | ⟨_, _, h3⟩
  · omega
  · rcases h3 with h3 | h3
    · omega
    · exact h3 y hy h2

theorem dec_bad (A : Option Addr) (n c : Nat) (bs : List UInt8) (w : World) (hn : n ≤ 1000) (hb : Sl byT w (low w.heap.size) A n bs) (hbad : badWidth bs) :
    Calls Tryd.prog 15 #[.slice A n c] w fun e w' => e = .returned (.tuple #[.string ⟨#[]⟩, .int .i64 5]) ∧ Kept w w' := by
  refine (dec_any A n c bs w hn hb).mono ?_
  rintro e w' (⟨_, h⟩ | ⟨h, _⟩ | ⟨h, _⟩)
  · exact h
  · exact absurd hbad h
  · exact absurd hbad h
theorem dec_form (A : Option Addr) (n c : Nat) (bs : List UInt8) (w : World) (hn : n ≤ 1000) (hb : Sl byT w (low w.heap.size) A n bs) (hbad : ¬ badWidth bs) (h3 : bs.getD 1 0 ≠ 3) :
    Calls Tryd.prog 15 #[.slice A n c] w fun e w' => e = .returned (.tuple #[.string ⟨#[]⟩, .int .i64 4]) ∧ Kept w w' := by
  refine (dec_any A n c bs w hn hb).mono ?_
  rintro e w' (⟨h, _⟩ | ⟨_, _, h⟩ | ⟨_, h, _⟩)
  · exact absurd h hbad
  · exact h
  · exact absurd h h3
set_option maxRecDepth 100000 in
set_option maxHeartbeats 4000000 in
theorem decode_law (A : Option Addr) (n c : Nat) (us : List Nat) (v : Int) (w : World) (hv : 0 ≤ v ∧ v < 256) (hl : Sl u16T w (low w.heap.size) A n us) (hT : Tabs w) :
    Calls Tryd.prog 5 #[.slice A n c, .int .u8 v] w fun e w' => e = .returned (.bool true) ∧ Kept w w' := by
  have hln := hl.1
  by_cases h126 : 126 < n
  · have h126' : (126 : Int) < (n : Int) := by omega
    clear h126 hln
    go_enter Tryd.func5, Tryd.ntmps5
    go_wp2_with (go_at_call 10; refine (lives_any _ hT).mono ?_; rintro e w1 ⟨rfl, hk⟩)
    go_ret
    exact ⟨rfl, hk⟩
  · have h126' : (n : Int) ≤ 126 := by omega
    have hn : n ≤ 126 := by omega
    have hus : ∀ u ∈ us, u < 65536 := fun u hu => by
      obtain ⟨i, hi, e⟩ := List.getElem_of_mem hu
      obtain ⟨b, off, cs, _, _, hr, _⟩ := hl.2 i u (by rw [List.getElem?_eq_getElem hi, e])
      exact hr.2
    have cT := told_any A n c us w (by omega) hl
    obtain ⟨K, hK⟩ : ∃ K, K = 2 + 2 * n := ⟨_, rfl⟩
    have hszK : (⟨(toldL us).toArray⟩ : ByteArray).size = K := by rw [Lib.size_eq]; show (toldL us).length = K; rw [toldL_len, hln, hK]
    have HszK := hide hszK
    have HK := hide hK
    have Hus := hide hus
    have Hln := hide hln
    have HT := hide hT
    have HL := hide hl
    clear h126 hln hT hus hK hszK hl
    go_enter Tryd.func5, Tryd.ntmps5
    go_wp2_with (go_at_call 16; refine cT.mono ?_; rintro e w1 ⟨rfl, hk1⟩; obtain ⟨cap, w2, hr2, hrow, hcap, hk2⟩ := str_row ⟨(toldL us).toArray⟩ w1; rw [HszK.out] at hr2 hcap)
    have HKW := hide (hk1.trans' hk2)
    have HR := hide (show StrRow w2 w1.heap.size cap (toldL us) from hrow)
    have HG := hide (show w.heap.size ≤ w1.heap.size from hk1.size)
    clear cT hk1 hk2 hrow hr2
    go_loopg [6, 7] n (fun gf s6 s7 wr => ∃ (k : Nat) (q : Int), k + gf = n ∧ s7 = .int .i64 k ∧ s6 = .int .i64 q ∧ Hid (Far us k q) ∧ w2 = wr)
    case atStart => exact ⟨0, 0, by omega, rfl, rfl, hide (far_start us), rfl⟩
    case round =>
      obtain ⟨k, q, hk9, rfl, rfl, Hq, rfl⟩ := hrel
      have Hk := hide hk9
      have hkn : k ≤ n := by omega
      clear hk9
      by_cases hlt : k < n
      · obtain ⟨x, b, off, hx, rfl, hbw, hbr, hx6, e0⟩ := u16_at HL.out HKW.out hlt
        obtain ⟨z, hz⟩ : ∃ z : Int, z = (x : Int) := ⟨_, rfl⟩
        rw [← hz] at e0
        have hz0 : 0 ≤ z := by omega
        have hz1 : z < 65536 := by omega
        have Hx := hide hx
        have Hz := hide hz
        clear hx hx6 hz
        have hlt' : (k : Int) < (n : Int) := by omega
        have hk0 : (0 : Int) ≤ (k : Int) := by omega
        by_cases hs : z < 55296
        · have Hf := hide (fine_plain Hx.out (.inl (by have := Hz.out; omega)))
          go_wp2_with fail
          go_roundg (gk - 1)
          case measure => have := Hk.out; omega
          case rel => exact ⟨k + 1, q, by have := Hk.out; omega, by go_num, rfl, hide (far_fine Hq.out (Hf.out)), rfl⟩
        · have hs1 : 55296 ≤ z := by omega
          clear hs
          by_cases hs2 : z < 56320
          · by_cases h7 : k + 1 < n
            · obtain ⟨y, b', off', hy, he, _, _, hy6, e1⟩ := u16_at HL.out HKW.out h7
              injection he with he
              injection he with he1 he2 _
              subst he1 he2
              obtain ⟨zy, hzy⟩ : ∃ z : Int, z = (y : Int) := ⟨_, rfl⟩
              rw [← hzy] at e1
              have hy0 : 0 ≤ zy := by omega
              have hy1 : zy < 65536 := by omega
              have Hy := hide hy
              have Hzy := hide hzy
              clear hy hy6 hzy
              have h7' : (k : Int) + 1 < (n : Int) := by omega
              have hk1 : (0 : Int) ≤ (k : Int) + 1 := by omega
              have ht1 : ((k : Int) + 1).toNat = k + 1 := by omega
              have hne : ((k : Int) + 1 == (n : Int)) = false := by simp; omega
              by_cases h8 : zy < 56320
              · have Hf := hide (bad_first Hx.out (by have := Hz.out; omega) (.inr ⟨y, Hy.out, by have := Hzy.out; omega⟩))
                go_wp2_with fail
                go_roundg (gk - 1)
                case measure => have := Hk.out; omega
                case rel => exact ⟨k + 1, 4, by have := Hk.out; omega, by go_num, rfl, hide (far_bad (Hf.out)), rfl⟩
              · have h8' : 56320 ≤ zy := by omega
                clear h8
                by_cases h9 : 57344 ≤ zy
                · have Hf := hide (bad_first Hx.out (by have := Hz.out; omega) (.inr ⟨y, Hy.out, by have := Hzy.out; omega⟩))
                  go_wp2_with fail
                  go_roundg (gk - 1)
                  case measure => have := Hk.out; omega
                  case rel => exact ⟨k + 1, 4, by have := Hk.out; omega, by go_num, rfl, hide (far_bad (Hf.out)), rfl⟩
                · have h9' : zy < 57344 := by omega
                  clear h9
                  have Hf := hide (fine_first Hx.out (by have := Hz.out; omega) Hy.out (by have := Hzy.out; omega))
                  go_wp2_with fail
                  go_roundg (gk - 1)
                  case measure => have := Hk.out; omega
                  case rel => exact ⟨k + 1, q, by have := Hk.out; omega, by go_num, rfl, hide (far_fine Hq.out (Hf.out)), rfl⟩
            · have Hf := hide (bad_first Hx.out (by have := Hz.out; omega) (.inl (by have := Hln.out; omega)))
              have hne : ((k : Int) + 1 == (n : Int)) = true := by simp; omega
              go_wp2_with fail
              go_roundg (gk - 1)
              case measure => have := Hk.out; omega
              case rel => exact ⟨k + 1, 4, by have := Hk.out; omega, by go_num, rfl, hide (far_bad (Hf.out)), rfl⟩
          · have hs3 : 56320 ≤ z := by omega
            clear hs2
            by_cases hs4 : z < 57344
            · by_cases h0 : k = 0
              · have Hf := hide (bad_second Hx.out (by have := Hz.out; omega) (.inl h0))
                have hne : ((k : Int) == 0) = true := by simp; omega
                clear h0
                go_wp2_with fail
                go_roundg (gk - 1)
                case measure => have := Hk.out; omega
                case rel => exact ⟨k + 1, 4, by have := Hk.out; omega, by go_num, rfl, hide (far_bad (Hf.out)), rfl⟩
              · obtain ⟨y, b', off', hy, he, _, _, hy6, e1⟩ := u16_at HL.out HKW.out (show k - 1 < n by omega)
                injection he with he
                injection he with he1 he2 _
                subst he1 he2
                obtain ⟨zy, hzy⟩ : ∃ z : Int, z = (y : Int) := ⟨_, rfl⟩
                rw [← hzy] at e1
                have hy0 : 0 ≤ zy := by omega
                have hy1 : zy < 65536 := by omega
                have Hy := hide hy
                have Hzy := hide hzy
                have Hk0 := hide (show 0 < k by omega)
                have hk1 : (1 : Int) ≤ (k : Int) := by omega
                have hk2 : (0 : Int) ≤ (k : Int) - 1 := by omega
                have hk3 : (k : Int) - 1 < (n : Int) := by omega
                have ht1 : ((k : Int) - 1).toNat = k - 1 := by omega
                have hne : ((k : Int) == 0) = false := by simp; omega
                clear hy hy6 hzy h0
                by_cases h8 : zy < 55296
                · have Hf := hide (bad_second Hx.out (by have := Hz.out; omega) (.inr ⟨y, Hy.out, by have := Hzy.out; omega⟩))
                  go_wp2_with fail
                  go_roundg (gk - 1)
                  case measure => have := Hk.out; omega
                  case rel => exact ⟨k + 1, 4, by have := Hk.out; omega, by go_num, rfl, hide (far_bad (Hf.out)), rfl⟩
                · have h8' : 55296 ≤ zy := by omega
                  clear h8
                  by_cases h9 : 56320 ≤ zy
                  · have Hf := hide (bad_second Hx.out (by have := Hz.out; omega) (.inr ⟨y, Hy.out, by have := Hzy.out; omega⟩))
                    go_wp2_with fail
                    go_roundg (gk - 1)
                    case measure => have := Hk.out; omega
                    case rel => exact ⟨k + 1, 4, by have := Hk.out; omega, by go_num, rfl, hide (far_bad (Hf.out)), rfl⟩
                  · have h9' : zy < 56320 := by omega
                    clear h9
                    have Hf := hide (fine_second Hx.out (by have := Hz.out; omega) Hk0.out Hy.out (by have := Hzy.out; omega))
                    go_wp2_with fail
                    go_roundg (gk - 1)
                    case measure => have := Hk.out; omega
                    case rel => exact ⟨k + 1, q, by have := Hk.out; omega, by go_num, rfl, hide (far_fine Hq.out (Hf.out)), rfl⟩
            · have hs5 : 57344 ≤ z := by omega
              clear hs4
              have Hf := hide (fine_plain Hx.out (.inr (by have := Hz.out; omega)))
              go_wp2_with fail
              go_roundg (gk - 1)
              case measure => have := Hk.out; omega
              case rel => exact ⟨k + 1, q, by have := Hk.out; omega, by go_num, rfl, hide (far_fine Hq.out (Hf.out)), rfl⟩
      · have hend := far_end Hq.out (by have := Hln.out; omega)
        have hge : (n : Int) ≤ (k : Int) := by omega
        have HE := hide hend
        have hv0 := hv.1
        have hv1 := hv.2
        have hd0 : 0 ≤ v / 8 := by omega
        have hd1 : v / 8 ≤ 31 := by omega
        have hcap0 : 0 < cap := by have := HK.out; omega
        have hKc : (K : Int) ≤ (cap : Int) := by omega
        have hK2 : (2 : Int) ≤ (K : Int) := by have := HK.out; omega
        have hK3 : (K : Int) ≤ 254 := by have := HK.out; omega
        have Htl := hide (show (toldL us).length = K by rw [toldL_len, Hln.out, HK.out])
        clear hend hv Hq Hk hkn hlt
        by_cases c1 : v % 8 = 1
        · obtain ⟨nb, hnb⟩ : ∃ nb : UInt8, (nb.toNat : Int) = (K + (1 + v / 8)) % 256 := ⟨UInt8.ofNat ((K + (1 + v / 8)) % 256).toNat, by rw [toNat_of (by omega)]; omega⟩
          have e0 : w2.cell? ⟨w1.heap.size, 0, none⟩ = some (.int .u8 (K : Int)) := by
            have h := HR.out.cell (j := 0) (b := UInt8.ofNat (2 + 2 * us.length)) rfl
            rw [toNat_of (by have := Hln.out; omega), Hln.out, ← HK.out] at h
            exact h
          have f0 := HR.out.free (j := 0) hcap0
          have hb0 := HR.out.lt
          have Hnb := hide hnb
          have hrs := HR.out.store (j := 0) (by rw [Htl.out]; omega) nb
          rw [hnb] at hrs
          have HRS := hide hrs
          clear hnb hrs
          have HGlt := hide (show w1.heap.size < w2.heap.size from HR.out.lt)
          go_upto_region 25 with fail
          have hbl : ((toldL us).set 0 nb).length = K := by rw [List.length_set, Htl.out]
          have hfin : Sl byT (w2.setCell ⟨w1.heap.size, 0, none⟩ (.int .u8 (((K : Int) + (1 + v / 8)) % 256))) (low (w2.setCell ⟨w1.heap.size, 0, none⟩ (.int .u8 (((K : Int) + (1 + v / 8)) % 256))).heap.size) (some ⟨w1.heap.size, 0, none⟩) K ((toldL us).set 0 nb) ∧ Kept w (w2.setCell ⟨w1.heap.size, 0, none⟩ (.int .u8 (((K : Int) + (1 + v / 8)) % 256))) := by
            have h := HRS.out.sl
            rw [hbl] at h
            exact ⟨h, HKW.out.setCell HG.out _⟩
          have hbad : badWidth ((toldL us).set 0 nb) := by
            right; right
            rw [hbl]
            have e : ((toldL us).set 0 nb).getD 0 0 = nb := rfl
            rw [e]
            have := Hnb.out
            omega
          have hD : ∀ W, Sl byT W (low W.heap.size) (some ⟨w1.heap.size, 0, none⟩) K ((toldL us).set 0 nb) → Calls Tryd.prog 15 #[.slice (some ⟨w1.heap.size, 0, none⟩) K cap] W fun e w' => e = .returned (.tuple #[.string ⟨#[]⟩, .int .i64 5]) ∧ Kept W w' := fun W h => dec_bad _ K cap _ W (by omega) h hbad
          clear HRS Hnb hbl hbad e0 f0 hb0 HGlt
          refine wp_at (fun W => Sl byT W (low W.heap.size) (some ⟨w1.heap.size, 0, none⟩) (K) ((toldL us).set 0 nb) ∧ Kept w W) hfin (fun W hW => ?_)
          obtain ⟨hSl, hkW⟩ := hW
          have cD := hD W hSl
          have HSl := hide hSl
          have HkW := hide hkW
          clear hfin hD hSl hkW
          generalize (toldL us).set 0 nb = bs at *
          have hcv0 := arg_string (d := cap) HSl.out (Below.refl _ _)
          have hTT : (!(⟨bs.toArray⟩ : ByteArray).toList == (⟨bs.toArray⟩ : ByteArray).toList) = false := by simp
          go_wp2_with (first
            | (go_at_call 15; refine cD.mono ?_; rintro e w3 ⟨rfl, hk3⟩; have hcv3 := arg_string (d := cap) HSl.out hk3; have HK3 := hide (HkW.out.trans' hk3))
            | (go_at_call 10; refine (lives_any _ (HT.out.below HK3.out)).mono ?_; rintro e w4 ⟨rfl, hk4⟩))
          go_ret
          exact ⟨rfl, HK3.out.trans' hk4⟩
        · have c1' : (v % 8 == 1) = false := by simpa using c1
          clear c1
          by_cases c2 : v % 8 = 2
          · obtain ⟨nb, hnb⟩ : ∃ nb : UInt8, (nb.toNat : Int) = 3 + (1 + v / 8) := ⟨UInt8.ofNat (3 + (1 + v / 8)).toNat, by rw [toNat_of (by omega)]; omega⟩
            have e0 : w2.cell? ⟨w1.heap.size, 1, none⟩ = some (.int .u8 3) := HR.out.cell (j := 1) (b := 3) rfl
            have f0 := HR.out.free (j := 1) (by omega)
            have hb0 := HR.out.lt
            have Hnb := hide hnb
            have hrs := HR.out.store (j := 1) (by rw [Htl.out]; omega) nb
            rw [hnb] at hrs
            have HRS := hide hrs
            have hK9 : (1 : Int) < (K : Int) := by omega
            clear hnb hrs
            go_upto_region 25 with fail
            have hbl : ((toldL us).set 1 nb).length = K := by rw [List.length_set, Htl.out]
            have hfin : Sl byT (w2.setCell ⟨w1.heap.size, 1, none⟩ (.int .u8 (3 + (1 + v / 8)))) (low (w2.setCell ⟨w1.heap.size, 1, none⟩ (.int .u8 (3 + (1 + v / 8)))).heap.size) (some ⟨w1.heap.size, 0, none⟩) K ((toldL us).set 1 nb) ∧ Kept w (w2.setCell ⟨w1.heap.size, 1, none⟩ (.int .u8 (3 + (1 + v / 8)))) := by
              have h := HRS.out.sl
              rw [hbl] at h
              exact ⟨h, HKW.out.setCell HG.out _⟩
            have hbad : ¬ badWidth ((toldL us).set 1 nb) := by
              have h := told_width (us := us) (by have := Hln.out; omega)
              unfold badWidth at h ⊢
              rw [hbl]
              rw [Htl.out] at h
              exact h
            have h3 : ((toldL us).set 1 nb).getD 1 0 ≠ 3 := by
              have e : ((toldL us).set 1 nb).getD 1 0 = nb := rfl
              rw [e]
              intro e
              have := Hnb.out
              rw [e] at this
              have h9 : ((3 : UInt8).toNat : Int) = 3 := rfl
              omega
            have hD : ∀ W, Sl byT W (low W.heap.size) (some ⟨w1.heap.size, 0, none⟩) K ((toldL us).set 1 nb) → Calls Tryd.prog 15 #[.slice (some ⟨w1.heap.size, 0, none⟩) K cap] W fun e w' => e = .returned (.tuple #[.string ⟨#[]⟩, .int .i64 4]) ∧ Kept W w' := fun W h => dec_form _ K cap _ W (by omega) h hbad h3
            clear HRS Hnb hbl hbad h3 e0 f0 hb0
            refine wp_at (fun W => Sl byT W (low W.heap.size) (some ⟨w1.heap.size, 0, none⟩) (K) ((toldL us).set 1 nb) ∧ Kept w W) hfin (fun W hW => ?_)
            obtain ⟨hSl, hkW⟩ := hW
            have cD := hD W hSl
            have HSl := hide hSl
            have HkW := hide hkW
            clear hfin hD hSl hkW
            generalize (toldL us).set 1 nb = bs at *
            have hcv0 := arg_string (d := cap) HSl.out (Below.refl _ _)
            have hTT : (!(⟨bs.toArray⟩ : ByteArray).toList == (⟨bs.toArray⟩ : ByteArray).toList) = false := by simp
            go_wp2_with (first
              | (go_at_call 15; refine cD.mono ?_; rintro e w3 ⟨rfl, hk3⟩; have hcv3 := arg_string (d := cap) HSl.out hk3; have HK3 := hide (HkW.out.trans' hk3))
              | (go_at_call 10; refine (lives_any _ (HT.out.below HK3.out)).mono ?_; rintro e w4 ⟨rfl, hk4⟩))
            go_ret
            exact ⟨rfl, HK3.out.trans' hk4⟩
          · have c2' : (v % 8 == 2) = false := by simpa using c2
            clear c2
            by_cases c3 : v % 8 = 3
            · have hk1 : (0 : Int) ≤ (K : Int) - 1 := by omega
              have hk2 : (K : Int) - 1 ≤ (cap : Int) := by omega
              have hk3 : ((K : Int) - 1).toNat = K - 1 := by omega
              have hcz : ¬ cap = 0 := by omega
              go_upto_region 25 with fail
              have hfin : Sl byT w2 (low w2.heap.size) (some ⟨w1.heap.size, 0, none⟩) (K - 1) ((toldL us).take (K - 1)) ∧ Kept w w2 := by
                have h := HR.out.sl
                rw [Htl.out] at h
                exact ⟨h.take (by omega), HKW.out⟩
              have hbad : badWidth ((toldL us).take (K - 1)) := by
                left
                rw [List.length_take, Htl.out]
                have := HK.out
                omega
              have hD : ∀ W, Sl byT W (low W.heap.size) (some ⟨w1.heap.size, 0, none⟩) (K - 1) ((toldL us).take (K - 1)) → Calls Tryd.prog 15 #[.slice (some ⟨w1.heap.size, 0, none⟩) (K - 1) cap] W fun e w' => e = .returned (.tuple #[.string ⟨#[]⟩, .int .i64 5]) ∧ Kept W w' := fun W h => dec_bad _ (K - 1) cap _ W (by omega) h hbad
              clear hbad
              refine wp_at (fun W => Sl byT W (low W.heap.size) (some ⟨w1.heap.size, 0, none⟩) (K - 1) ((toldL us).take (K - 1)) ∧ Kept w W) hfin (fun W hW => ?_)
              obtain ⟨hSl, hkW⟩ := hW
              have cD := hD W hSl
              have HSl := hide hSl
              have HkW := hide hkW
              clear hfin hD hSl hkW
              generalize (toldL us).take (K - 1) = bs at *
              have hcv0 := arg_string (d := cap) HSl.out (Below.refl _ _)
              have hTT : (!(⟨bs.toArray⟩ : ByteArray).toList == (⟨bs.toArray⟩ : ByteArray).toList) = false := by simp
              go_wp2_with (first
                | (go_at_call 15; refine cD.mono ?_; rintro e w3 ⟨rfl, hk3⟩; have hcv3 := arg_string (d := cap) HSl.out hk3; have HK3 := hide (HkW.out.trans' hk3))
                | (go_at_call 10; refine (lives_any _ (HT.out.below HK3.out)).mono ?_; rintro e w4 ⟨rfl, hk4⟩))
              go_ret
              exact ⟨rfl, HK3.out.trans' hk4⟩
            · have c3' : (v % 8 == 3) = false := by simpa using c3
              clear c3
              by_cases c4 : v % 8 = 4
              · go_upto_region 25 with (at_builtin; refine wpList_append_two rfl (.tmp 130) (.tmp 131) rfl w1.heap.size w1.heap.size cap K (toldL us) (by rfl) (HR.out.kept ((Below.refl _ _).alloc (Nat.le_refl _) _)) Htl.out (Nat.le_refl _) (by omega) w2.heap.size (by rfl) (heap_at _ rfl) ?_; intro g5 c5 w5 hsl5 hb5)
                have hfin : Sl byT w5 (low w5.heap.size) (some ⟨g5, 0, none⟩) (K + 2) (toldL us ++ [0, 0]) ∧ Kept w w5 := ⟨hsl5, (HKW.out.alloc HKW.out.size _).trans (hb5.mono HG.out)⟩
                have hbad : badWidth (toldL us ++ [0, 0]) := by
                  right; right
                  have e : (toldL us ++ [0, 0]).getD 0 0 = UInt8.ofNat (2 + 2 * us.length) := rfl
                  rw [e, toNat_of (by have := Hln.out; omega), List.length_append, Htl.out]
                  have := HK.out
                  have := Hln.out
                  simp only [List.length_cons, List.length_nil]
                  omega
                have hD : ∀ W, Sl byT W (low W.heap.size) (some ⟨g5, 0, none⟩) (K + 2) (toldL us ++ [0, 0]) → Calls Tryd.prog 15 #[.slice (some ⟨g5, 0, none⟩) (K + 2) c5] W fun e w' => e = .returned (.tuple #[.string ⟨#[]⟩, .int .i64 5]) ∧ Kept W w' := fun W h => dec_bad _ (K + 2) c5 _ W (by omega) h hbad
                clear hbad hsl5 hb5
                refine wp_at (fun W => Sl byT W (low W.heap.size) (some ⟨g5, 0, none⟩) (K + 2) (toldL us ++ [0, 0]) ∧ Kept w W) hfin (fun W hW => ?_)
                obtain ⟨hSl, hkW⟩ := hW
                have cD := hD W hSl
                have HSl := hide hSl
                have HkW := hide hkW
                clear hfin hD hSl hkW
                generalize toldL us ++ [0, 0] = bs at *
                have hcv0 := arg_string (d := c5) HSl.out (Below.refl _ _)
                have hTT : (!(⟨bs.toArray⟩ : ByteArray).toList == (⟨bs.toArray⟩ : ByteArray).toList) = false := by simp
                go_wp2_with (first
                  | (go_at_call 15; refine cD.mono ?_; rintro e w3 ⟨rfl, hk3⟩; have hcv3 := arg_string (d := c5) HSl.out hk3; have HK3 := hide (HkW.out.trans' hk3))
                  | (go_at_call 10; refine (lives_any _ (HT.out.below HK3.out)).mono ?_; rintro e w4 ⟨rfl, hk4⟩))
                go_ret
                exact ⟨rfl, HK3.out.trans' hk4⟩
              · have c4' : (v % 8 == 4) = false := by simpa using c4
                clear c4
                have hfin : Sl byT w2 (low w2.heap.size) (some ⟨w1.heap.size, 0, none⟩) K (toldL us) ∧ Kept w w2 := by
                  have h := HR.out.sl
                  rw [Htl.out] at h
                  exact ⟨h, HKW.out⟩
                rcases HE.out with ⟨rfl, hj⟩ | ⟨rfl, l, hj⟩
                · have hD : ∀ W, Sl byT W (low W.heap.size) (some ⟨w1.heap.size, 0, none⟩) K (toldL us) → Calls Tryd.prog 15 #[.slice (some ⟨w1.heap.size, 0, none⟩) K cap] W fun e w' => e = .returned (.tuple #[.string ⟨#[]⟩, .int .i64 4]) ∧ Kept W w' := fun W h => dec_no _ K cap us W (by have := Hln.out; omega) Hus.out h hj
                  clear hj
                  go_upto_region 25 with fail
                  refine wp_at (fun W => Sl byT W (low W.heap.size) (some ⟨w1.heap.size, 0, none⟩) (K) (toldL us) ∧ Kept w W) hfin (fun W hW => ?_)
                  obtain ⟨hSl, hkW⟩ := hW
                  have cD := hD W hSl
                  have HSl := hide hSl
                  have HkW := hide hkW
                  clear hfin hD hSl hkW
                  generalize toldL us = bs at *
                  have hcv0 := arg_string (d := cap) HSl.out (Below.refl _ _)
                  have hTT : (!(⟨bs.toArray⟩ : ByteArray).toList == (⟨bs.toArray⟩ : ByteArray).toList) = false := by simp
                  go_wp2_with (first
                    | (go_at_call 15; refine cD.mono ?_; rintro e w3 ⟨rfl, hk3⟩; have hcv3 := arg_string (d := cap) HSl.out hk3; have HK3 := hide (HkW.out.trans' hk3))
                    | (go_at_call 10; refine (lives_any _ (HT.out.below HK3.out)).mono ?_; rintro e w4 ⟨rfl, hk4⟩))
                  go_ret
                  exact ⟨rfl, HK3.out.trans' hk4⟩
                · have cD := dec_yes (some ⟨w1.heap.size, 0, none⟩) K cap us l w2 (by have := Hln.out; omega) Hus.out hfin.1 hj
                  obtain ⟨hul, hok⟩ := units_join us.length us l (Nat.le_refl _) Hus.out hj
                  have hlu : lenU l = n := by unfold lenU; rw [hul]; exact Hln.out
                  have hsz : (textB l).size ≤ 100000 := by
                    have h1 := textB_size l
                    have h2 : l.length ≤ (unitsN l).length := by
                      clear h1 hul hok hlu cD hj
                      induction l with
                      | nil => simp
                      | cons c l ih => have := splitN_len c; rw [unitsN_cons, List.length_append, List.length_cons]; omega
                    rw [hul] at h2
                    have := Hln.out
                    omega
                  have cE : ∀ W, Tabs W → Calls Tryd.prog 14 #[.string (textB l)] W fun e w' => ∃ g, e = .returned (.tuple #[.slice (some ⟨g, 0, none⟩) K K, .int .i64 0]) ∧ Fill w' g 5 K (.int .u8 0) (u8C (toldL us)) ∧ Kept W w' := fun W h => by
                    have h2 := enc_any l W hok hsz h (by omega)
                    rw [hlu, ← HK.out, hul] at h2
                    exact h2.mono fun _ _ ⟨g, a1, a2, _, _, a3⟩ => ⟨g, a1, a2, a3⟩
                  have HSl := hide hfin.1
                  clear hfin hul hok hlu hsz hj
                  generalize textB l = sT at *
                  have hTl := Htl.out
                  have HTL2 := hide hTl
                  generalize toldL us = bs at *
                  have hcv0 := arg_string (d := cap) HSl.out (Below.refl _ _)
                  have hTT : (!(⟨bs.toArray⟩ : ByteArray).toList == (⟨bs.toArray⟩ : ByteArray).toList) = false := by simp
                  have hTT2 : ((⟨bs.toArray⟩ : ByteArray).toList == (⟨bs.toArray⟩ : ByteArray).toList) = true := by simp
                  clear hTl
                  go_wp2_with (first
                    | (go_at_call 15; refine cD.mono ?_; rintro e w3 ⟨rfl, hk3⟩; have hcv3 := arg_string (d := cap) HSl.out hk3; have HK3 := hide (HKW.out.trans' hk3))
                    | (go_at_call 14; refine (cE _ (HT.out.below HK3.out)).mono ?_; rintro e w4 ⟨g4, rfl, hF4, hk4⟩; have hcv4 := fill_string hF4 HTL2.out K; have HK4 := hide (HK3.out.trans' hk4); clear hF4)
                    | (go_at_call 10; refine (lives_any _ (HT.out.below HK4.out)).mono ?_; rintro e w5 ⟨rfl, hk5⟩))
                  go_ret
                  exact ⟨rfl, HK4.out.trans' hk5⟩
end Go.Proofs.YtokijdgakphfiaaDoor
