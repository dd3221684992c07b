
/- The walk of TextsTogether. The lists read as numbers of 32 bits; the two tables of unicode/utf8 are as the program lays them. -/
import Derived.Test.YtokijdgakphfiaaDoorChecked
import Derived.Deep.RegionHeld3
import Derived.Deep.DrawnRows
import Derived.Deep.DeepCutAuto
import Derived.Deep.LoopGhost
import Derived.Outline
import Derived.Handy
import Derived.OwnWalk
import Derived.Laws.Concat
import Derived.Test.YtokijdgakphfiaaDoorLc
namespace Go.Proofs.YtokijdgakphfiaaDoor
open Go.RowKit
attribute [local go_sem ↓] Go.wp_at_zero Go.wp_at_succ

/-- what lies behind the first two bytes of a block: the slice, and its string -/
theorem tail_run {g K : Nat} {bs : List UInt8} (hl : bs.length = K) (h2 : 2 ≤ K) : ∃ P J, (∀ W, (Instr.sliceAt 30 (.slice (some ⟨g, 0, none⟩) K K) (some (.int .i64 2)) none none).run Tryd.prog W = .ok (.slice P J J) W) ∧
    (∀ W, (Instr.slice 30 (.slice (some ⟨g, 0, none⟩) K K) (some (.int .i64 2)) none none).run Tryd.prog W = .ok (.slice P J J) W) ∧
    (∀ W, Fill W g 5 K (.int .u8 0) (u8C bs) → (convert 30 9 (.slice P J J)).run Tryd.prog W = .ok (.string ⟨(bs.drop 2).toArray⟩) W) := by
  have hel : Tryd.prog.elem 30 = 5 := by kernel_rfl
  have hs : ∀ W, (Instr.slice 30 (.slice (some ⟨g, 0, none⟩) K K) (some (.int .i64 2)) none none).run Tryd.prog W = .ok (sliced (some ⟨g, 0, none⟩) 2 K K 1) W := fun W => by
    rw [run_slice_l (w := W) 30 _ K K (by rw [hel]; exact Tryd.underlying30) .i64 2 (by omega) (by omega), hel, Tryd.sizeOf5]; rfl
  refine ⟨if K = 2 then some ⟨g, 0, none⟩ else some ⟨g, 2, none⟩, K - 2, fun W => ?_, hs, fun W hF => ?_⟩
  · rw [run_sliceAt_slice (w := W) 30 _ _ _ _ (by rw [hel]; exact Tryd.underlying30), hs]
    rfl
  · have h1 := hF.1
    rw [u8C_len, hl, Nat.sub_self, List.replicate_zero, List.append_nil] at h1
    have hd : (bs.drop 2).length = K - 2 := by simp; omega
    by_cases hk : K = 2
    · rw [if_pos hk]
      have h3 := run_convert_bytes_back (P := Tryd.prog) W 30 9 5 ⟨g, 0, none⟩ (K - 2) (bs.drop 2) Tryd.underlying30 Tryd.underlying5 Tryd.underlying9 (fun j hj => by rw [hd] at hj; omega)
      rwa [hd] at h3
    · rw [if_neg hk]
      have h3 := run_convert_bytes_back (P := Tryd.prog) W 30 9 5 ⟨g, 2, none⟩ (K - 2) (bs.drop 2) Tryd.underlying30 Tryd.underlying5 Tryd.underlying9 (fun j hj => by
        have hj2 : 2 + j < bs.length := by simp at hj; omega
        rw [Addr.add_mid, cell_of_row _ _ _ _ _ _ h1]
        simp [u8C, hj2])
      rwa [hd] at h3
theorem arg_string {w w' : World} {b off m d : Nat} {bs : List UInt8} (h : Sl byT w (low w.heap.size) (some ⟨b, off, none⟩) m bs) (hk : Kept w w') : (convert 30 9 (.slice (some ⟨b, off, none⟩) m d)).run Tryd.prog w' = .ok (.string ⟨bs.toArray⟩) w' := by
  have hl := h.1
  have hconv := run_convert_bytes_back (P := Tryd.prog) w' 30 9 5 ⟨b, off, none⟩ d bs Tryd.underlying30 Tryd.underlying5 Tryd.underlying9 (fun j hj => by
    obtain ⟨x, b', off', hx, he, _, _, e⟩ := by_at h hk (show j < m by omega)
    injection he with he
    injection he with he1 he2 _
    subst he1 he2
    rw [Addr.add_mid, e]
    rw [List.getElem?_eq_getElem hj] at hx
    injection hx with hx
    rw [hx])
  rwa [hl] at hconv
theorem told_drop (us : List Nat) : (toldL us).drop 2 = pairsL us := rfl
set_option maxRecDepth 100000 in
set_option maxHeartbeats 2000000 in
theorem together_law (A : Option Addr) (n c : Nat) (l : List Nat) (B : Option Addr) (m d : Nat) (l2 : List Nat) (w : World) (hl : Sl u32T w (low w.heap.size) A n l) (hm : Sl u32T w (low w.heap.size) B m l2) (hT : Tabs w) :
    Calls Tryd.prog 7 #[.slice A n c, .slice B m d] w fun e w' => e = .returned (.bool true) ∧ Kept w w' := by
  have hln := hl.1
  have hmn := hm.1
  by_cases h60 : 60 < n
  · have h60' : (60 : Int) < (n : Int) := by omega
    clear h60 hln hmn
    go_enter Tryd.func7, Tryd.ntmps7
    go_wp2_with (go_at_call 10; refine (lives_any _ hT).mono ?_; rintro e w1 ⟨rfl, hk⟩)
    go_ret
    exact ⟨rfl, hk⟩
  · by_cases h61 : 60 < m
    · have h60' : (n : Int) ≤ 60 := by omega
      have h60'' : decide ((60 : Int) < (n : Int)) = false := by simp; omega
      have h61' : (60 : Int) < (m : Int) := by omega
      clear h60 hln hmn h61
      go_enter Tryd.func7, Tryd.ntmps7
      go_wp2_with (go_at_call 10; refine (lives_any _ hT).mono ?_; rintro e w1 ⟨rfl, hk⟩)
      go_ret
      exact ⟨rfl, hk⟩
    · have hok1 := charN_all l
      have hok2 := charN_all l2
      have t1 : ∀ w', Kept w w' → Calls Tryd.prog 12 #[.slice A n c] w' fun e w'' => e = .returned (.string (textB (l.map charN))) ∧ Kept w' w'' := fun w' hk => text_any A n c l w' (by omega) (hl.kept hk)
      have t2 : ∀ w', Kept w w' → Calls Tryd.prog 12 #[.slice B m d] w' fun e w'' => e = .returned (.string (textB (l2.map charN))) ∧ Kept w' w'' := fun w' hk => text_any B m d l2 w' (by omega) (hm.kept hk)
      have hc1 : (l.map charN).length ≤ 60 := by rw [List.length_map]; omega
      have hc2 : (l2.map charN).length ≤ 60 := by rw [List.length_map]; omega
      have h60' : (n : Int) ≤ 60 := by omega
      have h61' : (m : Int) ≤ 60 := by omega
      clear hln hmn h60 h61 hl hm
      generalize l.map charN = ls at *
      generalize l2.map charN = ms at *
      have hs1 := textB_size ls
      have hs2 := textB_size ms
      have hs3 := textB_size (ls ++ ms)
      rw [List.length_append] at hs3
      have hu1 := unitsN_len ls
      have hu2 := unitsN_len ms
      have hok3 : ∀ c ∈ ls ++ ms, okN c := fun c hc => by rcases List.mem_append.1 hc with h | h; exact hok1 c h; exact hok2 c h
      have hl3 : lenU (ls ++ ms) = lenU ls + lenU ms := by unfold lenU; rw [unitsN_append, List.length_append]
      have hlu1 : lenU ls ≤ 120 := by unfold lenU; omega
      have hlu2 : lenU ms ≤ 120 := by unfold lenU; omega
      have e1 : ∀ w', Tabs w' → _ := fun w' h => enc_any ls w' hok1 (by omega) h (by omega)
      have e2 : ∀ w', Tabs w' → _ := fun w' h => enc_any ms w' hok2 (by omega) h (by omega)
      have e3 : ∀ w', Tabs w' → (hx : lenU (ls ++ ms) ≤ 126) → _ := fun w' h hx => enc_any (ls ++ ms) w' hok3 (by omega) h hx
      have e4 : ∀ w', Tabs w' → (hx : 126 < lenU (ls ++ ms)) → _ := fun w' h hx => enc_long (ls ++ ms) w' hok3 (by omega) h hx
      have l1 : (toldL (unitsN ls)).length = 2 * lenU ls + 2 := by rw [toldL_len]; unfold lenU; omega
      have l2' : (toldL (unitsN ms)).length = 2 * lenU ms + 2 := by rw [toldL_len]; unfold lenU; omega
      have l3 : (toldL (unitsN (ls ++ ms))).length = 2 * (lenU ls + lenU ms) + 2 := by rw [toldL_len, unitsN_append, List.length_append]; unfold lenU; omega
      have hp : (⟨((toldL (unitsN (ls ++ ms))).drop 2).toArray⟩ : ByteArray) = ⟨((toldL (unitsN ls)).drop 2).toArray⟩ ++ ⟨((toldL (unitsN ms)).drop 2).toArray⟩ := by
        apply bytes_ext
        rw [ByteArray.data_append, Array.toList_append]
        simp only [told_drop, unitsN_append, pairsL_append]
      rw [hl3] at e3 e4
      obtain ⟨K1, hK1⟩ : ∃ K, K = 2 + 2 * lenU ls := ⟨_, rfl⟩
      obtain ⟨K2, hK2⟩ : ∃ K, K = 2 + 2 * lenU ms := ⟨_, rfl⟩
      obtain ⟨K3, hK3⟩ : ∃ K, K = 2 + 2 * (lenU ls + lenU ms) := ⟨_, rfl⟩
      simp only [← hK1, ← hK2, ← hK3, textB_append] at e1 e2 e3 e4
      have l1' : (toldL (unitsN ls)).length = K1 := by omega
      have l2'' : (toldL (unitsN ms)).length = K2 := by omega
      have l3' : (toldL (unitsN (ls ++ ms))).length = K3 := by omega
      have hK : K3 + 2 = K1 + K2 := by omega
      have hb1 : 2 ≤ K1 ∧ K1 ≤ 242 := by omega
      have hb2 : 2 ≤ K2 ∧ K2 ≤ 242 := by omega
      have hb3 : K3 ≤ 254 ↔ lenU ls + lenU ms ≤ 126 := by omega
      generalize textB ls = s1 at *
      generalize textB ms = s2 at *
      have Hp := hide hp
      have hsz1 : s1.size ≤ 240 := by omega
      have hsz2 : s2.size ≤ 240 := by omega
      have hszn : ¬ 9223372036854775807 < s1.size + s2.size := by omega
      have hg1 : (2 : Int) ≤ (K1 : Int) := by omega
      have hg2 : (2 : Int) ≤ (K2 : Int) := by omega
      have hg3 : (K1 : Int) ≤ 242 := by omega
      have hg4 : (K2 : Int) ≤ 242 := by omega
      have L1 := hide l1'
      have L2 := hide l2''
      have L3 := hide l3'
      have HT := hide hT
      have HK := hide hK
      have hor := Nat.lt_or_ge 126 (lenU ls + lenU ms)
      clear hs1 hs2 hs3 hu1 hu2 hok1 hok2 hok3 hl3 hc1 hc2 hp l1 l1' l2' l2'' l3 l3' hT hK hK1 hK2 hK3
      rcases hor with h126 | h126
      · have e4' : ∀ w', Tabs w' → _ := fun w' h => e4 w' h h126
        have hgt2 : (254 : Int) < (K1 : Int) + (K2 : Int) - 2 := by have := HK.out; omega
        clear e3 e4 h126 hlu1 hlu2 hb1 hb2 hb3
        go_enter Tryd.func7, Tryd.ntmps7
        go_upto_region 5 with (first
          | (go_at_call 12; with_reducible refine (t1 _ (Below.refl _ _)).mono ?_; rintro e w1 ⟨rfl, hk1⟩; have HK1 := hide hk1; clear hk1)
          | (go_at_call 14; with_reducible refine (e1 _ (HT.out.below HK1.out)).mono ?_; rintro e w2 ⟨g1, rfl, hF1, _, _, hk2⟩; have HK2 := hide (HK1.out.trans' hk2); have HF1 := hide hF1; clear hk2 hF1)
          | (go_at_call 12; with_reducible refine (t2 _ HK2.out).mono ?_; rintro e w3 ⟨rfl, hk3⟩; have HK3 := hide (HK2.out.trans' hk3); clear hk3)
          | (go_at_call 14; with_reducible refine (e2 _ (HT.out.below HK3.out)).mono ?_; rintro e w4 ⟨g2, rfl, hF2, _, _, hk4⟩; have HK4 := hide (HK3.out.trans' hk4); have HF2 := hide hF2; clear hk4 hF2))
        go_wp2_with (first
          | (go_at_call 12; with_reducible refine (t1 _ HK4.out).mono ?_; rintro e w5 ⟨rfl, hk5⟩; have HK5 := hide (HK4.out.trans' hk5); clear hk5)
          | (go_at_call 12; with_reducible refine (t2 _ HK5.out).mono ?_; rintro e w6 ⟨rfl, hk6⟩; have HK6 := hide (HK5.out.trans' hk6); clear hk6)
          | (go_at_call 14; refine (e4' _ (HT.out.below HK6.out)).mono ?_; rintro e w7 ⟨rfl, hk7⟩; have HK7 := hide (HK6.out.trans' hk7); clear hk7)
          | (go_at_call 10; refine (lives_any _ (HT.out.below HK7.out)).mono ?_; rintro e w8 ⟨rfl, hk8⟩))
        go_ret
        exact ⟨rfl, HK7.out.trans' hk8⟩
      · have e3' : ∀ w', Tabs w' → _ := fun w' h => e3 w' h h126
        have hle2 : (K1 : Int) + (K2 : Int) - 2 ≤ 254 := by have := HK.out; omega
        have HB := hide (show 2 ≤ K1 ∧ 2 ≤ K2 ∧ 2 ≤ K3 by have := HK.out; omega)
        clear e3 e4 h126 hlu1 hlu2 hb1 hb2 hb3
        go_enter Tryd.func7, Tryd.ntmps7
        go_upto_region 5 with (first
          | (go_at_call 12; with_reducible refine (t1 _ (Below.refl _ _)).mono ?_; rintro e w1 ⟨rfl, hk1⟩; have HK1 := hide hk1; clear hk1)
          | (go_at_call 14; with_reducible refine (e1 _ (HT.out.below HK1.out)).mono ?_; rintro e w2 ⟨g1, rfl, hF1, _, _, hk2⟩; have HK2 := hide (HK1.out.trans' hk2); have HF1 := hide hF1; clear hk2 hF1)
          | (go_at_call 12; with_reducible refine (t2 _ HK2.out).mono ?_; rintro e w3 ⟨rfl, hk3⟩; have HK3 := hide (HK2.out.trans' hk3); have HF13 := hide (HF1.out.kept hk3); clear hk3)
          | (go_at_call 14; with_reducible refine (e2 _ (HT.out.below HK3.out)).mono ?_; rintro e w4 ⟨g2, rfl, hF2, _, _, hk4⟩; have HK4 := hide (HK3.out.trans' hk4); have HF14 := hide (HF13.out.kept hk4); have HF2 := hide hF2; clear hk4 hF2))
        go_upto_region 10 with (first
          | (go_at_call 12; with_reducible refine (t1 _ HK4.out).mono ?_; rintro e w5 ⟨rfl, hk5⟩; have HK5 := hide (HK4.out.trans' hk5); have HF15 := hide (HF14.out.kept hk5); have HF25 := hide (HF2.out.kept hk5); clear hk5)
          | (go_at_call 12; with_reducible refine (t2 _ HK5.out).mono ?_; rintro e w6 ⟨rfl, hk6⟩; have HK6 := hide (HK5.out.trans' hk6); have HF16 := hide (HF15.out.kept hk6); have HF26 := hide (HF25.out.kept hk6); clear hk6)
          | (go_at_call 14; refine (e3' _ (HT.out.below HK6.out)).mono ?_; rintro e w7 ⟨g3, rfl, hF3, _, _, hk7⟩; have HK7 := hide (HK6.out.trans' hk7); have HF17 := hide (HF16.out.kept hk7); have HF27 := hide (HF26.out.kept hk7); have HF3 := hide hF3; clear hk7 hF3))
        clear t1 t2 e1 e2 e3' HF1 HF13 HF14 HF15 HF16 HF2 HF25 HF26 HK1 HK2 HK3 HK4 HK5 HK6
        have hw1 : IntKind.i64.wrap ((K1 : Int) + (K2 : Int)) = (K1 : Int) + (K2 : Int) := by rw [IntKind.wrap_i64]; omega
        have hw2 : IntKind.i64.wrap ((K1 : Int) + (K2 : Int) - 2) = (K1 : Int) + (K2 : Int) - 2 := by rw [IntKind.wrap_i64]; omega
        have hbe : ((K3 : Int) == (K1 : Int) + (K2 : Int) - 2) = true := by have := HK.out; simp; omega
        obtain ⟨P1, J1, a1, b1, c1⟩ := tail_run (g := g1) L1.out HB.out.1
        obtain ⟨P2, J2, a2, b2, c2⟩ := tail_run (g := g2) L2.out HB.out.2.1
        obtain ⟨P3, J3, a3, b3, c3⟩ := tail_run (g := g3) L3.out HB.out.2.2
        rw [Hp.out] at c3
        have HC1 := hide c1
        have HC2 := hide c2
        have HC3 := hide c3
        have hxs : (⟨((toldL (unitsN ls)).drop 2).toArray⟩ : ByteArray).size + (⟨((toldL (unitsN ms)).drop 2).toArray⟩ : ByteArray).size ≤ 480 := by
          have h1 := L1.out
          have h2 := L2.out
          rw [Lib.size_eq, Lib.size_eq]
          simp only [List.length_drop]
          omega
        have hxn : ¬ 9223372036854775807 < (⟨((toldL (unitsN ls)).drop 2).toArray⟩ : ByteArray).size + (⟨((toldL (unitsN ms)).drop 2).toArray⟩ : ByteArray).size := by omega
        clear c1 c2 c3 Hp L1 L2 L3
        generalize (⟨((toldL (unitsN ls)).drop 2).toArray⟩ : ByteArray) = x1 at *
        generalize (⟨((toldL (unitsN ms)).drop 2).toArray⟩ : ByteArray) = x2 at *
        have hxx : ((x1 ++ x2).toList == (x1 ++ x2).toList) = true := by simp
        have hkeep : ∀ w', Kept w7 w' → ((convert 30 9 (.slice P1 J1 J1)).run Tryd.prog w' = .ok (.string x1) w' ∧ (convert 30 9 (.slice P2 J2 J2)).run Tryd.prog w' = .ok (.string x2) w' ∧ (convert 30 9 (.slice P3 J3 J3)).run Tryd.prog w' = .ok (.string (x1 ++ x2)) w' ∧ Kept w7 w') := fun w' hk =>
          ⟨HC1.out _ (HF17.out.kept hk), HC2.out _ (HF27.out.kept hk), HC3.out _ (HF3.out.kept hk), hk⟩
        have HKp := hide hkeep
        clear hkeep
        have hTw : ∀ w', ((convert 30 9 (.slice P1 J1 J1)).run Tryd.prog w' = .ok (.string x1) w' ∧ (convert 30 9 (.slice P2 J2 J2)).run Tryd.prog w' = .ok (.string x2) w' ∧ (convert 30 9 (.slice P3 J3 J3)).run Tryd.prog w' = .ok (.string (x1 ++ x2)) w' ∧ Kept w7 w') → Tabs w' ∧ Kept w7 w' := fun w' h => ⟨HT.out.below (HK7.out.trans' h.2.2.2), h.2.2.2⟩
        go_region_held3 (fun w' => (convert 30 9 (.slice P1 J1 J1)).run Tryd.prog w' = .ok (.string x1) w' ∧ (convert 30 9 (.slice P2 J2 J2)).run Tryd.prog w' = .ok (.string x2) w' ∧ (convert 30 9 (.slice P3 J3 J3)).run Tryd.prog w' = .ok (.string (x1 ++ x2)) w' ∧ Kept w7 w') (first | assumption | exact HKp.out _ (Below.refl _ _).drew | exact HKp.out _ ((hTw _ (by assumption)).2.trans' hk)) ((go_at_call 10; refine (lives_any _ (hTw _ (by assumption)).1).mono ?_; rintro e w8 ⟨rfl, hk⟩))
        have hkz := (hTw _ (by assumption)).2
        clear hTw
        go_wp2_with fail
        go_ret
        exact ⟨rfl, HK7.out.trans' hkz⟩
end Go.Proofs.YtokijdgakphfiaaDoor
