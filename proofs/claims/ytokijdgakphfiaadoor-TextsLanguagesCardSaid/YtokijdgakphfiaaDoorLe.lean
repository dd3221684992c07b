
/- The walk of TextsLanguages. The lists read as numbers of 16 bits and as bytes; the two tables of unicode/utf8 are as the program lays them. -/
import Derived.Test.YtokijdgakphfiaaDoorChecked
import Derived.Deep.RegionHeld3
import Derived.Deep.DrawnRows
import Derived.Deep.DeepCutAuto
import Derived.Deep.LoopGhost
import Derived.Outline
import Derived.Handy
import Derived.OwnWalk
import Derived.Test.YtokijdgakphfiaaDoorLd
namespace Go.Proofs.YtokijdgakphfiaaDoor
open Go.RowKit
attribute [local go_sem ↓] Go.wp_at_zero Go.wp_at_succ

/-- what both laws on languages end in: DecodeLanguages over bytes -/
theorem told_back {bs : List UInt8} (h : ¬ badWidth bs) (h3 : bs.getD 1 0 = 3) : toldL (numsL (bs.drop 2)) = bs := by
  unfold badWidth at h
  have hlen : bs.length % 2 = 0 ∧ 2 ≤ bs.length ∧ (bs.getD 0 0).toNat = bs.length := by omega
  obtain ⟨h1, h2, h0⟩ := hlen
  obtain ⟨p1, p2, p3⟩ := pairs_nums (bs.length / 2 - 1) (bs.drop 2) (by rw [List.length_drop]; omega)
  match bs, h2 with
  | a :: b :: t, _ =>
    simp only [List.getD_cons_zero, List.getD_cons_succ] at h0 h3
    unfold toldL
    rw [p1, p2]
    have ha : UInt8.ofNat (2 + 2 * ((a :: b :: t).length / 2 - 1)) = a := by
      rw [show 2 + 2 * ((a :: b :: t).length / 2 - 1) = (a :: b :: t).length by omega, ← h0]; simp
    rw [ha]
    simp [h3]
/-- DecodeLanguages over bytes, case by case -/
theorem langs_cases (B : Option Addr) (m d : Nat) (bs : List UInt8) (w : World) (hm : m ≤ 1000) (hb : Sl byT w (low w.heap.size) B m bs) :
    (((m : Int) % 2 != 0) = true ∧ (∀ w', Kept w w' → Calls Tryd.prog 21 #[.slice B m d] w' fun e w'' => e = .returned (.tuple #[.slice none 0 0, .int .i64 5]) ∧ Kept w' w'')) ∨
    (((m : Int) % 2 != 0) = false ∧ (m : Int) < 2 ∧ (∀ w', Kept w w' → Calls Tryd.prog 21 #[.slice B m d] w' fun e w'' => e = .returned (.tuple #[.slice none 0 0, .int .i64 5]) ∧ Kept w' w'')) ∨
    (∃ b off, ∃ z0 : Int, B = some ⟨b, off, none⟩ ∧ (∀ w', Kept w w' → w'.cell? ⟨b, off, none⟩ = some (.int .u8 z0) ∧ 0 ≤ z0 ∧ z0 < 256 ∧ b < w'.heap.size) ∧ ((m : Int) % 2 != 0) = false ∧ (2 : Int) ≤ m ∧ (z0 != (m : Int)) = true ∧
      (∀ w', Kept w w' → Calls Tryd.prog 21 #[.slice B m d] w' fun e w'' => e = .returned (.tuple #[.slice none 0 0, .int .i64 5]) ∧ Kept w' w'')) ∨
    (∃ b off, ∃ z0 z1 : Int, B = some ⟨b, off, none⟩ ∧ (∀ w', Kept w w' → w'.cell? ⟨b, off, none⟩ = some (.int .u8 z0) ∧ w'.cell? ⟨b, off + 1, none⟩ = some (.int .u8 z1) ∧ 0 ≤ z0 ∧ z0 < 256 ∧ b < w'.heap.size) ∧ ((m : Int) % 2 != 0) = false ∧ (2 : Int) ≤ m ∧ (z0 != (m : Int)) = false ∧ (z1 != 3) = true ∧
      (∀ w', Kept w w' → Calls Tryd.prog 21 #[.slice B m d] w' fun e w'' => e = .returned (.tuple #[.slice none 0 0, .int .i64 4]) ∧ Kept w' w'')) ∨
    (∃ b off, ∃ z0 z1 : Int, B = some ⟨b, off, none⟩ ∧ (∀ w', Kept w w' → w'.cell? ⟨b, off, none⟩ = some (.int .u8 z0) ∧ w'.cell? ⟨b, off + 1, none⟩ = some (.int .u8 z1) ∧ 0 ≤ z0 ∧ z0 < 256 ∧ b < w'.heap.size) ∧ ((m : Int) % 2 != 0) = false ∧ (2 : Int) ≤ m ∧ (z0 != (m : Int)) = false ∧ (z1 != 3) = false ∧ ((m : Int) == 2) = true ∧
      (∀ w', Kept w w' → Calls Tryd.prog 21 #[.slice B m d] w' fun e w'' => e = .returned (.tuple #[.slice none 0 0, .int .i64 4]) ∧ Kept w' w'')) ∨
    (∃ b off, ∃ z0 z1 : Int, B = some ⟨b, off, none⟩ ∧ (∀ w', Kept w w' → w'.cell? ⟨b, off, none⟩ = some (.int .u8 z0) ∧ w'.cell? ⟨b, off + 1, none⟩ = some (.int .u8 z1) ∧ 0 ≤ z0 ∧ z0 < 256 ∧ b < w'.heap.size) ∧ ((m : Int) % 2 != 0) = false ∧ (2 : Int) ≤ m ∧ (z0 != (m : Int)) = false ∧ (z1 != 3) = false ∧ ((m : Int) == 2) = false ∧
      (∀ w', Kept w w' → (convert 30 9 (.slice (some ⟨b, off, none⟩) m d)).run Tryd.prog w' = .ok (.string ⟨bs.toArray⟩) w') ∧
      (∀ w', Kept w w' → Calls Tryd.prog 21 #[.slice B m d] w' fun e w'' => ∃ g k, e = .returned (.tuple #[.slice (some ⟨g, 0, none⟩) k k, .int .i64 0]) ∧ (∀ w3, Kept w'' w3 → Calls Tryd.prog 16 #[.slice (some ⟨g, 0, none⟩) k k] w3 fun e w4 => e = .returned (.string ⟨bs.toArray⟩) ∧ Kept w3 w4) ∧ Kept w' w'')) := by
  have hl := hb.1
  have cD : ∀ w', Kept w w' → Calls Tryd.prog 21 #[.slice B m d] w' (DecLangPost bs w') := fun w' hk => declang_any B m d bs w' hm (hb.kept hk)
  have bad : badWidth bs → ∀ w', Kept w w' → Calls Tryd.prog 21 #[.slice B m d] w' fun e w'' => e = .returned (.tuple #[.slice none 0 0, .int .i64 5]) ∧ Kept w' w'' := fun hbad w' hk => (cD w' hk).mono fun e w'' h => by
    rcases h with ⟨_, h⟩ | ⟨h, _⟩ | ⟨h, _⟩
    · exact h
    · exact absurd hbad h
    · exact absurd hbad h
  by_cases h0 : m % 2 = 0
  · have he : ((m : Int) % 2 != 0) = false := by simp; omega
    by_cases h2 : m < 2
    · exact .inr (.inl ⟨he, by omega, bad (.inr (.inl (by omega)))⟩)
    · obtain ⟨x0, b, off, hx0, rfl, hbw0, hbr, e0⟩ := by_at hb (Below.refl _ _) (show 0 < m by omega)
      obtain ⟨x1, b', off', hx1, he1, _, _, e1⟩ := by_at hb (Below.refl _ _) (show 1 < m by omega)
      injection he1 with he1
      injection he1 with he1 he2 _
      subst he1 he2
      have g0 : bs.getD 0 0 = x0 := by simp [List.getD, hx0]
      have g1 : bs.getD 1 0 = x1 := by simp [List.getD, hx1]
      have hc : ∀ w', Kept w w' → w'.cell? ⟨b, off, none⟩ = some (.int .u8 (x0.toNat : Int)) ∧ w'.cell? ⟨b, off + 1, none⟩ = some (.int .u8 (x1.toNat : Int)) ∧ 0 ≤ (x0.toNat : Int) ∧ (x0.toNat : Int) < 256 ∧ b < w'.heap.size := fun w' hk =>
        ⟨(hk.cell (p := ⟨b, off, none⟩) hbr).trans e0, (hk.cell (p := ⟨b, off + 1, none⟩) hbr).trans e1, by omega, by have := x0.toNat_lt; omega, Nat.lt_of_lt_of_le hbr hk.size⟩
      have h2' : (2 : Int) ≤ m := by omega
      right; right
      by_cases hw : x0.toNat = m
      · have hbad : ¬ badWidth bs := by unfold badWidth; rw [g0, hl]; omega
        have hw' : ((x0.toNat : Int) != (m : Int)) = false := by simp; omega
        right
        by_cases h3 : x1 = 3
        · have h3' : ((x1.toNat : Int) != 3) = false := by rw [h3]; rfl
          right
          by_cases hm2 : m = 2
          · refine .inl ⟨b, off, _, _, rfl, hc, he, h2', hw', h3', by simp; omega, fun w' hk => (cD w' hk).mono fun e w'' h => ?_⟩
            rcases h with ⟨h, _⟩ | ⟨_, _, h⟩ | ⟨_, _, h, _⟩
            · exact absurd h hbad
            · exact h
            · rw [hl] at h; exact absurd hm2 h
          · refine .inr ⟨b, off, _, _, rfl, hc, he, h2', hw', h3', by simp; omega, fun w' hk => arg_string hb hk, fun w' hk => (cD w' hk).mono fun e w'' h => ?_⟩
            rcases h with ⟨h, _⟩ | ⟨_, h | h, _⟩ | ⟨_, _, _, g, k, h1, h2, h3, _, _, h4⟩
            · exact absurd h hbad
            · rw [g1] at h; exact absurd h3 h
            · rw [hl] at h; exact absurd h hm2
            · obtain ⟨p1, p2, p3⟩ := pairs_nums k (bs.drop 2) (by rw [List.length_drop]; omega)
              refine ⟨g, k, h2, fun w3 hk3 => ?_, h4⟩
              have ht := told_any (some ⟨g, 0, none⟩) k k (numsL (bs.drop 2)) w3 (by omega) ((fill_sl h3 p2 p3).kept hk3)
              rwa [told_back hbad (by rw [g1]; assumption)] at ht
        · have h3' : ((x1.toNat : Int) != 3) = true := by
            simp only [bne_iff_ne, ne_eq]
            intro e
            exact h3 (UInt8.toNat_inj.1 (by show x1.toNat = 3; omega))
          refine .inl ⟨b, off, _, _, rfl, hc, he, h2', hw', h3', fun w' hk => (cD w' hk).mono fun e w'' h => ?_⟩
          rcases h with ⟨h, _⟩ | ⟨_, _, h⟩ | ⟨_, h, _⟩
          · exact absurd h hbad
          · exact h
          · rw [g1] at h; exact absurd h h3
      · refine .inl ⟨b, off, _, rfl, fun w' hk => ⟨(hc w' hk).1, (hc w' hk).2.2⟩, he, h2', by simp; omega, bad (.inr (.inr (by rw [g0, hl]; omega)))⟩
  · exact .inl ⟨by simp; omega, bad (.inl (by omega))⟩
set_option maxRecDepth 100000 in
set_option maxHeartbeats 2000000 in
theorem languages_law (A : Option Addr) (n c : Nat) (us : List Nat) (B : Option Addr) (m d : Nat) (bs : List UInt8) (w : World) (hl : Sl u16T w (low w.heap.size) A n us) (hm : Sl byT w (low w.heap.size) B m bs) (hT : Tabs w) :
    Calls Tryd.prog 9 #[.slice A n c, .slice B m d] w fun e w' => e = .returned (.bool true) ∧ Kept w w' := by
  have hln := hl.1
  have hmn := hm.1
  by_cases h60 : 140 < n
  · have h60' : (140 : Int) < (n : Int) := by omega
    clear h60 hln hmn
    go_enter Tryd.func9, Tryd.ntmps9
    go_wp2_with (go_at_call 10; refine (lives_any _ hT).mono ?_; rintro e w1 ⟨rfl, hk⟩)
    go_ret
    exact ⟨rfl, hk⟩
  · by_cases h61 : 300 < m
    · have h60' : (n : Int) ≤ 140 := by omega
      have h60'' : decide ((140 : Int) < (n : Int)) = false := by simp; omega
      have h61' : (300 : Int) < (m : Int) := by omega
      clear h60 hln hmn h61
      go_enter Tryd.func9, Tryd.ntmps9
      go_wp2_with (go_at_call 10; refine (lives_any _ hT).mono ?_; rintro e w1 ⟨rfl, hk⟩)
      go_ret
      exact ⟨rfl, hk⟩
    · have h60' : (n : Int) ≤ 140 := by omega
      have h61' : (m : Int) ≤ 300 := by omega
      have HB := hide (langs_cases B m d bs w (by omega) hm)
      have HT := hide hT
      by_cases hz : n = 0
      · subst hz
        have cL : Calls Tryd.prog 20 #[.slice A 0 c] w fun e w' => e = .returned (.tuple #[.slice none 0 0, .int .i64 1]) ∧ Kept w w' := (lang_any A 0 c us w (by omega) hl).mono fun e w' h => by
          rcases h with ⟨_, h1, h2⟩ | ⟨h, _⟩ | ⟨h, _⟩
          · exact ⟨h1, h2⟩
          · omega
          · omega
        clear hln hmn hl hm hT h60 h61
        go_enter Tryd.func9, Tryd.ntmps9
        go_upto_region 13 with (go_at_call 20; refine cL.mono ?_; rintro e w1 ⟨rfl, hk1⟩)
        refine wp_at (fun W => Kept w W) hk1 (fun W hkW => ?_)
        clear hk1 cL
        rcases HB.out with h | h | ⟨b, off, z0, rfl, hc, h1, h2, h3, cB⟩ | ⟨b, off, z0, z1, rfl, hc, h1, h2, h3, h4, cB⟩ | ⟨b, off, z0, z1, rfl, hc, h1, h2, h3, h4, h5, cB⟩ | ⟨b, off, z0, z1, rfl, hc, h1, h2, h3, h4, h5, cV, cB⟩
        · obtain ⟨ho, cB⟩ := h
          (go_wp2_with (first
            | (go_at_call 21; refine (cB _ hkW).mono ?_; rintro e w8 ⟨rfl, hk8⟩; have HK8 := hide (hkW.trans' hk8); skip)
            | (go_at_call 10; refine (lives_any _ (HT.out.below HK8.out)).mono ?_; rintro e w9 ⟨rfl, hk9⟩)))
          go_ret
          exact ⟨rfl, HK8.out.trans' hk9⟩
        · obtain ⟨he, hlt2, cB⟩ := h
          (go_wp2_with (first
            | (go_at_call 21; refine (cB _ hkW).mono ?_; rintro e w8 ⟨rfl, hk8⟩; have HK8 := hide (hkW.trans' hk8); skip)
            | (go_at_call 10; refine (lives_any _ (HT.out.below HK8.out)).mono ?_; rintro e w9 ⟨rfl, hk9⟩)))
          go_ret
          exact ⟨rfl, HK8.out.trans' hk9⟩
        · have HC := hide hc
          clear hc
          (go_wp2_with (first
            | (go_at_call 21; refine (cB _ hkW).mono ?_; rintro e w8 ⟨rfl, hk8⟩; have HK8 := hide (hkW.trans' hk8); (obtain ⟨hc0, q0, q1, hb0⟩ := HC.out _ HK8.out))
            | (go_at_call 10; refine (lives_any _ (HT.out.below HK8.out)).mono ?_; rintro e w9 ⟨rfl, hk9⟩)))
          go_ret
          exact ⟨rfl, HK8.out.trans' hk9⟩
        · have HC := hide hc
          clear hc
          (go_wp2_with (first
            | (go_at_call 21; refine (cB _ hkW).mono ?_; rintro e w8 ⟨rfl, hk8⟩; have HK8 := hide (hkW.trans' hk8); (obtain ⟨hc0, hc1, q0, q1, hb0⟩ := HC.out _ HK8.out))
            | (go_at_call 10; refine (lives_any _ (HT.out.below HK8.out)).mono ?_; rintro e w9 ⟨rfl, hk9⟩)))
          go_ret
          exact ⟨rfl, HK8.out.trans' hk9⟩
        · have HC := hide hc
          clear hc
          (go_wp2_with (first
            | (go_at_call 21; refine (cB _ hkW).mono ?_; rintro e w8 ⟨rfl, hk8⟩; have HK8 := hide (hkW.trans' hk8); (obtain ⟨hc0, hc1, q0, q1, hb0⟩ := HC.out _ HK8.out))
            | (go_at_call 10; refine (lives_any _ (HT.out.below HK8.out)).mono ?_; rintro e w9 ⟨rfl, hk9⟩)))
          go_ret
          exact ⟨rfl, HK8.out.trans' hk9⟩
        · have HC := hide hc
          have HV := hide cV
          clear hc cV
          go_upto_region 18 with (go_at_call 21; refine (cB _ hkW).mono ?_; rintro e w8 ⟨g, k, rfl, cT, hk8⟩; have HK8 := hide (hkW.trans' hk8); obtain ⟨hc0, hc1, q0, q1, hb0⟩ := HC.out _ HK8.out)
          clear cB hkW
          have hkeep : ∀ w', Kept w8 w' → ((convert 30 9 (.slice (some ⟨b, off, none⟩) m d)).run Tryd.prog w' = .ok (.string ⟨bs.toArray⟩) w' ∧ Kept w8 w') := fun w' hk => ⟨HV.out _ (HK8.out.trans' hk), hk⟩
          have HKp := hide hkeep
          have HCT := hide cT
          have hTw : ∀ w', ((convert 30 9 (.slice (some ⟨b, off, none⟩) m d)).run Tryd.prog w' = .ok (.string ⟨bs.toArray⟩) w' ∧ Kept w8 w') → Tabs w' ∧ Kept w8 w' := fun w' h => ⟨HT.out.below (HK8.out.trans' h.2), h.2⟩
          have hTT : ((⟨bs.toArray⟩ : ByteArray).toList == (⟨bs.toArray⟩ : ByteArray).toList) = true := by simp
          clear hkeep cT
          go_region_held3 (fun w' => (convert 30 9 (.slice (some ⟨b, off, none⟩) m d)).run Tryd.prog w' = .ok (.string ⟨bs.toArray⟩) w' ∧ Kept w8 w') (first | assumption | exact HKp.out _ (Below.refl _ _).drew | exact HKp.out _ ((hTw _ (by assumption)).2.trans' hk)) (first
            | (go_at_call 16; refine (HCT.out _ (hTw _ (by assumption)).2).mono ?_; rintro e w9 ⟨rfl, hk⟩)
            | (go_at_call 10; refine (lives_any _ (hTw _ (by assumption)).1).mono ?_; rintro e w9 ⟨rfl, hk⟩))
          have hkz := (hTw _ (by assumption)).2
          clear hTw
          go_wp2_with fail
          go_ret
          exact ⟨rfl, HK8.out.trans' hkz⟩
      · by_cases h126 : 126 < n
        · have cL : Calls Tryd.prog 20 #[.slice A n c] w fun e w' => e = .returned (.tuple #[.slice none 0 0, .int .i64 3]) ∧ Kept w w' := (lang_any A n c us w (by omega) hl).mono fun e w' h => by
            rcases h with ⟨h, _⟩ | ⟨_, h1, h2⟩ | ⟨_, h, _⟩
            · omega
            · exact ⟨h1, h2⟩
            · omega
          have hz' : ((n : Int) == 0) = false := by simp; omega
          have h126' : (126 : Int) < (n : Int) := by omega
          clear hln hmn hl hm hT h60 h61 hz h126
          go_enter Tryd.func9, Tryd.ntmps9
          go_upto_region 13 with (go_at_call 20; refine cL.mono ?_; rintro e w1 ⟨rfl, hk1⟩)
          refine wp_at (fun W => Kept w W) hk1 (fun W hkW => ?_)
          clear hk1 cL
          rcases HB.out with h | h | ⟨b, off, z0, rfl, hc, h1, h2, h3, cB⟩ | ⟨b, off, z0, z1, rfl, hc, h1, h2, h3, h4, cB⟩ | ⟨b, off, z0, z1, rfl, hc, h1, h2, h3, h4, h5, cB⟩ | ⟨b, off, z0, z1, rfl, hc, h1, h2, h3, h4, h5, cV, cB⟩
          · obtain ⟨ho, cB⟩ := h
            (go_wp2_with (first
              | (go_at_call 21; refine (cB _ hkW).mono ?_; rintro e w8 ⟨rfl, hk8⟩; have HK8 := hide (hkW.trans' hk8); skip)
              | (go_at_call 10; refine (lives_any _ (HT.out.below HK8.out)).mono ?_; rintro e w9 ⟨rfl, hk9⟩)))
            go_ret
            exact ⟨rfl, HK8.out.trans' hk9⟩
          · obtain ⟨he, hlt2, cB⟩ := h
            (go_wp2_with (first
              | (go_at_call 21; refine (cB _ hkW).mono ?_; rintro e w8 ⟨rfl, hk8⟩; have HK8 := hide (hkW.trans' hk8); skip)
              | (go_at_call 10; refine (lives_any _ (HT.out.below HK8.out)).mono ?_; rintro e w9 ⟨rfl, hk9⟩)))
            go_ret
            exact ⟨rfl, HK8.out.trans' hk9⟩
          · have HC := hide hc
            clear hc
            (go_wp2_with (first
              | (go_at_call 21; refine (cB _ hkW).mono ?_; rintro e w8 ⟨rfl, hk8⟩; have HK8 := hide (hkW.trans' hk8); (obtain ⟨hc0, q0, q1, hb0⟩ := HC.out _ HK8.out))
              | (go_at_call 10; refine (lives_any _ (HT.out.below HK8.out)).mono ?_; rintro e w9 ⟨rfl, hk9⟩)))
            go_ret
            exact ⟨rfl, HK8.out.trans' hk9⟩
          · have HC := hide hc
            clear hc
            (go_wp2_with (first
              | (go_at_call 21; refine (cB _ hkW).mono ?_; rintro e w8 ⟨rfl, hk8⟩; have HK8 := hide (hkW.trans' hk8); (obtain ⟨hc0, hc1, q0, q1, hb0⟩ := HC.out _ HK8.out))
              | (go_at_call 10; refine (lives_any _ (HT.out.below HK8.out)).mono ?_; rintro e w9 ⟨rfl, hk9⟩)))
            go_ret
            exact ⟨rfl, HK8.out.trans' hk9⟩
          · have HC := hide hc
            clear hc
            (go_wp2_with (first
              | (go_at_call 21; refine (cB _ hkW).mono ?_; rintro e w8 ⟨rfl, hk8⟩; have HK8 := hide (hkW.trans' hk8); (obtain ⟨hc0, hc1, q0, q1, hb0⟩ := HC.out _ HK8.out))
              | (go_at_call 10; refine (lives_any _ (HT.out.below HK8.out)).mono ?_; rintro e w9 ⟨rfl, hk9⟩)))
            go_ret
            exact ⟨rfl, HK8.out.trans' hk9⟩
          · have HC := hide hc
            have HV := hide cV
            clear hc cV
            go_upto_region 18 with (go_at_call 21; refine (cB _ hkW).mono ?_; rintro e w8 ⟨g, k, rfl, cT, hk8⟩; have HK8 := hide (hkW.trans' hk8); obtain ⟨hc0, hc1, q0, q1, hb0⟩ := HC.out _ HK8.out)
            clear cB hkW
            have hkeep : ∀ w', Kept w8 w' → ((convert 30 9 (.slice (some ⟨b, off, none⟩) m d)).run Tryd.prog w' = .ok (.string ⟨bs.toArray⟩) w' ∧ Kept w8 w') := fun w' hk => ⟨HV.out _ (HK8.out.trans' hk), hk⟩
            have HKp := hide hkeep
            have HCT := hide cT
            have hTw : ∀ w', ((convert 30 9 (.slice (some ⟨b, off, none⟩) m d)).run Tryd.prog w' = .ok (.string ⟨bs.toArray⟩) w' ∧ Kept w8 w') → Tabs w' ∧ Kept w8 w' := fun w' h => ⟨HT.out.below (HK8.out.trans' h.2), h.2⟩
            have hTT : ((⟨bs.toArray⟩ : ByteArray).toList == (⟨bs.toArray⟩ : ByteArray).toList) = true := by simp
            clear hkeep cT
            go_region_held3 (fun w' => (convert 30 9 (.slice (some ⟨b, off, none⟩) m d)).run Tryd.prog w' = .ok (.string ⟨bs.toArray⟩) w' ∧ Kept w8 w') (first | assumption | exact HKp.out _ (Below.refl _ _).drew | exact HKp.out _ ((hTw _ (by assumption)).2.trans' hk)) (first
              | (go_at_call 16; refine (HCT.out _ (hTw _ (by assumption)).2).mono ?_; rintro e w9 ⟨rfl, hk⟩)
              | (go_at_call 10; refine (lives_any _ (hTw _ (by assumption)).1).mono ?_; rintro e w9 ⟨rfl, hk⟩))
            have hkz := (hTw _ (by assumption)).2
            clear hTw
            go_wp2_with fail
            go_ret
            exact ⟨rfl, HK8.out.trans' hkz⟩
        · obtain ⟨K, hK⟩ : ∃ K, K = 2 + 2 * n := ⟨_, rfl⟩
          have hus : ∀ u ∈ us, u < 65536 := fun u hu => by
            obtain ⟨i, hi, e⟩ := List.getElem_of_mem hu
            obtain ⟨b, off, cs, _, _, hr, _⟩ := hl.2 i u (by rw [List.getElem?_eq_getElem hi, e])
            exact hr.2
          have cL : Calls Tryd.prog 20 #[.slice A n c] w fun e w' => ∃ g, e = .returned (.tuple #[.slice (some ⟨g, 0, none⟩) K K, .int .i64 0]) ∧ Fill w' g 5 K (.int .u8 0) (u8C (toldL us)) ∧ Kept w w' := (lang_any A n c us w (by omega) hl).mono fun e w' h => by
            rcases h with ⟨h, _⟩ | ⟨h, _⟩ | ⟨_, _, g, h1, h2, _, _, h3⟩
            · omega
            · omega
            · rw [← hK] at h1 h2; exact ⟨g, h1, h2, h3⟩
          have hKl : (toldL us).length = K := by rw [toldL_len, hln, hK]
          have cD : ∀ g w', Fill w' g 5 K (.int .u8 0) (u8C (toldL us)) → Calls Tryd.prog 21 #[.slice (some ⟨g, 0, none⟩) K K] w' fun e w'' => ∃ g2, e = .returned (.tuple #[.slice (some ⟨g2, 0, none⟩) n n, .int .i64 0]) ∧ Fill w'' g2 40 n (.int .u16 0) (u16C us) ∧ Kept w' w'' := fun g w' hF => (declang_any _ K K (toldL us) w' (by omega) (fill_bytes hF hKl)).mono fun e w'' h => by
            rcases h with ⟨h, _⟩ | ⟨_, h | h, _⟩ | ⟨_, _, _, g2, m2, h1, h2, h3, _, _, h4⟩
            · exact absurd h (told_width (by omega))
            · exact absurd (told_three us) h
            · rw [hKl] at h; omega
            · have hm2 : m2 = n := by rw [hKl] at h1; omega
              subst hm2
              rw [told_nums hus] at h3
              exact ⟨g2, h2, h3, h4⟩
          have cT1 : ∀ w', Kept w w' → Calls Tryd.prog 16 #[.slice A n c] w' fun e w'' => e = .returned (.string ⟨(toldL us).toArray⟩) ∧ Kept w' w'' := fun w' hk => told_any A n c us w' (by omega) (hl.kept hk)
          have cT2 : ∀ g2 w', Fill w' g2 40 n (.int .u16 0) (u16C us) → Calls Tryd.prog 16 #[.slice (some ⟨g2, 0, none⟩) n n] w' fun e w'' => e = .returned (.string ⟨(toldL us).toArray⟩) ∧ Kept w' w'' := fun g2 w' hF => told_any _ n n us w' (by omega) (fill_sl hF hln hus)
          have hz' : ((n : Int) == 0) = false := by simp; omega
          have h126' : (n : Int) ≤ 126 := by omega
          have HKl := hide hKl
          have CT1 := hide cT1
          have CT2 := hide cT2
          clear hln hmn hl hm hT h60 h61 hz h126 hus hK hKl cT1 cT2
          go_enter Tryd.func9, Tryd.ntmps9
          go_upto_region 5 with (first
            | (go_at_call 20; refine cL.mono ?_; rintro e w1 ⟨g, rfl, hF1, hk1⟩; have HF1 := hide hF1; clear hF1)
            | (go_at_call 21; refine (cD _ _ HF1.out).mono ?_; rintro e w2 ⟨g2, rfl, hF2, hk2⟩))
          have HK2 := hide (hk1.trans' hk2)
          have HF12 := hide (HF1.out.kept hk2)
          have HF2 := hide hF2
          clear cL cD hk1 hk2 hF2 HF1
          generalize htl : toldL us = tl at *
          have hkeep : ∀ w', Kept w2 w' → ((convert 30 9 (.slice (some ⟨g, 0, none⟩) K K)).run Tryd.prog w' = .ok (.string ⟨tl.toArray⟩) w' ∧ Kept w2 w') := fun w' hk => ⟨fill_string (HF12.out.kept hk) HKl.out K, hk⟩
          have HKp := hide hkeep
          have hTw : ∀ w', ((convert 30 9 (.slice (some ⟨g, 0, none⟩) K K)).run Tryd.prog w' = .ok (.string ⟨tl.toArray⟩) w' ∧ Kept w2 w') → Kept w2 w' := fun w' h => h.2
          have hTT : (!(⟨tl.toArray⟩ : ByteArray).toList == (⟨tl.toArray⟩ : ByteArray).toList) = false := by simp
          clear hkeep htl
          go_region_held3 (fun w' => (convert 30 9 (.slice (some ⟨g, 0, none⟩) K K)).run Tryd.prog w' = .ok (.string ⟨tl.toArray⟩) w' ∧ Kept w2 w') (first | assumption | exact HKp.out _ (Below.refl _ _).drew | exact HKp.out _ ((hTw _ (by assumption)).trans' hk)) (first
            | (go_at_call 16; with_reducible refine (CT1.out _ (HK2.out.trans' (hTw _ (by assumption)))).mono ?_; rintro e w3 ⟨rfl, hk⟩)
            | (go_at_call 16; with_reducible refine (CT2.out _ _ (HF2.out.kept (hTw _ (by assumption)))).mono ?_; rintro e w3 ⟨rfl, hk⟩))
          have hkz := hTw _ (by assumption)
          clear hTw hTT
          go_upto_region 13 with fail
          refine wp_at (fun W => Kept w W) (HK2.out.trans' hkz) (fun W hkW => ?_)
          clear hkz HK2 HF12 HF2 HKp HKl CT1 CT2
          rcases HB.out with h | h | ⟨b, off, z0, rfl, hc, h1, h2, h3, cB⟩ | ⟨b, off, z0, z1, rfl, hc, h1, h2, h3, h4, cB⟩ | ⟨b, off, z0, z1, rfl, hc, h1, h2, h3, h4, h5, cB⟩ | ⟨b, off, z0, z1, rfl, hc, h1, h2, h3, h4, h5, cV, cB⟩
          · obtain ⟨ho, cB⟩ := h
            (go_wp2_with (first
              | (go_at_call 21; refine (cB _ hkW).mono ?_; rintro e w8 ⟨rfl, hk8⟩; have HK8 := hide (hkW.trans' hk8); skip)
              | (go_at_call 10; refine (lives_any _ (HT.out.below HK8.out)).mono ?_; rintro e w9 ⟨rfl, hk9⟩)))
            go_ret
            exact ⟨rfl, HK8.out.trans' hk9⟩
          · obtain ⟨he, hlt2, cB⟩ := h
            (go_wp2_with (first
              | (go_at_call 21; refine (cB _ hkW).mono ?_; rintro e w8 ⟨rfl, hk8⟩; have HK8 := hide (hkW.trans' hk8); skip)
              | (go_at_call 10; refine (lives_any _ (HT.out.below HK8.out)).mono ?_; rintro e w9 ⟨rfl, hk9⟩)))
            go_ret
            exact ⟨rfl, HK8.out.trans' hk9⟩
          · have HC := hide hc
            clear hc
            (go_wp2_with (first
              | (go_at_call 21; refine (cB _ hkW).mono ?_; rintro e w8 ⟨rfl, hk8⟩; have HK8 := hide (hkW.trans' hk8); (obtain ⟨hc0, q0, q1, hb0⟩ := HC.out _ HK8.out))
              | (go_at_call 10; refine (lives_any _ (HT.out.below HK8.out)).mono ?_; rintro e w9 ⟨rfl, hk9⟩)))
            go_ret
            exact ⟨rfl, HK8.out.trans' hk9⟩
          · have HC := hide hc
            clear hc
            (go_wp2_with (first
              | (go_at_call 21; refine (cB _ hkW).mono ?_; rintro e w8 ⟨rfl, hk8⟩; have HK8 := hide (hkW.trans' hk8); (obtain ⟨hc0, hc1, q0, q1, hb0⟩ := HC.out _ HK8.out))
              | (go_at_call 10; refine (lives_any _ (HT.out.below HK8.out)).mono ?_; rintro e w9 ⟨rfl, hk9⟩)))
            go_ret
            exact ⟨rfl, HK8.out.trans' hk9⟩
          · have HC := hide hc
            clear hc
            (go_wp2_with (first
              | (go_at_call 21; refine (cB _ hkW).mono ?_; rintro e w8 ⟨rfl, hk8⟩; have HK8 := hide (hkW.trans' hk8); (obtain ⟨hc0, hc1, q0, q1, hb0⟩ := HC.out _ HK8.out))
              | (go_at_call 10; refine (lives_any _ (HT.out.below HK8.out)).mono ?_; rintro e w9 ⟨rfl, hk9⟩)))
            go_ret
            exact ⟨rfl, HK8.out.trans' hk9⟩
          · have HC := hide hc
            have HV := hide cV
            clear hc cV
            go_upto_region 18 with (go_at_call 21; refine (cB _ hkW).mono ?_; rintro e w8 ⟨g, k, rfl, cT, hk8⟩; have HK8 := hide (hkW.trans' hk8); obtain ⟨hc0, hc1, q0, q1, hb0⟩ := HC.out _ HK8.out)
            clear cB hkW
            have hkeep : ∀ w', Kept w8 w' → ((convert 30 9 (.slice (some ⟨b, off, none⟩) m d)).run Tryd.prog w' = .ok (.string ⟨bs.toArray⟩) w' ∧ Kept w8 w') := fun w' hk => ⟨HV.out _ (HK8.out.trans' hk), hk⟩
            have HKp := hide hkeep
            have HCT := hide cT
            have hTw : ∀ w', ((convert 30 9 (.slice (some ⟨b, off, none⟩) m d)).run Tryd.prog w' = .ok (.string ⟨bs.toArray⟩) w' ∧ Kept w8 w') → Tabs w' ∧ Kept w8 w' := fun w' h => ⟨HT.out.below (HK8.out.trans' h.2), h.2⟩
            have hTT : ((⟨bs.toArray⟩ : ByteArray).toList == (⟨bs.toArray⟩ : ByteArray).toList) = true := by simp
            clear hkeep cT
            go_region_held3 (fun w' => (convert 30 9 (.slice (some ⟨b, off, none⟩) m d)).run Tryd.prog w' = .ok (.string ⟨bs.toArray⟩) w' ∧ Kept w8 w') (first | assumption | exact HKp.out _ (Below.refl _ _).drew | exact HKp.out _ ((hTw _ (by assumption)).2.trans' hk)) (first
              | (go_at_call 16; refine (HCT.out _ (hTw _ (by assumption)).2).mono ?_; rintro e w9 ⟨rfl, hk⟩)
              | (go_at_call 10; refine (lives_any _ (hTw _ (by assumption)).1).mono ?_; rintro e w9 ⟨rfl, hk⟩))
            have hkz := (hTw _ (by assumption)).2
            clear hTw
            go_wp2_with fail
            go_ret
            exact ⟨rfl, HK8.out.trans' hkz⟩
end Go.Proofs.YtokijdgakphfiaaDoor