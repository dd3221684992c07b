

/- Encode, Decode and the law's bytes together: the law's walk. The library's variables are as the program lays them; the bytes that come in lie in memory. -/
import Derived.Test.YtfoeihbajichpaaDoorChecked
import Derived.Deep.RegionHeld3
import Derived.Deep.DrawnRows
import Derived.Deep.DeepCutAuto
import Derived.Deep.LoopGhost
import Derived.Outline
import Derived.Handy
import Derived.OwnWalk
import Derived.Laws.EntriesVeiled
import Derived.Shelf.Bytes.SlSmallAll
import Derived.Test.YtfoeihbajichpaaDoorSq
import Derived.Test.YtfoeihbajichpaaDoorKf
set_option linter.unusedVariables false
set_option linter.unusedSimpArgs false
set_option linter.unusedSectionVars false
namespace Go.Proofs.YtfoeihbajichpaaDoor
open Go.RowKit Go.Lib Go.Maps Go.WideShapes
attribute [local go_sem ↓] Go.wp_at_zero Go.wp_at_succ

def u8T : Ty UInt8 := Ty.flat 1 (fun c => [.int .u8 (c.toNat : Int)]) (fun _ => True) (fun _ => rfl)
theorem bytes_of_sl {w : World} {F : Nat → Prop} {A : Option Addr} {n : Nat} {l : List UInt8} (h : Sl u8T w F A n l) (hn : n ≠ 0) : ∃ p o, A = some ⟨p, o, none⟩ ∧ F p ∧ Bytes w p o ⟨l.toArray⟩ := by
  obtain ⟨x, p, o, cs, hx, rfl, hp, _, _⟩ := h.at (k := 0) (by omega)
  refine ⟨p, o, rfl, hp, fun i hi => ?_⟩
  have hi' : i < l.length := by simpa [ByteArray.size] using hi
  obtain ⟨p', o', cs', e, _, ⟨rfl, _⟩, hc⟩ := h.2 i l[i] (List.getElem?_eq_getElem hi')
  injection e with e
  injection e with e1 e2 _
  subst e1 e2
  have h2 := hc 0 _ rfl
  simp only [u8T, Ty.flat, Nat.mul_one, Nat.add_zero] at h2
  exact h2
theorem conv_sl {w w' : World} {A : Option Addr} {n : Nat} (c : Nat) {l : List UInt8} (h : Sl u8T w (low w.heap.size) A n l) (hk : Kept w w') :
    (convert 43 9 (.slice A n c)).run Tryd.prog w' = .ok (.string ⟨l.toArray⟩) w' := by
  by_cases hn : n = 0
  · subst hn
    have hl : l = [] := List.eq_nil_of_length_eq_zero h.1
    subst hl
    exact run_convert_bytes_zero w' 43 5 Tryd.underlying43 Tryd.underlying5 A c 9 Tryd.underlying9
  · obtain ⟨p, o, rfl, hp, hb⟩ := bytes_of_sl h hn
    have hs : (⟨l.toArray⟩ : ByteArray).size = n := by have := h.1; simpa [ByteArray.size] using this
    have hb' : Bytes w' p o ⟨l.toArray⟩ := fun i hi => (hk.cell (p := ⟨p, o + i, none⟩) hp).trans (hb i hi)
    have := run_convert_whole (P := Tryd.prog) w' 43 5 9 Tryd.underlying43 Tryd.underlying5 Tryd.underlying9 p o ⟨l.toArray⟩ hb' c
    rw [hs] at this
    exact this
theorem same_gen (A1 A2 : Option Addr) (n1 c1 n2 c2 : Nat) (s1 s2 : ByteArray) (w : World) (h1 : (convert 43 9 (.slice A1 n1 c1)).run Tryd.prog w = .ok (.string s1) w) (h2 : (convert 43 9 (.slice A2 n2 c2)).run Tryd.prog w = .ok (.string s2) w) :
    Calls Tryd.prog 21 #[.slice A1 n1 c1, .slice A2 n2 c2] w fun e w' => e = .returned (.bool (s1.toList == s2.toList)) ∧ w = w' := by
  go_enter Tryd.func21, Tryd.ntmps21
  go_wp2
  go_ret
  exact ⟨rfl, rfl⟩
theorem conv_enc {w : World} {b : Nat} {r : Rq} (h : Bytes w b 0 (encB r)) : (convert 43 9 (.slice (some ⟨b, 0, none⟩) 8 8)).run Tryd.prog w = .ok (.string (encB r)) w :=
  run_convert_whole (P := Tryd.prog) w 43 5 9 Tryd.underlying43 Tryd.underlying5 Tryd.underlying9 b 0 (encB r) h 8
theorem encode_both (t c v x l : Int) (w : World) (hok : Rq.ok ⟨t, c, v, x, l⟩) :
    Calls Tryd.prog 22 #[.agg #[.int .u8 (t), .int .u8 (c), .int .u16 (v), .int .u16 (x), .int .u16 (l)]] w fun e w' => ∃ b, e = .returned (.slice (some ⟨b, 0, none⟩) 8 8) ∧ w.heap.size ≤ b ∧ Bytes w' b 0 (encB ⟨t, c, v, x, l⟩) ∧
      (w'.cell? ⟨b, 0 + 0, none⟩ = some (.int .u8 t) ∧ w'.cell? ⟨b, 0 + 1, none⟩ = some (.int .u8 c) ∧ w'.cell? ⟨b, 0 + 2, none⟩ = some (.int .u8 (v % 256)) ∧ w'.cell? ⟨b, 0 + 3, none⟩ = some (.int .u8 (v / 256)) ∧
       w'.cell? ⟨b, 0 + 4, none⟩ = some (.int .u8 (x % 256)) ∧ w'.cell? ⟨b, 0 + 5, none⟩ = some (.int .u8 (x / 256)) ∧ w'.cell? ⟨b, 0 + 6, none⟩ = some (.int .u8 (l % 256)) ∧ w'.cell? ⟨b, 0 + 7, none⟩ = some (.int .u8 (l / 256))) ∧ Kept w w' := by
  refine (encode_any t c v x l w hok).mono ?_
  rintro e w' ⟨b, rfl, hb, _, hc, hk⟩
  refine ⟨b, rfl, hb, fun i hi => ?_, ⟨hc 0 _ rfl, hc 1 _ rfl, hc 2 _ rfl, hc 3 _ rfl, hc 4 _ rfl, hc 5 _ rfl, hc 6 _ rfl, hc 7 _ rfl⟩, hk⟩
  have hi8 : i < (encL ⟨t, c, v, x, l⟩).length := hi
  rw [Nat.zero_add, hc i _ (List.getElem?_eq_getElem hi8)]
  have e1 : (encB ⟨t, c, v, x, l⟩)[i] = u8B (encL ⟨t, c, v, x, l⟩)[i] := by
    show ((encL ⟨t, c, v, x, l⟩).map u8B).toArray[i]'(by simpa using hi8) = _
    simp
  have e2 : (((encB ⟨t, c, v, x, l⟩)[i]).toNat : Int) = (encL ⟨t, c, v, x, l⟩)[i] := by
    rw [e1, u8B_nat (encL_range hok _ (List.getElem_mem _)).1 (encL_range hok _ (List.getElem_mem _)).2]
  exact congrArg (fun n : Int => some (Value.int .u8 n)) e2.symm
/-- Decode of the bytes of a request -/
theorem decode_enc (t c v x l : Int) (b : Nat) (w : World) (hok : Rq.ok ⟨t, c, v, x, l⟩)
    (h : (w.cell? ⟨b, 0 + 0, none⟩ = some (.int .u8 t) ∧ w.cell? ⟨b, 0 + 1, none⟩ = some (.int .u8 c) ∧ w.cell? ⟨b, 0 + 2, none⟩ = some (.int .u8 (v % 256)) ∧ w.cell? ⟨b, 0 + 3, none⟩ = some (.int .u8 (v / 256)) ∧
       w.cell? ⟨b, 0 + 4, none⟩ = some (.int .u8 (x % 256)) ∧ w.cell? ⟨b, 0 + 5, none⟩ = some (.int .u8 (x / 256)) ∧ w.cell? ⟨b, 0 + 6, none⟩ = some (.int .u8 (l % 256)) ∧ w.cell? ⟨b, 0 + 7, none⟩ = some (.int .u8 (l / 256)))) :
    Calls Tryd.prog 23 #[.slice (some ⟨b, 0, none⟩) 8 8] w fun e w' => e = .returned (.tuple #[.agg #[.int .u8 (t), .int .u8 (c), .int .u16 (v), .int .u16 (x), .int .u16 (l)], .int .i64 0]) ∧ Kept w w' := by
  obtain ⟨⟨t0, t1⟩, ⟨c0, c1⟩, ⟨v0, v1⟩, ⟨x0, x1⟩, ⟨l0, l1⟩⟩ := hok
  dsimp only at t0 t1 c0 c1 v0 v1 x0 x1 l0 l1
  obtain ⟨h0, h1, h2, h3, h4, h5, h6, h7⟩ := h
  refine (decode_good b 0 8 t c (v % 256) (v / 256) (x % 256) (x / 256) (l % 256) (l / 256) w h0 t0 t1 h1 c0 c1 h2 (by omega) (by omega) h3 (by omega) (by omega) h4 (by omega) (by omega) h5 (by omega) (by omega) h6 (by omega) (by omega) h7 (by omega) (by omega)).mono ?_
  rintro e w' ⟨rfl, hk⟩
  refine ⟨?_, hk⟩
  rw [show v % 256 + 256 * (v / 256) = v by omega, show x % 256 + 256 * (x / 256) = x by omega, show l % 256 + 256 * (l / 256) = l by omega]
/-- Decode of eight bytes that come in: a request whose bytes they are -/
theorem decode_eight (A : Option Addr) (c : Nat) (bs : List UInt8) (w : World) (h : Sl u8T w (low w.heap.size) A 8 bs) :
    Calls Tryd.prog 23 #[.slice A 8 c] w fun e w' => ∃ t k v x l : Int, Rq.ok ⟨t, k, v, x, l⟩ ∧ encB ⟨t, k, v, x, l⟩ = ⟨bs.toArray⟩ ∧ e = .returned (.tuple #[.agg #[.int .u8 (t), .int .u8 (k), .int .u16 (v), .int .u16 (x), .int .u16 (l)], .int .i64 0]) ∧ Kept w w' := by
  obtain ⟨p, o, rfl, hp, hb⟩ := bytes_of_sl h (by decide)
  have hl := h.1
  match bs, hl with
  | [y0, y1, y2, y3, y4, y5, y6, y7], _ =>
    have hc : ∀ i (hi : i < 8), w.cell? ⟨p, o + i, none⟩ = some (.int .u8 ((([y0, y1, y2, y3, y4, y5, y6, y7] : List UInt8)[i]).toNat : Int)) := fun i hi => by
      have := hb i hi
      exact this
    have r : ∀ y : UInt8, (0 : Int) ≤ (y.toNat : Int) ∧ (y.toNat : Int) < 256 := fun y => by have := y.toNat_lt; omega
    refine (decode_good p o c y0.toNat y1.toNat y2.toNat y3.toNat y4.toNat y5.toNat y6.toNat y7.toNat w (hc 0 (by decide)) (r _).1 (r _).2 (hc 1 (by decide)) (r _).1 (r _).2 (hc 2 (by decide)) (r _).1 (r _).2 (hc 3 (by decide)) (r _).1 (r _).2 (hc 4 (by decide)) (r _).1 (r _).2 (hc 5 (by decide)) (r _).1 (r _).2 (hc 6 (by decide)) (r _).1 (r _).2 (hc 7 (by decide)) (r _).1 (r _).2).mono ?_
    rintro e w' ⟨rfl, hk⟩
    have r0 := r y0; have r1 := r y1; have r2 := r y2; have r3 := r y3; have r4 := r y4; have r5 := r y5; have r6 := r y6; have r7 := r y7
    refine ⟨_, _, _, _, _, ⟨by dsimp only; omega, by dsimp only; omega, by dsimp only; omega, by dsimp only; omega, by dsimp only; omega⟩, ?_, rfl, hk⟩
    have hu : ∀ y : UInt8, u8B (y.toNat : Int) = y := fun y => by unfold u8B; simp
    unfold encB encL
    dsimp only
    rw [show ((y2.toNat : Int) + 256 * (y3.toNat : Int)) % 256 = (y2.toNat : Int) by omega, show ((y2.toNat : Int) + 256 * (y3.toNat : Int)) / 256 = (y3.toNat : Int) by omega,
      show ((y4.toNat : Int) + 256 * (y5.toNat : Int)) % 256 = (y4.toNat : Int) by omega, show ((y4.toNat : Int) + 256 * (y5.toNat : Int)) / 256 = (y5.toNat : Int) by omega,
      show ((y6.toNat : Int) + 256 * (y7.toNat : Int)) % 256 = (y6.toNat : Int) by omega, show ((y6.toNat : Int) + 256 * (y7.toNat : Int)) / 256 = (y7.toNat : Int) by omega]
    simp [hu]
set_option maxRecDepth 100000 in
set_option maxHeartbeats 1000000 in
theorem lawback_long (t c v x l : Int) (A : Option Addr) (n cp : Nat) (w : World) (hT : Tabs w) (hn : 40 < n) :
    Calls Tryd.prog 8 #[.agg #[.int .u8 (t), .int .u8 (c), .int .u16 (v), .int .u16 (x), .int .u16 (l)], .slice A n cp] w fun e w' => e = .returned (.bool true) ∧ Kept w w' := by
  have hb : decide ((40 : Int) < ((n : Nat) : Int)) = true := decide_eq_true (by omega)
  have hb2 : decide (40 < n) = true := decide_eq_true hn
  go_enter Tryd.func8, Tryd.ntmps8
  go_wp2_with (go_at_call 11; refine (lives_any _ (hT.alloc _)).mono ?_; rintro e w1 ⟨rfl, hk⟩)
  go_ret
  exact ⟨rfl, Below.trans (by go_grown) (hk.mono (by simp only [World.size_alloc]; omega))⟩
set_option maxRecDepth 100000 in
set_option maxHeartbeats 8000000 in
theorem lawback_short (t c v x l : Int) (A : Option Addr) (n cp : Nat) (bs : List UInt8) (w : World) (hT : Tabs w) (hok : Rq.ok ⟨t, c, v, x, l⟩) (hn : n ≤ 40) (hS : Sl u8T w (low w.heap.size) A n bs) :
    Calls Tryd.prog 8 #[.agg #[.int .u8 (t), .int .u8 (c), .int .u16 (v), .int .u16 (x), .int .u16 (l)], .slice A n cp] w fun e w' => e = .returned (.bool true) ∧ Kept w w' := by
  have hb : decide ((40 : Int) < ((n : Nat) : Int)) = false := decide_eq_false (by omega)
  have hb2 : decide (40 < n) = false := decide_eq_false (by omega)
  have HE := fun W => encode_both t c v x l W hok
  have HD := fun b W h => decode_enc t c v x l b W hok h
  have HL := fun W => encoded_any t c v x l W hok
  have HCE := fun b (W : World) (h : Bytes W b 0 (encB ⟨t, c, v, x, l⟩)) => conv_enc h
  generalize he : encB ⟨t, c, v, x, l⟩ = E at *
  have hc1 := conv_sl (w' := w.alloc (.cells #[.int .u8 (t), .int .u8 (c), .int .u16 (v), .int .u16 (x), .int .u16 (l)] 25)) cp hS ((Below.refl _ _).alloc (Nat.le_refl _) _)
  clear he hok
  go_enter Tryd.func8, Tryd.ntmps8
  go_upto_region 6 with (first
    | (go_at_call 22; refine (HE _).mono ?_; rintro e w1 ⟨b1, rfl, hb1, hB1, hcs, hk1⟩; have HB1 := Lib.hid hB1; have Hcs := Lib.hid hcs; clear hB1 hcs)
    | (go_at_call 23; refine (HD b1 _ Hcs.out).mono ?_; rintro e w2 ⟨rfl, hk2⟩))
  refine wp_at (fun W => W.heap[w.heap.size]? = some (.cells #[.int .u8 (t), .int .u8 (c), .int .u16 (v), .int .u16 (x), .int .u16 (l)] 25 (0, 0)) ∧ W.heap[w2.heap.size]? = some (.cells #[.int .u8 (t), .int .u8 (c), .int .u16 (v), .int .u16 (x), .int .u16 (l)] 25 (0, 0)) ∧ Bytes W b1 0 E ∧ Kept w W)
    ⟨heap_past (heap_kept hk2 (heap_kept hk1 (heap_at _ rfl))), heap_at _ rfl, Bytes.keep (Bytes.keep HB1.out hk2) ((Below.refl _ _).alloc (Nat.le_refl _) _), Kept.trans' (Kept.trans' (Below.trans (by go_grown) (hk1.mono (by simp only [World.size_alloc]; omega))) hk2) ((Below.refl _ _).alloc (Nat.le_refl _) _)⟩ (fun W hW => ?_)
  generalize w2.heap.size = Y at *
  clear hk1 hk2 Hcs HB1 hb1 hc1 HE HD
  obtain ⟨HX, HY, HB, hkW⟩ := hW
  have r0 := cell_heap HX (o := 0) rfl
  have r1 := cell_heap HX (o := 1) rfl
  have r2 := cell_heap HX (o := 2) rfl
  have r3 := cell_heap HX (o := 3) rfl
  have r4 := cell_heap HX (o := 4) rfl
  have y0 := cell_heap HY (o := 0) rfl
  have y1 := cell_heap HY (o := 1) rfl
  have y2 := cell_heap HY (o := 2) rfl
  have y3 := cell_heap HY (o := 3) rfl
  have y4 := cell_heap HY (o := 4) rfl
  have hxl := heap_lt HX
  have hyl := heap_lt HY
  replace HB := Lib.hid HB
  clear HX HY
  go_upto_region 8 with (first
    | (go_at_call 24; refine (HL _).mono ?_; rintro e w5 ⟨b2, rfl, hb2', hB2, hk5⟩; obtain ⟨hc5, hf5⟩ := bcell hk5; have q1 := HCE b1 w5 (Bytes.keep HB.out hk5); have q2 := HCE b2 w5 hB2; clear hB2)
    | (go_at_call 21; refine (same_gen _ _ _ _ _ _ _ _ _ q1 q2).mono ?_; rintro e w6 ⟨rfl, rfl⟩))
  refine wp_at (fun W => Kept w W) (hkW.trans' hk5) (fun W8 hk8 => ?_)
  clear q1 q2 hc5 hf5 hk5 HB HCE HL r0 r1 r2 r3 r4 y0 y1 y2 y3 y4 hxl hyl hkW
  have hT8 := Lib.hid (hT.kept hk8)
  have hS8 := hS.kept hk8
  by_cases h8 : n = 8
  · subst h8
    clear hb hb2
    go_wp2_with (first
      | (go_at_call 23; refine (decode_eight A cp bs _ hS8).mono ?_; rintro e w9 ⟨t2, k2, v2, x2, l2, hok2, henc, rfl, hk9⟩; have hk9' := (hk8.trans' hk9).trans' ((Below.refl _ _).alloc (Nat.le_refl _) (.cells #[.int .u8 (t2), .int .u8 (k2), .int .u16 (v2), .int .u16 (x2), .int .u16 (l2)] 25)); have Henc := Lib.hid henc; have Hok2 := Lib.hid hok2; clear henc hok2)
      | (go_at_call 24; refine (encoded_any t2 k2 v2 x2 l2 _ Hok2.out).mono ?_; rintro e w10 ⟨b3, rfl, hb3, hB3, hk10⟩; have q3 := conv_enc hB3; rw [Henc.out] at q3; have hk10' := hk9'.trans' hk10; have q4 := conv_sl cp hS hk10'; clear hB3)
      | (go_at_call 21; refine (same_gen _ _ _ _ _ _ _ _ _ q3 q4).mono ?_; rintro e w6 ⟨rfl, rfl⟩)
      | (go_at_call 11; refine (lives_any _ (hT.kept hk10')).mono ?_; rintro e w11 ⟨rfl, hk11⟩))
    go_ret
    exact ⟨rfl, hk10'.trans' hk11⟩
  · have hn8 : (((n : Nat) : Int) != 8) = true := by simp; omega
    have H8 := Lib.hid h8
    clear hb hb2 h8
    go_wp2_with (first
      | (go_at_call 23; refine (decode_bad A n cp _ H8.out (by omega)).mono ?_; rintro e w9 ⟨rfl, hk9⟩; have hk9' := (hk8.trans' hk9).trans' ((Below.refl _ _).alloc (Nat.le_refl _) (.cells #[.int .u8 (0), .int .u8 (0), .int .u16 (0), .int .u16 (0), .int .u16 (0)] 25)); have q4 := conv_sl cp hS hk9')
      | (go_at_call 11; refine (lives_any _ (hT.kept hk9')).mono ?_; rintro e w11 ⟨rfl, hk11⟩))
    go_ret
    exact ⟨rfl, hk9'.trans' hk11⟩
theorem lawback_any (t c v x l : Int) (A : Option Addr) (n cp : Nat) (bs : List UInt8) (w : World) (hT : Tabs w) (hok : Rq.ok ⟨t, c, v, x, l⟩) (hS : Sl u8T w (low w.heap.size) A n bs) :
    Calls Tryd.prog 8 #[.agg #[.int .u8 (t), .int .u8 (c), .int .u16 (v), .int .u16 (x), .int .u16 (l)], .slice A n cp] w fun e w' => e = .returned (.bool true) ∧ Kept w w' := by
  by_cases h : 40 < n
  · exact lawback_long t c v x l A n cp w hT h
  · exact lawback_short t c v x l A n cp bs w hT hok (by omega) hS
end Go.Proofs.YtfoeihbajichpaaDoor
