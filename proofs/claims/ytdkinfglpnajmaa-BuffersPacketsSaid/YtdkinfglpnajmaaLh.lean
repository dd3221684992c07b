
/- BuffersPackets: plain laws of the packets, a part of a slice of bytes. -/
import Derived.Test.YtdkinfglpnajmaaChecked
import Derived.Deep.RegionHeld3
import Derived.Deep.DrawnRows
import Derived.Deep.DeepCutAuto
import Derived.Deep.LoopGhost
import Derived.Outline
import Derived.Handy
import Derived.Test.YtdkinfglpnajmaaLf
set_option linter.unusedVariables false
set_option linter.unusedSimpArgs false
set_option linter.unusedSectionVars false
namespace Go.Proofs.Ytdkinfglpnajmaa
open Go.RowKit

theorem pks_at {M T : Int} {l : List Pc} (hM : 1 ≤ M) : ∀ (f : Nat) (a : Int) (i : Nat) (L : List Pc), (pks M T l f a)[i]? = some L → L = win 0 (a + i * M) (min (a + i * M + M) T) l ∧ a + i * M < T
  | 0, a, i, L, h => by simp [pks] at h
  | f + 1, a, i, L, h => by
    unfold pks at h
    split at h
    · rename_i hlt
      cases i with
      | zero =>
        simp at h
        subst h
        simp only [Int.natCast_zero, Int.zero_mul, Int.add_zero]
        exact ⟨trivial, hlt⟩
      | succ i =>
        rw [List.getElem?_cons_succ] at h
        have ih := pks_at hM f (a + M) i L h
        have e : a + ((i + 1 : Nat) : Int) * M = a + M + (i : Int) * M := by
          push_cast
          rw [Int.add_mul]
          omega
        rw [e]
        exact ih
    · simp at h
theorem pks_len {M T : Int} {l : List Pc} (hM : 1 ≤ M) : ∀ (f : Nat) (a : Int), T - a ≤ (f : Int) → T ≤ a + ((pks M T l f a).length : Int) * M
  | 0, a, h => by simp [pks]; omega
  | f + 1, a, h => by
    unfold pks
    split
    · have h' : T - (a + M) ≤ (f : Int) := by
        have e : ((f + 1 : Nat) : Int) = (f : Int) + 1 := by omega
        rw [e] at h
        omega
      have ih := pks_len (l := l) (T := T) (M := M) hM f (a + M) h'
      rw [List.length_cons]
      generalize (pks M T l f (a + M)).length = n at *
      have e : ((n + 1 : Nat) : Int) * M = (n : Int) * M + M := by
        rw [show ((n + 1 : Nat) : Int) = (n : Int) + 1 by omega, Int.add_mul, Int.one_mul]
      rw [e]
      omega
    · simp
      omega
/-- the i-th packet -/
theorem pkt_at {M : Int} {l : List Pc} (hM : 1 ≤ M) {i : Nat} {L : List Pc} (h : (pkt M l)[i]? = some L) : L = win 0 (i * M) (min (i * M + M) (total l)) l ∧ (0 < i → i * M < total l) := by
  unfold pkt at h
  cases i with
  | zero =>
    simp at h
    subst h
    refine ⟨by simp, fun h => by omega⟩
  | succ i =>
    rw [List.getElem?_cons_succ] at h
    obtain ⟨h1, h2⟩ := pks_at hM _ _ _ _ h
    have e : ((i + 1 : Nat) : Int) * M = M + (i : Int) * M := by
      push_cast
      rw [Int.add_mul]
      omega
    rw [e]
    exact ⟨h1, fun _ => h2⟩
theorem pkt_len {M : Int} {l : List Pc} (hM : 1 ≤ M) (h : okL l) : total l ≤ (pkt M l).length * M ∧ 1 ≤ (pkt M l).length := by
  have ht := total_nonneg h
  have h1 := pks_len (l := l) hM (total l).toNat (T := total l) M (by omega)
  unfold pkt
  rw [List.length_cons]
  generalize (pks M (total l) l (total l).toNat M).length = n at *
  have e : ((n + 1 : Nat) : Int) * M = (n : Int) * M + M := by
    rw [show ((n + 1 : Nat) : Int) = (n : Int) + 1 by omega, Int.add_mul, Int.one_mul]
  rw [e]
  exact ⟨by omega, by omega⟩
/-- the places of a packet -/
theorem pkt_places {l : List Pc} (h : okL l) {d n : Nat} (hn : (d : Int) + n ≤ total l) : places (win 0 (d : Int) ((d : Int) + n) l) = ((places l).drop d).take n := by
  rw [win_part h _ _ (by omega), show ((d : Int) + (n : Int)).toNat = d + n by omega, Int.toNat_natCast, List.drop_take, show d + n - d = n by omega]
/-- one packet more -/
theorem scat_packet {P : List Int} {m ds : List UInt8} {d n k lo : Nat} (hlo : lo = min d ds.length) (hk : k = min n (ds.length - d)) :
    scat (scat m (P.take d) ds) ((P.drop d).take n) ((ds.drop lo).take k) = scat m (P.take (d + n)) ds := by
  have e1 : P.take (d + n) = P.take d ++ (P.drop d).take n := by rw [List.take_add]
  rw [e1, scat_append]
  by_cases hd : P.length ≤ d
  · have e2 : (P.drop d).take n = [] := by rw [List.drop_eq_nil_of_le hd, List.take_nil]
    rw [e2, scat_nil, scat_nil, List.take_of_length_le hd]
    exact (scat_cut (Nat.le_refl _)).symm
  · have e3 : (P.take d).length = d := by rw [List.length_take]; omega
    rw [e3, scat_cut (m := m) (xs := ds) (ps := P.take d) (n := d) (by omega)]
    by_cases h1 : d ≤ ds.length
    · rw [show lo = d by omega]
      by_cases h2 : n ≤ ds.length - d
      · rw [show k = n by omega]
        exact scat_cut (by rw [List.length_take]; omega)
      · rw [show k = ds.length - d by omega, List.take_of_length_le (l := ds.drop d) (by rw [List.length_drop]; omega)]
    · have e4 : ds.drop d = [] := List.drop_eq_nil_of_le (by omega)
      rw [show k = 0 by omega, e4, List.take_zero, scat_none]
/-- what a round knows of its packet -/
theorem pk_round {M : Int} {l : List Pc} (hM : 1 ≤ M) (hok : okL l) (h64 : ∀ p ∈ l, 0 ≤ p.pos ∧ 0 ≤ p.len ∧ p.pos + p.len ≤ 64) (hl : l.length ≤ 20) (ht : total l ≤ 1280) {i D : Nat} {L : List Pc} (hL : (pkt M l)[i]? = some L) (hD : (D : Int) = min (i * M) (total l)) :
    ∃ n : Nat, (n : Int) = min M (total l - D) ∧ ((D + n : Nat) : Int) = min (((i + 1 : Nat) : Int) * M) (total l) ∧ (0 < i → 0 < n) ∧ places L = ((places l).drop D).take n ∧ (∀ p ∈ L, 0 < p.len) ∧ (∀ p ∈ L, 0 ≤ p.pos ∧ p.pos ≤ 64 ∧ 0 ≤ p.len) ∧ chk L 64 = 0 ∧ total L = n ∧ (D : Int) + n ≤ total l ∧ L.length ≤ 20 ∧ (i : Int) ≤ total l := by
  obtain ⟨rfl, h0⟩ := pkt_at hM hL
  have ht0 := total_nonneg hok
  have e : ((i + 1 : Nat) : Int) * M = (i : Int) * M + M := by
    rw [show ((i + 1 : Nat) : Int) = (i : Int) + 1 by omega, Int.add_mul, Int.one_mul]
  have hi0 : (i : Int) * M ≤ total l := by
    rcases Nat.eq_zero_or_pos i with rfl | hp
    · simpa using ht0
    · have := h0 hp; omega
  have him : 0 ≤ (i : Int) * M := Int.mul_nonneg (by omega) (by omega)
  have hiz : (i : Int) ≤ (i : Int) * M := by
    have h1 : (i : Int) * 1 ≤ (i : Int) * M := Int.mul_le_mul_of_nonneg_left hM (by omega)
    omega
  generalize hz : (i : Int) * M = z at *
  have hDz : (D : Int) = z := by omega
  obtain ⟨n, hn⟩ : ∃ n : Nat, (n : Int) = min M (total l - D) := ⟨(min M (total l - D)).toNat, by omega⟩
  have e2 : min (z + M) (total l) = (D : Int) + n := by omega
  rw [e2, ← hDz]
  have hpl := pkt_places (l := l) hok (d := D) (n := n) (by omega)
  have hp := places_len hok
  have hwl := win_le l 0 (D : Int) ((D : Int) + n)
  have hpos := win_posL 0 (D : Int) ((D : Int) + n) hok
  have h64' := fun q hq => win_le_pos (l := l) (size := 64) h64 (a := 0) (f := (D : Int)) (t := (D : Int) + n) q hq
  have htt : total (win 0 (D : Int) ((D : Int) + n) l) = n := by
    rw [← places_len (win_ok 0 (D : Int) ((D : Int) + n) hok), hpl, List.length_take, List.length_drop]
    omega
  refine ⟨n, hn, ?_, ?_, hpl, fun p hp => (hpos p hp).2, ?_, ?_, htt, by omega, by omega, by omega⟩
  · rw [e]; omega
  · intro hp'
    have := h0 hp'
    omega
  · intro p hp'
    have h1 := hpos p hp'
    have h2 := h64' p hp'
    omega
  · exact chk_ok (by omega) (fun p hp' => by
      have h1 := hpos p hp'
      have h2 := h64' p hp'
      omega) (by omega)
/-- a part of a slice of bytes -/
theorem upart (D : Option Addr) (n c f k : Nat) (h : f + k ≤ n) (hnc : n ≤ c) : ∃ D', (∀ W, (Instr.slice 29 (.slice D n c) (some (.int .i64 (f : Int))) (some (.int .i64 ((f : Int) + (k : Int)))) none).run Try.prog W = .ok (.slice D' k (c - f)) W ∧ (Instr.sliceAt 29 (.slice D n c) (some (.int .i64 (f : Int))) (some (.int .i64 ((f : Int) + (k : Int)))) none).run Try.prog W = .ok (.slice D' k (c - f)) W) ∧
    ∀ W F zs, Sl u8T W F D n zs → Sl u8T W F D' k ((zs.drop f).take k) := by
  have hel : Try.prog.elem 29 = 5 := by kernel_rfl
  have hs : ∀ W, (Instr.slice 29 (.slice D n c) (some (.int .i64 (f : Int))) (some (.int .i64 ((f : Int) + (k : Int)))) none).run Try.prog W = .ok (sliced D f (f + k) c 1) W := fun W => by
    rw [run_slice_lh (w := W) 29 _ n c (by rw [hel]; exact Try.underlying29) .i64 .i64 (f : Int) ((f : Int) + (k : Int)) (by omega) (by omega) (by omega), hel, Try.sizeOf5]
    have e1 : ((f : Int) + (k : Int)).toNat = f + k := by omega
    simp only [Result.andThen, e1, Int.toNat_natCast]
  have e2 : sliced D f (f + k) c 1 = .slice (if c = f then D else D.map fun a : Addr => a.add (f * 1)) k (c - f) := by
    unfold sliced
    rw [show f + k - f = k by omega]
  refine ⟨if c = f then D else D.map fun a : Addr => a.add (f * 1), fun W => ⟨by rw [hs W, e2], ?_⟩, fun W F zs hz => ?_⟩
  · rw [run_sliceAt_slice (w := W) 29 _ _ _ _ (by rw [hel]; exact Try.underlying29), hs, e2]
  · have hl := hz.1
    refine sl_u8 (by rw [List.length_take, List.length_drop, hl]; omega) (fun j z hx => ?_)
    rw [List.getElem?_take] at hx
    split at hx
    · rw [List.getElem?_drop] at hx
      have hj := (List.getElem?_eq_some_iff.1 hx).1
      obtain ⟨b, off, hA, hF, hc⟩ := u8_at hz hx
      refine ⟨b, off + f, ?_, hF, by rw [Nat.add_assoc]; exact hc⟩
      rw [if_neg (by omega), hA]
      simp [Addr.add_mid]
    · cases hx
end Go.Proofs.Ytdkinfglpnajmaa
