
/- slices.Sorted(maps.Keys(m)) of a registry's map: the addresses that are there, in order. The registry reads as data; at most 12 addresses. -/
import Derived.Test.YtgkhenplbljbbaaChecked
import Derived.Deep.RegionHeld3
import Derived.Deep.DrawnRows
import Derived.Deep.DeepCutAuto
import Derived.Deep.LoopGhost
import Derived.Outline
import Derived.Handy
import Derived.OwnWalk
import Derived.Test.YtgkhenplbljbbaaHk
import Derived.Test.YtgkhenplbljbbaaHd
set_option linter.unusedVariables false
set_option linter.unusedSimpArgs false
set_option linter.unusedSectionVars false
namespace Go.Proofs.Ytgkhenplbljbbaa
open Go.RowKit Go.Maps Go.WideShapes
attribute [local go_sem ↓] Go.wp_at_zero Go.wp_at_succ

theorem has_key {w : World} {b nn : Nat} {D : DataW Value} {f : Lit → Option Value} (h : w.ownsMap Try.prog 5 anyR b nn D) (hf : ∀ kl, KeysOf Try.prog 5 kl → D.atKey kl .nil = heldO (f kl)) (x : Int) :
    Maps.has D (.int .u8 x) = true ↔ ∃ n : Nat, n < 256 ∧ x = n ∧ (f (.int .u8 (n : Int))).isSome = true := by
  obtain ⟨es, clock, hb, F, hs, rfl⟩ := h
  have hin : ∀ n : Nat, n < 256 → (Maps.has (DataW.map ((es.toList.map (WideElems.rg Try.prog 5 anyR)).foldr DataW.insert [])) (.int .u8 (n : Int)) = true ↔ (f (.int .u8 (n : Int))).isSome = true) := by
    intro n hn
    have h0 := hf (.int .u8 (n : Int)) ⟨_, key8 hn⟩
    rcases fit_look (t := 87) (e := 63) true (int_keyed Try.underlying5) Try.underlying87 (zero63 w) hb F (key8 hn) with ⟨_, _, hat⟩ | ⟨e0, y, _, _, _, hR, hat, _⟩
    · rw [has_false_of_atKey hat]
      rw [hat .nil] at h0
      cases hk : f (.int .u8 (n : Int)) with
      | none => simp
      | some v => rw [hk] at h0; cases h0
    · rw [has_true_of_atKey hat]
      rw [hat .nil] at h0
      have hy : y = (.held e0.val, []) := (Option.some.inj hR).symm
      rw [hy] at h0
      cases hk : f (.int .u8 (n : Int)) with
      | none => rw [hk] at h0; cases h0
      | some v => simp
  constructor
  · intro hx
    have hx0 := hx
    rw [has_eq, List.any_eq_true] at hx
    obtain ⟨p, hp, hpk⟩ := hx
    obtain ⟨v, hv⟩ := fit_keys F p (mem_sorted.1 hp)
    obtain ⟨a, _, ea, hwf⟩ := Maps.keyOf_int_inv Try.underlying5 hv
    rw [ea] at hpk
    have hax : a = x := by simpa [Lit.sameKey] using hpk
    subst hax
    have hb : 0 ≤ a ∧ a < 256 := by
      have h1 := hwf
      simp [Lit.wf, IntKind.min, IntKind.max, IntKind.signed, IntKind.bits] at h1
      omega
    obtain ⟨n, rfl⟩ := Int.eq_ofNat_of_zero_le hb.1
    exact ⟨n, by omega, rfl, (hin n (by omega)).1 hx0⟩
  · rintro ⟨n, hn, rfl, hs⟩
    exact (hin n hn).2 hs
theorem look_isSome {w : World} {X : Nat → Prop} {o : Option Value} {s : Option (Int × List Int)} (h : Look w X o s) : o.isSome = s.isSome := by
  cases s with
  | none => have h1 : o = none := h
            rw [h1]; rfl
  | some c => obtain ⟨A, h1, h2⟩ := h; rw [h1]; rfl
/-- the keys that came are the addresses that are there -/
theorem keys_perm {S : St} {xs : List Int} (hnd : xs.Nodup) (hm : ∀ x : Int, x ∈ xs ↔ ∃ n : Nat, n < 256 ∧ x = n ∧ (S n).isSome = true) : xs.Perm ((keysTo S 256).map (fun k : Nat => (k : Int))) := by
  refine (List.perm_ext_iff_of_nodup hnd ?_).2 fun x => ?_
  · rw [List.Nodup, List.pairwise_map]
    exact (List.nodup_range.filter _).imp (fun h e => h (by omega))
  · rw [hm x, List.mem_map]
    constructor
    · rintro ⟨n, hn, rfl, hs⟩
      exact ⟨n, by simp [keysTo, hn, hs], rfl⟩
    · rintro ⟨n, hn, rfl⟩
      simp [keysTo] at hn
      exact ⟨n, hn.1, rfl, hn.2⟩
def u8S : Ty Int := Ty.flat 1 (fun x => [.int .u8 x]) (fun _ => True) (fun _ => rfl)
theorem u8k_at {w w' : World} {B n k : Nat} {A : Option Addr} {l : List Int} (h : Sl u8S w (low B) A n l) (hb : Below B w w') (hk : k < n) : ∃ x b off, l[k]? = some x ∧ A = some ⟨b, off, none⟩ ∧ b < B ∧ b < w'.heap.size ∧
    w'.cell? ⟨b, off + k, none⟩ = some (.int .u8 x) := by
  obtain ⟨x, b, off, cs, hx, hA, hbb, ⟨rfl, _⟩, hc⟩ := h.at hk
  have hc' := range_below hc hb hbb
  have h0 := hc' 0 _ rfl
  simp only [u8S, Ty.flat, Nat.mul_one, Nat.add_zero] at h0
  exact ⟨x, b, off, hx, hA, hbb, World.block_lt_of_cell? w' _ h0, h0⟩
theorem RowU.sl {w : World} {g n : Nat} {xs : List Int} (h : RowU w g xs) (hn : xs.length = n) : Sl u8S w (low w.heap.size) (some ⟨g, 0, none⟩) n xs :=
  ⟨hn, fun i x hx => ⟨g, 0, [.int .u8 x], rfl, h.lt, ⟨rfl, trivial⟩, fun k v hv => by
    simp only [u8S, Ty.flat, Nat.mul_one, Nat.zero_add]
    have h1 := (h.at hx).1
    cases k with
    | zero => simp at hv; subst hv; simpa using h1
    | succ k => simp at hv⟩⟩
theorem row_of_owns {w : World} {base n : Nat} {v : Value} {xs : List Int} (h : w.ownsRow base 5 1 v n (u8L xs)) (hn : xs.length = n) : (v = .slice none 0 0 ∧ n = 0) ∨ ∃ g cap, v = .slice (some ⟨g, 0, none⟩) n cap ∧ base ≤ g ∧ n ≤ cap ∧ cap ≤ maxLen ∧ RowU w g xs := by
  obtain ⟨hl, h | ⟨g, cap, cur, e, hg, hh, hnc, hc, hsz, htk⟩⟩ := h
  · exact .inl h
  · refine .inr ⟨g, cap, e, hg, hnc, hc, cur, hh, fun i x hx => ?_⟩
    obtain ⟨hi, e1⟩ := List.getElem?_eq_some_iff.1 hx
    have h1 : (u8L xs)[i]? = some (Value.int .u8 x) := by simp [u8L, hx]
    rw [← htk, List.getElem?_take] at h1
    split at h1
    · simpa using h1
    · cases h1
set_option maxRecDepth 100000 in
theorem pdq55 (g n c : Nat) (r : Int) (xs : List Int) (w : World) (hn : n ≤ 12) (hnc : n ≤ c) (hx : xs.length = n) (hr : RowU w g xs) :
    Calls Try.prog 55 #[.slice (some ⟨g, 0, none⟩) n c, .int .i64 0, .int .i64 n, .int .i64 r] w fun e w' => e = .returned (.tuple #[]) ∧ ∃ ys : List Int, ys.Perm xs ∧ ys.Pairwise (· ≤ ·) ∧ RowU w' g ys ∧ w.grownBy w' (some g) := by
  have h := ins57 g n c xs w hn hnc hx hr
  have hn' : (n : Int) ≤ 12 := by omega
  clear hr hx
  go_enter Try.func55, Try.ntmps55
  go_wp2_with fail
  go_loopg [1, 2] 0 (fun g s1 s2 wr => s1 = .int .i64 0 ∧ s2 = .int .i64 n ∧ w = wr)
  case atStart => exact ⟨rfl, rfl, rfl⟩
  case round =>
    obtain ⟨rfl, rfl, rfl⟩ := hrel
    go_wp2_with (go_at_call 57; refine h.mono ?_; rintro e w1 ⟨rfl, ys, h1, h2, h3, h4⟩)
    refine bodyPost_ret (results_none rfl _ _ _) rfl ?_
    exact ⟨rfl, ys, h1, h2, h3, h4⟩
set_option maxRecDepth 100000 in
theorem sort51 (g n c : Nat) (xs : List Int) (w : World) (hn : n ≤ 12) (hnc : n ≤ c) (hx : xs.length = n) (hr : RowU w g xs) :
    Calls Try.prog 51 #[.slice (some ⟨g, 0, none⟩) n c] w fun e w' => e = .returned (.tuple #[]) ∧ ∃ ys : List Int, ys.Perm xs ∧ ys.Pairwise (· ≤ ·) ∧ RowU w' g ys ∧ w.grownBy w' (some g) := by
  have h := fun r => pdq55 g n c r xs w hn hnc hx hr
  clear hr hx
  go_enter Try.func51, Try.ntmps51
  go_wp2_with (first
    | (go_at_call 56; refine (len_small n hn _).mono ?_; rintro e w1 ⟨r, rfl, rfl⟩)
    | (go_at_call 55; refine (h _).mono ?_; rintro e w2 ⟨rfl, ys, h1, h2, h3, h4⟩))
  go_end0
  exact ⟨rfl, ys, h1, h2, h3, h4⟩
set_option maxRecDepth 100000 in
theorem sort51_none (w : World) : Calls Try.prog 51 #[.slice none 0 0] w fun e w' => e = .returned (.tuple #[]) ∧ w = w' := by
  have hi : Calls Try.prog 57 #[.slice none 0 0, .int .i64 0, .int .i64 0] w fun e w' => e = .returned (.tuple #[]) ∧ w = w' := by
    go_enter Try.func57, Try.ntmps57
    go_wp2_with fail
    go_loopg [6] 0 (fun g s6 wr => s6 = .int .i64 1 ∧ w = wr)
    case atStart => exact ⟨rfl, rfl⟩
    case round =>
      obtain ⟨rfl, rfl⟩ := hrel
      go_wp2_with fail
      go_end0
      exact ⟨rfl, rfl⟩
  have hp : ∀ r : Int, Calls Try.prog 55 #[.slice none 0 0, .int .i64 0, .int .i64 0, .int .i64 r] w fun e w' => e = .returned (.tuple #[]) ∧ w = w' := by
    intro r
    go_enter Try.func55, Try.ntmps55
    go_wp2_with fail
    go_loopg [1, 2] 0 (fun g s1 s2 wr => s1 = .int .i64 0 ∧ s2 = .int .i64 0 ∧ w = wr)
    case atStart => exact ⟨rfl, rfl, rfl⟩
    case round =>
      obtain ⟨rfl, rfl, rfl⟩ := hrel
      go_wp2_with (go_at_call 57; refine hi.mono ?_; rintro e w1 ⟨rfl, rfl⟩)
      refine bodyPost_ret (results_none rfl _ _ _) rfl ?_
      exact ⟨rfl, rfl⟩
  go_enter Try.func51, Try.ntmps51
  go_wp2_with (first
    | (go_at_call 56; refine (len_small 0 (by decide) _).mono ?_; rintro e w1 ⟨r, rfl, rfl⟩)
    | (go_at_call 55; refine (hp _).mono ?_; rintro e w2 ⟨rfl, rfl⟩))
  go_end0
  exact ⟨rfl, rfl⟩
set_option maxRecDepth 100000 in
theorem keys44 (m : Nat) (w : World) : Calls Try.prog 44 #[.map (some m)] w fun e w' => e = .returned (.func (.func 52) #[] #[.pointer (some ⟨w.heap.size, 0, none⟩)]) ∧ w' = w.alloc (.cells #[.map (some m)] 87) := by
  go_enter Try.func44, Try.ntmps44
  go_wp2_with fail
  go_ret
  exact ⟨rfl, rfl⟩
/-- the addresses in order -/
def keysI (S : St) : List Int := (keysTo S 256).map (fun k : Nat => (k : Int))
set_option maxRecDepth 100000 in
theorem sorted43 {w : World} {X : Nat → Prop} {m K Bm : Nat} {f : Lit → Option Value} {S : St} (hM : MapIs Try.prog 5 w m K f) (hL : ∀ n : Nat, n < 256 → Look w X (f (.int .u8 (n : Int))) (S n)) (hK : K ≤ 200000) (hBm : Bm < w.heap.size) (hm : w.cell? ⟨Bm, 0, none⟩ = some (.map (some m))) (h12 : (keysTo S 256).length ≤ 12) :
    Calls Try.prog 43 #[.func (.func 52) #[] #[.pointer (some ⟨Bm, 0, none⟩)]] w fun e w' => ∃ A c, e = .returned (.slice A (keysTo S 256).length c) ∧ (keysTo S 256).length ≤ c ∧ c ≤ maxLen ∧ Sl u8S w' (low w'.heap.size) A (keysTo S 256).length (keysI S) ∧ Kept w w' := by
  obtain ⟨D, hown, hf⟩ := hM
  have hc := collect50 Bm m K D w (Nat.le_trans hown.size_le hK) hBm hm hown
  have hkey := has_key hown hf
  have hxs : ∀ xs : List Int, (xs.Nodup ∧ ∀ x : Int, x ∈ xs ↔ Maps.has D (.int .u8 x) = true) → xs.Perm (keysI S) := by
    intro xs ⟨h1, h2⟩
    refine keys_perm h1 (fun x => ?_)
    rw [h2 x, hkey x]
    constructor
    · rintro ⟨n, hn, e, hs⟩; exact ⟨n, hn, e, by rw [← look_isSome (hL n hn)]; exact hs⟩
    · rintro ⟨n, hn, e, hs⟩; exact ⟨n, hn, e, by rw [look_isSome (hL n hn)]; exact hs⟩
  have hsort := keys_sorted S 256
  have hlen : (keysI S).length = (keysTo S 256).length := by simp [keysI]
  have Hsort := hide hsort
  have Hlen := hide hlen
  clear hkey hm hown hf hL hsort hlen
  go_enter Try.func43, Try.ntmps43
  go_upto_region 2 with (go_at_call 50; refine hc.mono ?_; rintro e w1 ⟨v, xs, rfl, h0, h1, h2⟩)
  have hp := hxs xs h0
  have hpl : xs.length = (keysTo S 256).length := hp.length_eq.trans Hlen.out
  rcases row_of_owns h1 rfl with ⟨rfl, hz⟩ | ⟨g, cap, rfl, hg, hnc, hc, hr⟩
  · have hk0 : (keysTo S 256).length = 0 := by omega
    have hki : keysI S = [] := List.eq_nil_of_length_eq_zero (Hlen.out.trans hk0)
    clear h1
    go_wp2_with (go_at_call 51; refine (sort51_none _).mono ?_; rintro e w2 ⟨rfl, rfl⟩)
    go_ret
    rw [hki, hk0]
    exact ⟨none, 0, rfl, Nat.le_refl _, by decide, Sl.nil _ _ _ _, h2⟩
  · rw [hpl] at hnc
    have hs := sort51 g (keysTo S 256).length cap xs w1 h12 hnc hpl hr
    rw [hpl]
    clear h1 hr
    go_wp2_with (go_at_call 51; refine hs.mono ?_; rintro e w2 ⟨rfl, ys, hy1, hy2, hy3, hy4⟩)
    go_ret
    have e : ys = keysI S := perm_sorted (hy1.trans hp) hy2 Hsort.out
    rw [e] at hy3
    exact ⟨_, cap, rfl, hnc, hc, hy3.sl Hlen.out, kept_but h2 hy4 hg⟩
end Go.Proofs.Ytgkhenplbljbbaa
