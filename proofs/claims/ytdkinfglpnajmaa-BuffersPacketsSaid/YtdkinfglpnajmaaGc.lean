
/- Len; the law's places, same, full. -/
import Derived.Test.YtdkinfglpnajmaaChecked
import Derived.Deep.RegionHeld3
import Derived.Deep.DrawnRows
import Derived.Deep.DeepCutAuto
import Derived.Deep.LoopGhost
import Derived.Outline
import Derived.Handy
import Derived.OwnWalk
import Derived.IntWalk
import Derived.Test.YtdkinfglpnajmaaGb
set_option linter.unusedVariables false
set_option linter.unusedSimpArgs false
set_option linter.unusedSectionVars false
namespace Go.Proofs.Ytdkinfglpnajmaa
open Go.RowKit
attribute [local go_sem ↓] Go.wp_at_zero Go.wp_at_succ

theorem pc_64 {l : List Pc} {size : Int} (h : chk l size = 0) (hs : i64 size) : ∀ p ∈ l, i64 p.pos ∧ i64 p.len := fun p hp => by
  have := (chk_parts h).2.1 p hp
  unfold i64 at *
  omega
theorem max64 : i64 9223372036854775807 := by unfold i64; omega
set_option maxRecDepth 100000 in
set_option maxHeartbeats 1000000 in
theorem len_any (A : Option Addr) (n c : Nat) (l : List Pc) (w : World) (hl : Sl pcT w (low w.heap.size) A n l) (h64 : ∀ p ∈ l, i64 p.pos ∧ i64 p.len) (hn : n ≤ 1000) :
    Calls Try.prog 14 #[.slice A n c] w fun e w' => e = .returned (.int .i64 (if chk l 9223372036854775807 = 0 then total l else 0)) ∧ Kept w w' := by
  have hC : ∀ w', Kept w w' → _ := fun w' hk => check_any A n c l 9223372036854775807 w' (hl.kept hk) h64 max64 hn
  have hln := hl.1
  by_cases h0 : chk l 9223372036854775807 = 0
  · have hp := chk_parts h0
    have hT : ∀ w', Kept w w' → _ := fun w' hk => total_any A n c l w' (hl.kept hk) (fun p hp' => ⟨(hp.2.1 p hp').1, (hp.2.1 p hp').2.1⟩) hp.2.2 (by omega)
    rw [if_pos h0]
    rw [h0] at hC
    clear h0 hp hln
    go_enter Try.func14, Try.ntmps14
    go_wp2_with (first
      | (go_at_call 15; refine (hC _ (Below.refl _ _)).mono ?_; rintro e w1 ⟨rfl, hk1⟩)
      | (go_at_call 25; refine (hT _ hk1).mono ?_; rintro e w2 ⟨rfl, hk2⟩))
    go_ret
    exact ⟨rfl, hk1.trans' hk2⟩
  · rw [if_neg h0]
    obtain ⟨e0, he⟩ : ∃ e, chk l 9223372036854775807 = e := ⟨_, rfl⟩
    rw [he] at hC h0
    have h0' : (e0 != 0) = true := by simpa using h0
    clear he hln
    go_enter Try.func14, Try.ntmps14
    go_wp2_with (go_at_call 15; refine (hC _ (Below.refl _ _)).mono ?_; rintro e w1 ⟨rfl, hk1⟩)
    go_ret
    exact ⟨rfl, hk1⟩
/-- numbers in memory -/
def inT : Ty Int := Ty.flat 1 (fun z : Int => [.int .i64 z]) (fun _ => True) (fun _ => rfl)
theorem in_at {w w' : World} {B n k : Nat} {A : Option Addr} {l : List Int} (h : Sl inT w (low B) A n l) (hb : Below B w w') (hk : k < n) : ∃ x b off, l[k]? = some x ∧ A = some ⟨b, off, none⟩ ∧ b < B ∧ b < w'.heap.size ∧
    w'.cell? ⟨b, off + k, none⟩ = some (.int .i64 x) := by
  obtain ⟨x, b, off, cs, hx, hA, hbb, ⟨rfl, _⟩, hc⟩ := h.at hk
  have hc' := range_below hc hb hbb
  have h0 := hc' 0 _ rfl
  simp only [inT, Ty.flat, Nat.mul_one, Nat.add_zero] at h0
  exact ⟨x, b, off, hx, hA, hbb, World.block_lt_of_cell? w' _ h0, h0⟩
theorem info3 : (Try.prog.info? 3).map (fun i => (i.zero, i.size, i.bytes)) = some (some (.int .i64 0), 1, 8) := by kernel_rfl
theorem info_parts {t : TypeId} {z : Option Value} {s b : Nat} (h : (Try.prog.info? t).map (fun i => (i.zero, i.size, i.bytes)) = some (z, s, b)) : ∃ i, Try.prog.info? t = some i ∧ i.zero = z ∧ i.size = s ∧ i.bytes = b := by
  cases hi : Try.prog.info? t with
  | none => rw [hi] at h; cases h
  | some i => rw [hi] at h; simp at h; exact ⟨i, rfl, h.1, h.2.1, h.2.2⟩
theorem places_take {l : List Pc} {k : Nat} {p : Pc} (h : l[k]? = some p) : places (l.take (k + 1)) = places (l.take k) ++ pl p := by
  obtain ⟨hk, e⟩ := List.getElem?_eq_some_iff.1 h
  rw [List.take_succ_eq_append_getElem hk, e, places_append, places_cons, places_nil, List.append_nil]
theorem pl_take {p : Pc} {j : Nat} (h : (j : Int) < p.len) : (pl p).take (j + 1) = (pl p).take j ++ [p.pos + (j : Int)] := by
  have hj : j < (pl p).length := by rw [pl_len]; omega
  rw [List.take_succ_eq_append_getElem hj]
  simp [pl]
set_option maxRecDepth 100000 in
set_option maxHeartbeats 2000000 in
theorem places_any (A : Option Addr) (n c : Nat) (l : List Pc) (w : World) (hl : Sl pcT w (low w.heap.size) A n l) (hok : okL l) (ht : total l ≤ 65536) (hp64 : ∀ p ∈ l, p.pos ≤ 1000000) (hn : n ≤ 2000) :
    Calls Try.prog 11 #[.slice A n c] w fun e w' => ∃ v m, e = .returned v ∧ Own inT 3 w.heap.size w' v m (places l) ∧ Kept w w' := by
  have hln := Lib.hid hl.1
  obtain ⟨i3, hi3, hz30, hz31, hz32⟩ := info_parts info3
  go_enter Try.func11, Try.ntmps11
  go_wp2_with fail
  go_loopg [3, 4] n (fun g s3 s4 wr => ∃ k m : Nat, k + g = n ∧ s4 = .int .i64 (k : Int) ∧ Own inT 3 w.heap.size wr s3 m (places (l.take k)) ∧ Kept w wr)
  case atStart => exact ⟨0, 0, by omega, by rfl, Own.nil _ _ _ _, Below.refl _ _⟩
  case round =>
    obtain ⟨k, m, hk, rfl, hown, hkw⟩ := hrel
    by_cases hlt : k < n
    · obtain ⟨p, b, off, hx, rfl, hbb, hbw, c0, c1⟩ := pc_at hl hkw hlt
      have hp := hok p (List.mem_of_getElem? hx)
      have hp2 := hp64 p (List.mem_of_getElem? hx)
      have htk := Lib.hid (places_take hx)
      have hm : (m : Int) + p.len ≤ 65536 := by
        have h1 := hown.1
        have h2 := places_len (l := l.take k) (fun q hq => hok q (List.mem_of_mem_take hq))
        have h3 := (total_take_le hok (k + 1)).2
        rw [take_total hx] at h3
        omega
      have hlt' : (k : Int) < (n : Int) := by omega
      obtain ⟨p1, p2⟩ := hp
      replace hx := Lib.hid hx
      clear c0 c1
      obtain ⟨Wo, rfl⟩ : ∃ W, W = wr := ⟨_, rfl⟩
      obtain ⟨g0, rfl⟩ : ∃ g, g = gk := ⟨_, rfl⟩
      go_wp2_with fail
      go_loopg [3, 5] p.len.toNat (fun g s3 s5 wi => ∃ j q : Nat, j + g = p.len.toNat ∧ s5 = .int .i64 (j : Int) ∧ q = m + j ∧ Own inT 3 w.heap.size wi s3 q (places (l.take k) ++ (pl p).take j) ∧ Kept w wi)
      case atStart => exact ⟨0, m, by omega, by rfl, by omega, by simpa using hown, hkw⟩
      case round =>
        obtain ⟨j, q, hj, rfl, hq, hown2, hki⟩ := hrel
        obtain ⟨p', b', off', hx', hA', _, hbw', c0, c1⟩ := pc_at hl hki hlt
        injection hA' with hA'
        injection hA' with q1 q2 _
        subst q1 q2
        rw [hx.out] at hx'
        injection hx' with hx'
        subst hx'
        have hsz := hki.size
        by_cases hjl : (j : Int) < p.len
        · have hpt := Lib.hid (pl_take hjl)
          have hj5 : (j : Int) ≤ 65536 := by omega
          have hq5 : q ≤ 65536 := by omega
          have hq' := Lib.hid hq
          clear hq
          go_wp2_with (at_builtin; refine wpList_append_el (T := inT) rfl (.tmp 21) (.tmp 29) 27 rfl w.heap.size 3 i3 _ 8 Try.underlying27 hi3 hz30 hz31 hz32 rfl (by decide) u3 q _ (by rfl) (hown2.alloc _) _ _ _ (p.pos + (j : Int)) (by rfl) (heap_alloc_new wr _) ⟨rfl, trivial⟩ (by simp [Value.oneCell']) (by unfold maxLen; omega) (by omega) (by simp only [World.size_alloc]; omega) ?_; intro g4 cap4 w4 hown4 hg4 hb4 hat4 hlt4)
          go_roundg (gk - 1)
          case measure => omega
          case rel => exact ⟨j + 1, q + 1, by omega, by go_num, by have := hq'.out; omega, by rw [hpt.out, ← List.append_assoc]; exact hown4, (hki.alloc hki.size _).trans hb4⟩
        · have hjl' : p.len ≤ (j : Int) := by omega
          have hjn : j = p.len.toNat := by omega
          have hpl : (pl p).take j = pl p := List.take_of_length_le (by rw [pl_len]; omega)
          rw [hpl, ← htk.out] at hown2
          clear hjn hpl hq
          go_wp2_with fail
          go_roundg (g0 - 1)
          case measure => omega
          case rel => exact ⟨k + 1, q, by omega, by go_num, hown2, hki⟩
    · have hkn : k = n := by omega
      subst hkn
      have hlt' : (k : Int) ≤ (k : Int) := by omega
      rw [List.take_of_length_le (by have := hln.out; omega)] at hown
      go_wp2_with fail
      go_ret
      exact ⟨_, m, rfl, hown, hkw⟩
end Go.Proofs.Ytdkinfglpnajmaa
