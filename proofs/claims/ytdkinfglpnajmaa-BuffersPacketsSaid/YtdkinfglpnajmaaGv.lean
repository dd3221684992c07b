
/- Packets. -/
import Derived.Test.YtdkinfglpnajmaaChecked
import Derived.Deep.RegionHeld3
import Derived.Deep.DrawnRows
import Derived.Deep.DeepCutAuto
import Derived.Deep.LoopGhost
import Derived.Outline
import Derived.Handy
import Derived.OwnWalk
import Derived.IntWalk
import Derived.Test.YtdkinfglpnajmaaGl
set_option linter.unusedVariables false
set_option linter.unusedSimpArgs false
set_option linter.unusedSectionVars false
namespace Go.Proofs.Ytdkinfglpnajmaa
open Go.RowKit
attribute [local go_sem ↓] Go.wp_at_zero Go.wp_at_succ

/-- lists of pieces without spare capacity, in memory -/
def plT : Ty (List Pc) :=
  ⟨1, fun w F xs cs => ∃ A, cs = [.slice A xs.length xs.length] ∧ Sl pcT w F A xs.length xs,
   fun {_ _ _ _} ⟨_, e, _⟩ => by rw [e]; rfl,
   fun {_ _ _ _ _ _} ⟨A, e, h⟩ hF hk => ⟨A, e, h.keep hF hk⟩⟩
theorem pl_at {w w' : World} {B n k : Nat} {A : Option Addr} {l : List (List Pc)} (h : Sl plT w (low B) A n l) (hb : Below B w w') (hk : k < n) :
    ∃ xs b off A', l[k]? = some xs ∧ A = some ⟨b, off, none⟩ ∧ b < B ∧ b < w'.heap.size ∧ w'.cell? ⟨b, off + k, none⟩ = some (.slice A' xs.length xs.length) ∧ Sl pcT w (low B) A' xs.length xs := by
  obtain ⟨xs, b, off, cs, hx, hA, hbb, ⟨A', rfl, hs⟩, hc⟩ := h.at hk
  have hc' := range_below hc hb hbb
  have h0 := hc' 0 _ rfl
  simp only [plT, Nat.mul_one, Nat.add_zero] at h0
  exact ⟨xs, b, off, A', hx, hA, hbb, World.block_lt_of_cell? w' _ h0, h0, hs⟩
theorem info25 : (Try.prog.info? 25).map (fun i => (i.zero, i.size, i.bytes)) = some (some (.slice none 0 0), 1, 24) := by kernel_rfl
theorem own_one {w w' : World} {A' : Option Addr} {x : List Pc} {base : Nat} (hs : Sl pcT w (low w.heap.size) A' x.length x) (hb : base ≤ w.heap.size) : Own plT 25 base (w.alloc (.cells #[.slice A' x.length x.length] 25)) (.slice (some ⟨w.heap.size, 0, none⟩) 1 1) 1 [x] := by
  refine ⟨rfl, [.slice A' x.length x.length], ⟨rfl, .inr ⟨w.heap.size, 1, #[.slice A' x.length x.length], rfl, hb, heap_at _ rfl, Nat.le_refl _, by unfold maxLen; omega, rfl, rfl⟩⟩, fun i y hy => ?_⟩
  match i, hy with
  | 0, hy =>
    cases hy
    exact ⟨A', rfl, hs.keep (fun b hb => ⟨by simp; omega, fun e => by
      have := Option.some.inj e
      simp only at this
      omega⟩) (fun b o hb => (Below.refl _ w).alloc (Nat.le_refl _) _ |>.cell (p := ⟨b, o, none⟩) hb)⟩
theorem pl_rel {w w' : World} {A' : Option Addr} {x : List Pc} {v : Value} (hs : Sl pcT w' (fresh w w') A' x.length x) (hv : ∀ g, v.ownBlock = some g → g < w.heap.size) (o : Obj) : plT.rel (w'.alloc o) (apart (w'.alloc o) v) x (#[.slice A' x.length x.length] : Array Value).toList :=
  ⟨A', rfl, hs.keep (fun b hb => ⟨by simp; omega, fun e => by have := hv b e; omega⟩) (fun b o' hb => ((Below.refl _ w').alloc (Nat.le_refl _) o).cell (p := ⟨b, o', none⟩) hb.2)⟩
theorem pks_step {most size a : Int} {l : List Pc} {f : Nat} (h : a < size) : pks most size l (f + 1) a = win 0 a (min (a + most) size) l :: pks most size l f (a + most) := by
  rw [pks, if_pos h]
theorem pks_done {most size a : Int} {l : List Pc} {f : Nat} (h : ¬ a < size) : pks most size l f a = [] := by
  cases f with
  | zero => rfl
  | succ f => rw [pks, if_neg h]
theorem packets_bad (A : Option Addr) (n c : Nat) (l : List Pc) (k : Int) (w : World) (hl : Sl pcT w (low w.heap.size) A n l) (h64 : ∀ p ∈ l, i64 p.pos ∧ i64 p.len) (hn : n ≤ 1000) (h0 : chk l 9223372036854775807 ≠ 0) :
    Calls Try.prog 21 #[.slice A n c, .int .i64 k] w fun e w' => e = .returned (.tuple #[.slice none 0 0, .int .i64 (chk l 9223372036854775807)]) ∧ Kept w w' := by
  have hC := check_any A n c l 9223372036854775807 w hl h64 max64 hn
  obtain ⟨e0, he⟩ : ∃ e, chk l 9223372036854775807 = e := ⟨_, rfl⟩
  rw [he] at hC h0 ⊢
  have h0' : (e0 != 0) = true := by simpa using h0
  clear he
  go_enter Try.func21, Try.ntmps21
  go_wp2_with (go_at_call 15; refine hC.mono ?_; rintro e w1 ⟨rfl, hk1⟩)
  go_ret2
  exact ⟨rfl, hk1⟩
theorem packets_arg (A : Option Addr) (n c : Nat) (l : List Pc) (k : Int) (w : World) (hl : Sl pcT w (low w.heap.size) A n l) (h0 : chk l 9223372036854775807 = 0) (hk : k < 1) :
    Calls Try.prog 21 #[.slice A n c, .int .i64 k] w fun e w' => e = .returned (.tuple #[.slice none 0 0, .int .i64 1]) ∧ Kept w w' := by
  have hC := check_any A n c l 9223372036854775807 w hl (pc_64 h0 max64) max64 (by have := (chk_parts h0).1; have := hl.1; omega)
  rw [h0] at hC
  go_enter Try.func21, Try.ntmps21
  go_wp2_with (go_at_call 15; refine hC.mono ?_; rintro e w1 ⟨rfl, hk1⟩)
  go_ret2
  exact ⟨rfl, hk1⟩
set_option maxRecDepth 100000 in
set_option maxHeartbeats 2000000 in
theorem packets_ok (A : Option Addr) (n c : Nat) (l : List Pc) (k : Int) (w : World) (hl : Sl pcT w (low w.heap.size) A n l) (h0 : chk l 9223372036854775807 = 0) (hk : 1 ≤ k) :
    Calls Try.prog 21 #[.slice A n c, .int .i64 k] w fun e w' => ∃ A', e = .returned (.tuple #[.slice A' (pkt (min k 65536) l).length (pkt (min k 65536) l).length, .int .i64 0]) ∧ Sl plT w' (low w'.heap.size) A' (pkt (min k 65536) l).length (pkt (min k 65536) l) ∧ Kept w w' := by
  have hp := chk_parts h0
  have hok : okL l := fun p hp' => ⟨(hp.2.1 p hp').1, (hp.2.1 p hp').2.1⟩
  have hm : n ≤ 256 := by have := hl.1; omega
  have hC := check_any A n c l 9223372036854775807 w hl (pc_64 h0 max64) max64 (by omega)
  rw [h0] at hC
  have hT : ∀ w', Kept w w' → _ := fun w' hk => total_any A n c l w' (hl.kept hk) hok hp.2.2 (by omega)
  have ht0 := total_nonneg hok
  have ht1 := hp.2.2
  have hW : ∀ (w' : World) (f t : Int), Kept w w' → 0 ≤ f → f ≤ 1000000 → 0 ≤ t → t ≤ 1000000 → _ := fun w' f t hk' h1 h2 h3 h4 => cut_any A n c l f t w' hok ht1 h1 h2 h3 h4 (fun p hp' => (hp.2.1 p hp').2.2) hm (hl.kept hk')
  obtain ⟨i25, hi25, hz0, hz1, hz2⟩ := info_parts info25
  have hpk := Lib.hid (show pkt (min k 65536) l = win 0 0 (min (min k 65536) (total l)) l :: pks (min k 65536) (total l) l (total l).toNat (min k 65536) from rfl)
  have hmm : (if (65536 : Int) < k then 65536 else k) = min k 65536 := by split <;> omega
  have hM1 : 1 ≤ min k 65536 := by omega
  have hM2 : min k 65536 ≤ 65536 := by omega
  clear hp h0 hl
  generalize total l = T at *
  generalize min k 65536 = M at *
  have hmT : (if T < M then T else M) = min M T := by split <;> omega
  have hmT0 : 0 ≤ min M T := by omega
  have hmT1 : min M T ≤ 65536 := by omega
  have hwin0 := Lib.hid (show win 0 0 (min M T) l = win 0 0 (min M T) l from rfl)
  obtain ⟨N0, hN0⟩ : ∃ N0, min M T = N0 := ⟨_, rfl⟩
  rw [hN0] at hmT hmT0 hmT1 hpk
  have hW0 := fun w' hk' => hW w' 0 N0 hk' (by omega) (by omega) hmT0 (by omega)
  clear hN0 hwin0
  generalize hL0 : win 0 0 N0 l = L0 at *
  replace hL0 := Lib.hid hL0
  go_enter Try.func21, Try.ntmps21
  go_wp2_with (first
    | (go_at_call 15; refine hC.mono ?_; rintro e w1 ⟨rfl, hk1⟩)
    | (go_at_call 25; refine (hT _ hk1).mono ?_; rintro e w2 ⟨rfl, hk2⟩)
    | (go_at_call 29; refine (hW0 _ (hk1.trans' hk2)).mono ?_; rintro e w3 ⟨A0, rfl, hs0, hk3⟩))
  have hk02 := hk1.trans' hk2
  have hk03 := hk02.trans' hk3
  have hown0 := own_one (w' := w3) (base := w.heap.size) (hs0.keep (F' := low w3.heap.size) (fun b hb => hb.2) (fun _ _ _ => rfl)) hk03.size
  obtain ⟨PK, hPK⟩ : ∃ PK, pkt M l = PK := ⟨_, rfl⟩
  rw [hPK] at hpk
  replace hPK := Lib.hid hPK
  clear hC hT hW0 hs0 hmT hmT0 hmT1 hmm
  go_loopg [8, 9] T.toNat (fun g s8 s9 wr => ∃ (f m : Nat) (pos : Int) (ps : List (List Pc)), f = g ∧ m + f = T.toNat + 1 ∧ s9 = .int .i64 pos ∧ Own plT 25 w.heap.size wr s8 m ps ∧ Hid (ps ++ pks M T l f pos = PK) ∧ 1 ≤ pos ∧ T - pos ≤ f ∧ pos ≤ T + M ∧ 1 ≤ m ∧ Kept w wr)
  case atStart => exact ⟨T.toNat, 1, M, [L0], rfl, by omega, by rfl, hown0, Lib.hid (by rw [hpk.out]; rfl), hM1, by omega, by omega, by omega, hk03.alloc hk03.size _⟩
  case round =>
    obtain ⟨f, m, pos, ps, hf, hmf, rfl, hown, hI, hp1, hp2, hp3, hm1, hkw⟩ := hrel
    by_cases hlt : pos < T
    · obtain ⟨f', rfl⟩ : ∃ f', f = f' + 1 := ⟨f - 1, by omega⟩
      have hmt : (if T < pos + M then T else pos + M) = min (pos + M) T := by split <;> omega
      have hI2 := hI.out
      rw [pks_step hlt] at hI2
      replace hI2 := Lib.hid hI2
      have hx0 : 0 ≤ min (pos + M) T := by omega
      have hx1 : min (pos + M) T ≤ 65536 := by omega
      obtain ⟨X, hX⟩ : ∃ X, min (pos + M) T = X := ⟨_, rfl⟩
      rw [hX] at hmt hx0 hx1 hI2
      have hcut := hW wr pos X hkw (by omega) (by omega) hx0 (by omega)
      clear hX
      generalize hLX : win 0 pos X l = LX at *
      clear hLX
      have hvl : ∀ g, u8.ownBlock = some g → g < wr.heap.size := fun g hg => (hown.lt hg).2
      have Hown := Lib.hid hown
      have hmf' := Lib.hid hmf
      have hml : m ≤ 65537 := by omega
      have Hf := Lib.hid hf
      have Hp2 := Lib.hid hp2
      clear hown hmf hf hp2 hI
      go_wp2_with (first
        | (go_at_call 29; refine hcut.mono ?_; rintro e w4 ⟨A4, rfl, hs4, hk4⟩; have hk04 := hkw.trans' hk4)
        | (at_builtin; refine wpList_append_el (T := plT) rfl (.tmp 34) (.tmp 43) 48 rfl w.heap.size 25 i25 _ 24 Try.underlying48 hi25 hz0 hz1 hz2 rfl (by show 0 < 1; decide) u8 m _ (by rfl) ((Hown.out.kept hk4).alloc _) _ _ _ LX (by rfl) (heap_alloc_new w4 _) (pl_rel hs4 hvl _) (by simp [Value.oneCell']) (by unfold maxLen; omega) (by omega) (by have := hk04.size; simp only [World.size_alloc]; omega) ?_; intro g5 cap5 w5 hown5 hg5 hb5 hat5 hlt5))
      go_roundg (gk - 1)
      case measure => have := Hf.out; omega
      case rel => exact ⟨f', m + 1, pos + M, ps ++ [LX], by have := Hf.out; omega, by have := hmf'.out; omega, by go_num, hown5, Lib.hid (by rw [List.append_assoc]; exact hI2.out), by omega, by have := Hp2.out; omega, by omega, by omega, (hk04.alloc hk04.size _).trans hb5⟩
    · have hlt' : T ≤ pos := by omega
      have hI2 := hI.out
      rw [pks_done hlt, List.append_nil] at hI2
      subst hI2
      obtain ⟨g5, cap5, rfl, hb5, hl5, hc5, hc6⟩ : ∃ g cap, u8 = .slice (some ⟨g, 0, none⟩) m cap ∧ w.heap.size ≤ g ∧ g < wr.heap.size ∧ m ≤ cap ∧ cap ≤ maxLen := by
        rcases hown.form with ⟨_, h⟩ | h
        · omega
        · exact h
      have hsl := Lib.hid hown.sl
      have hlen := Lib.hid hown.1
      clear hown hI hmf hf hp2 hpk
      go_wp2_with fail
      go_ret2
      rw [hPK.out, hlen.out]
      exact ⟨_, rfl, hsl.out, hkw⟩
end Go.Proofs.Ytdkinfglpnajmaa
