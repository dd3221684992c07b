/- Parse and Of, their parts. -/
import Derived.Test.YtjgncofhobhjdaaDoorChecked
import Derived.Deep.RegionHeld3
import Derived.Deep.DrawnRows
import Derived.Deep.DeepCutAuto
import Derived.Deep.LoopGhost
import Derived.Outline
import Derived.Handy
import Derived.OwnWalk
import Derived.BigQuiet
import Derived.Test.YtjgncofhobhjdaaDoorN4
import Derived.Test.YtjgncofhobhjdaaDoorSxK
import Derived.Test.YtjgncofhobhjdaaDoorN5
import Derived.Deep.RegionLaw
import Derived.Deep.CutBlock
import Derived.Test.YtjgncofhobhjdaaDoorN7
import Derived.Test.YtjgncofhobhjdaaDoorN9
import Derived.Test.YtjgncofhobhjdaaDoorN1
set_option linter.unusedVariables false
set_option linter.unusedSimpArgs false
set_option linter.unusedSectionVars false
/- An endpoint of plain data: numbered, endpoint. No condition. -/
namespace Go.Proofs.YtjgncofhobhjdaaDoor
open Go.RowKit
attribute [local go_sem ↓] Go.wp_at_zero Go.wp_at_succ

theorem numbered_any (i k : Nat) (w : World) (hi : i ≤ 1000000) (hk : k ≤ 1000000) :
    Calls Tryd.prog 69 #[.int .i64 i, .int .i64 k] w fun e w' => e = .returned (.tuple #[.int .u8 ((1 + (((4 * i + k) / 2 : Nat) : Int)) % 256), .int .i64 (((4 * i + k) % 2 : Nat) : Int)]) ∧ w' = w := by
  have h1 : IntKind.i64.wrap (4 * (i : Int)) = 4 * (i : Int) := by rw [IntKind.wrap_i64]; omega
  have h2 : IntKind.i64.wrap (4 * (i : Int) + (k : Int)) = ((4 * i + k : Nat) : Int) := by rw [IntKind.wrap_i64]; omega
  obtain ⟨n, hn⟩ : ∃ n, 4 * i + k = n := ⟨_, rfl⟩
  rw [hn] at h2 ⊢
  have hnb : n ≤ 5000000 := by omega
  have h3 : Int.tmod (n : Int) 2 = ((n % 2 : Nat) : Int) := by rw [Int.tmod_eq_emod_of_nonneg (by omega)]; omega
  have h4 : Int.tdiv (n : Int) 2 = ((n / 2 : Nat) : Int) := by rw [Int.tdiv_eq_ediv_of_nonneg (by omega)]; omega
  have h5 : IntKind.i64.wrap ((n / 2 : Nat) : Int) = ((n / 2 : Nat) : Int) := by rw [IntKind.wrap_i64]; omega
  have h6 : IntKind.i64.wrap (1 + ((n / 2 : Nat) : Int)) = 1 + ((n / 2 : Nat) : Int) := by rw [IntKind.wrap_i64]; omega
  clear hn
  obtain ⟨m, hm⟩ : ∃ m, n % 2 = m := ⟨_, rfl⟩
  obtain ⟨d, hd⟩ : ∃ d, n / 2 = d := ⟨_, rfl⟩
  rw [hm] at h3 ⊢
  rw [hd] at h4 h5 h6 ⊢
  have hm2 : m < 2 := by omega
  clear hm hd
  go_enter Tryd.func69, Tryd.ntmps69
  rcases (by omega : m = 0 ∨ m = 1) with rfl | rfl
  · go_wp2
    exact ⟨rfl, _, results_tmp2 rfl _ _ _, rfl, rfl⟩
  · go_wp2
    exact ⟨rfl, _, results_tmp2 rfl _ _ _, rfl, rfl⟩
theorem ofEp_u8 (i k : Nat) (e : PE) (h : e.ok) : (ofEp i k e).ok := by
  obtain ⟨⟨a, b⟩, ⟨c, d⟩, ⟨f, g⟩⟩ := h
  refine ⟨⟨?_, ?_⟩, ⟨?_, ?_⟩, ⟨?_, ?_⟩, ?_⟩
  · show 0 ≤ (1 + (((4 * i + k) / 2 : Nat) : Int)) % 256; omega
  · show (1 + (((4 * i + k) / 2 : Nat) : Int)) % 256 < 256; omega
  · show 0 ≤ 1 + e.kind % 3; omega
  · show 1 + e.kind % 3 < 256; omega
  · show 0 ≤ 1 + e.max % 1024; omega
  · show 1 + e.max % 1024 < 65536; omega
  · show u8k (if e.kind % 3 = 0 then 1 + e.ivl % 16 else if e.kind % 3 = 2 then 1 + e.ivl % 255 else 0)
    unfold u8k
    split
    · omega
    · split <;> omega
set_option maxRecDepth 100000 in
set_option maxHeartbeats 4000000 in
theorem endpoint_any (i k : Nat) (e : PE) (w : World) (he : e.ok) (hi : i ≤ 1000000) (hk : k ≤ 1000000) :
    Calls Tryd.prog 30 #[.agg #[.int .u8 e.kind, .int .u8 e.ivl, .int .u16 e.max], .int .i64 i, .int .i64 k] w fun r w' => r = .returned (.agg (ofEp i k e).cells.toArray) ∧ Kept w w' := by
  have hnum := fun w' => numbered_any i k w' hi hk
  obtain ⟨⟨a, b⟩, ⟨c, d⟩, ⟨f, g⟩⟩ := he
  obtain ⟨N, hN⟩ : ∃ N : Int, (1 + (((4 * i + k) / 2 : Nat) : Int)) % 256 = N := ⟨_, rfl⟩
  obtain ⟨m, hm⟩ : ∃ m, (4 * i + k) % 2 = m := ⟨_, rfl⟩
  have hcells : (ofEp i k e).cells.toArray = #[.int .u8 N, .bool (m == 1), .int .u8 (1 + e.kind % 3), .int .u16 (1 + e.max % 1024), .int .u8 (if e.kind % 3 = 0 then 1 + e.ivl % 16 else if e.kind % 3 = 2 then 1 + e.ivl % 255 else 0)] := by
    unfold ofEp EpD.cells
    simp only [hN, hm]
  rw [hN, hm] at hnum
  have hm2 : m < 2 := by omega
  obtain ⟨z, hz⟩ : ∃ z, e.kind % 3 = z := ⟨_, rfl⟩
  have hz3 : 0 ≤ z ∧ z < 3 := by omega
  have r1 : IntKind.u8.wrap (e.kind.tmod 3) = z := by rw [Int.tmod_eq_emod_of_nonneg a, IntKind.wrap_u8]; omega
  have r1' : e.kind.tmod 3 = z := by rw [Int.tmod_eq_emod_of_nonneg a]; omega
  have r2 : IntKind.u8.wrap (1 + z) = 1 + z := by rw [IntKind.wrap_u8]; omega
  have r3 : e.max.tmod 1024 = e.max % 1024 := Int.tmod_eq_emod_of_nonneg f
  have r4 : IntKind.u16.wrap (1 + e.max % 1024) = 1 + e.max % 1024 := by rw [IntKind.wrap_u16]; omega
  have r5 : e.ivl.tmod 16 = e.ivl % 16 := Int.tmod_eq_emod_of_nonneg c
  have r6 : IntKind.u8.wrap (1 + e.ivl % 16) = 1 + e.ivl % 16 := by rw [IntKind.wrap_u8]; omega
  have r7 : e.ivl.tmod 255 = e.ivl % 255 := Int.tmod_eq_emod_of_nonneg c
  have r8 : IntKind.u8.wrap (1 + e.ivl % 255) = 1 + e.ivl % 255 := by rw [IntKind.wrap_u8]; omega
  rw [hz] at hcells
  have Hc := hide hcells
  obtain ⟨hz0, hz3⟩ := hz3
  clear hN hm hcells hz
  go_enter Tryd.func30, Tryd.ntmps30
  rcases (by omega : z = 0 ∨ z = 1 ∨ z = 2) with rfl | rfl | rfl <;> rcases (by omega : m = 0 ∨ m = 1) with rfl | rfl
  all_goals
    go_wp2_with (go_at_call 69; refine (hnum _).mono ?_; rintro e2 w2 ⟨rfl, rfl⟩)
    go_returns
    exact ⟨by rw [Hc.out]; rfl, by go_grown⟩
end Go.Proofs.YtjgncofhobhjdaaDoor
/- What Parse has in memory: what is left of the descriptors, and the interfaces so far. Printed by gen_sy.py. -/
namespace Go.Proofs.YtjgncofhobhjdaaDoor
open Go.RowKit
attribute [local go_sem ↓] Go.wp_at_zero Go.wp_at_succ

/-- what is left, in its box -/
structure RestIs (w : World) (Rb : Nat) (r : List (List Int)) (R : Option Addr) (k c : Nat) : Prop where
  box : w.heap[Rb]? = some (.cells #[.slice R k c] 85 (0, 0))
  cap : k ≤ c ∧ c ≤ maxLen
  sl : Sl u8T.slice w (fun b => b < Rb) R k r
  two : ∀ p ∈ r, 2 ≤ p.length
theorem RestIs.below {w w' : World} {Rb k c : Nat} {r : List (List Int)} {R : Option Addr} (h : RestIs w Rb r R k c) (hb : Below (Rb + 1) w w') : RestIs w' Rb r R k c :=
  ⟨heap_below hb h.box (Nat.lt_succ_self _), h.cap, h.sl.keep (fun _ hb => hb) (fun b o hlt => hb.cell (p := ⟨b, o, none⟩) (Nat.lt_succ_of_lt hlt)), h.two⟩
theorem RestIs.kept {w w' : World} {Rb k c : Nat} {r : List (List Int)} {R : Option Addr} (h : RestIs w Rb r R k c) (hk : Kept w w') : RestIs w' Rb r R k c := h.below (hk.mono (heap_lt h.box))
/-- the first descriptor that is left -/
theorem RestIs.head {w : World} {Rb k c : Nat} {p : List Int} {r : List (List Int)} {R : Option Addr} (h : RestIs w Rb (p :: r) R k c) :
    ∃ b off A m, R = some ⟨b, off, none⟩ ∧ b < Rb ∧ k = r.length + 1 ∧ w.cell? ⟨b, off, none⟩ = some (.slice A p.length m) ∧ p.length ≤ m ∧ m ≤ maxLen ∧ Sl u8T w (fun g => g < Rb) A p.length p := by
  have hk : k = r.length + 1 := h.sl.1.symm
  obtain ⟨x, b, off, cs, hx, rfl, hb, ⟨A, m, rfl, h1, h2, hs⟩, hc⟩ := h.sl.at (k := 0) (by omega)
  have e : p = x := by simpa using hx
  subst e
  refine ⟨b, off, A, m, rfl, hb, hk, ?_, h1, h2, hs⟩
  have := hc 0 _ rfl
  simpa [Ty.slice] using this
/-- is the next descriptor of a kind? -/
def standsS (K : Int) (r : List (List Int)) : Bool := match r with
  | [] => false
  | p :: _ => kindB p == K
set_option maxRecDepth 100000 in
theorem stands_any (K : Int) (Rb k c : Nat) (r : List (List Int)) (R : Option Addr) (w : World) (h : RestIs w Rb r R k c) :
    Calls Tryd.prog 34 #[.int .u8 K, .pointer (some ⟨Rb, 0, none⟩)] w fun e w' => e = .returned (.bool (standsS K r)) ∧ w = w' := by
  have hcc := h.cap.2
  unfold maxLen at hcc
  have hb := h.box
  have lb := heap_lt hb
  have c0 := cell_heap hb (o := 0) rfl
  cases r with
  | nil =>
    have hk : k = 0 := h.sl.1.symm
    subst hk
    clear h hb
    go_enter Tryd.func34, Tryd.ntmps34
    go_wp2_with fail
    go_ret
    exact ⟨rfl, rfl⟩
  | cons p r =>
    obtain ⟨b, off, A, m, rfl, hbb, hk, x0, h1, h2, hs⟩ := h.head
    have hp2 := h.two p (List.mem_cons_self ..)
    obtain ⟨b2, off2, rfl, hb2, hcell⟩ := sl_bytes (hs.keep (F' := low w.heap.size) (fun g hg => Nat.lt_trans hg lb) (fun _ _ _ => rfl)) (by omega)
    have y1 := hcell 1 (by omega)
    have hst : standsS K (p :: r) = (byteAt p 1 == K) := rfl
    rw [hst]
    obtain ⟨z, hz⟩ : ∃ z, byteAt p 1 = z := ⟨_, rfl⟩
    rw [hz] at y1 ⊢
    have hbl : b < w.heap.size := Nat.lt_trans hbb lb
    have hk0 : (0 : Int) < (k : Int) := by omega
    have hp1 : (1 : Int) < (p.length : Int) := by omega
    have hkc := h.cap.1
    clear h hb hs hcell hst hz hk
    go_enter Tryd.func34, Tryd.ntmps34
    go_wp2_with fail
    go_ret
    exact ⟨rfl, rfl⟩
theorem Own.fromX {α : Type} {t : Ty α} {e : TypeId} {base n : Nat} {v : Value} {xs : List α} {X : Nat → Prop} {w w' : World} (h : Own (t.on X) e base w v n xs) (hX : ∀ b, X b → base ≤ b) (hf : From base w w') : Own (t.on X) e base w' v n xs :=
  (((h.widen (X' := fun b => X b ∧ base ≤ b) (fun b _ hb => ⟨hb, hX b hb⟩)).widen (X' := fun b => X b ∧ base ≤ b) (fun b _ hb => hb)) |> fun h => by
    obtain ⟨h1, cells, ⟨h2, h2'⟩, h3⟩ := h
    refine ⟨h1, cells, ⟨h2, ?_⟩, fun i x hx => t.keep (h3 i x hx) (fun b hb => ⟨⟨Nat.lt_of_lt_of_le hb.1.1 hf.size, hb.1.2⟩, hb.2.1⟩) (fun b o hb => hf.cell hb.2.2 hb.1.1)⟩
    rcases h2' with h | ⟨g, cap, cur, hv, hg, hh, r⟩
    · exact .inl h
    · exact .inr ⟨g, cap, cur, hv, hg, hf.heap hg hh, r⟩)
theorem Own.fromF {α : Type} {t : Ty α} {e : TypeId} {base n : Nat} {v : Value} {xs : List α} {w w' : World} (h : Own t e base w v n xs) (ht : Flat t) (hf : From base w w') : Own t e base w' v n xs := by
  obtain ⟨h1, cells, ⟨h2, h2'⟩, h3⟩ := h
  refine ⟨h1, cells, ⟨h2, ?_⟩, fun i x hx => ht (h3 i x hx)⟩
  rcases h2' with h | ⟨g, cap, cur, hv, hg, hh, r⟩
  · exact .inl h
  · exact .inr ⟨g, cap, cur, hv, hg, hf.heap hg hh, r⟩
/-- a row of flat elements lies in its own block -/
theorem Own.slAt {α : Type} {t : Ty α} (ht : Flat t) {e : TypeId} {base n c : Nat} {A : Option Addr} {xs : List α} {w : World} (h : Own t e base w (.slice A n c) n xs) : Sl t w (fun b => (Value.slice A n c).ownBlock = some b ∧ base ≤ b ∧ b < w.heap.size) A n xs := by
  have h1 := h.sl
  refine ⟨h1.1, fun i x hx => ?_⟩
  obtain ⟨b, off, cs, rfl, hb, hr, hc⟩ := h1.2 i x hx
  exact ⟨b, off, cs, rfl, ⟨rfl, h.lt rfl⟩, ht hr, hc⟩
def valT : Ty Value := Ty.flat 1 (fun v => [v]) (fun v => v.oneCell' = true) (fun _ => rfl)
theorem flat_val : Flat valT := fun {_ _ _ _ _ _} h => h
/-- the interfaces so far: the row of their headers; the last one's settings are the call's own row -/
structure AccI (w : World) (CB H : Nat) (V : Value) (L : List (List Alt)) (vals : List Value) : Prop where
  row : Own valT 50 (CB + 1) w V L.length vals
  old : ∀ i x, L[i]? = some x → i + 1 < L.length → ∃ A c, vals[i]? = some (.slice A x.length c) ∧ x.length ≤ c ∧ c ≤ maxLen ∧ Sl altT w (fun b => CB + 1 ≤ b ∧ b < H ∧ V.ownBlock ≠ some b) A x.length x
  last : ∀ x, L[L.length - 1]? = some x → ∃ vl, vals[L.length - 1]? = some vl ∧ Own (altT.on fun b => H ≤ b ∧ V.ownBlock ≠ some b) 56 H w vl x.length x
  low : CB + 1 ≤ H ∧ H ≤ w.heap.size
section
variable {w w' w0 : World} {CB H : Nat} {V V' : Value} {L : List (List Alt)} {vals : List Value}
theorem AccI.from_ (h : AccI w CB H V L vals) (hf : From (CB + 1) w w') : AccI w' CB H V L vals :=
  ⟨h.row.fromF flat_val hf, fun i x hx hi => by
    obtain ⟨A, c, h1, h2, h3, h4⟩ := h.old i x hx hi
    exact ⟨A, c, h1, h2, h3, h4.keep (fun _ hb => hb) (fun b o hb => hf.cell hb.1 (Nat.lt_of_lt_of_le hb.2.1 h.low.2))⟩,
   fun x hx => by
    obtain ⟨vl, h1, h2⟩ := h.last x hx
    exact ⟨vl, h1, h2.fromX (fun b hb => hb.1) (hf.mono h.low.1)⟩, h.low.1, Nat.le_trans h.low.2 hf.size⟩
theorem AccI.start (w : World) (CB : Nat) (h : CB + 1 ≤ w.heap.size) : AccI w CB (CB + 1) (.slice none 0 0) [] [] :=
  ⟨Own.nil _ _ _ _, fun i x hx => by simp at hx, fun x hx => by simp at hx, Nat.le_refl _, h⟩
/-- all lists, as they lie below the world's end -/
theorem AccI.lists (h : AccI w CB H V L vals) {i : Nat} {x : List Alt} (hx : L[i]? = some x) : ∃ A c, vals[i]? = some (.slice A x.length c) ∧ x.length ≤ c ∧ c ≤ maxLen ∧ Sl altT w (fun b => CB + 1 ≤ b ∧ b < w.heap.size ∧ V.ownBlock ≠ some b) A x.length x := by
  have hi := (List.getElem?_eq_some_iff.1 hx).1
  by_cases hl : i + 1 < L.length
  · obtain ⟨A, c, h1, h2, h3, h4⟩ := h.old i x hx hl
    exact ⟨A, c, h1, h2, h3, h4.keep (fun b hb => ⟨hb.1, Nat.lt_of_lt_of_le hb.2.1 h.low.2, hb.2.2⟩) (fun _ _ _ => rfl)⟩
  · obtain rfl : i = L.length - 1 := by omega
    obtain ⟨vl, h1, h2⟩ := h.last x hx
    obtain ⟨A, c, rfl, h3, h4⟩ := h2.isSlice
    refine ⟨A, c, h1, h3, h4, ?_⟩
    have ha := rows_apart h2 h.row (by decide : 56 ≠ 50)
    have hs := h2.sl
    refine ⟨hs.1, fun j y hy => ?_⟩
    obtain ⟨_, cells, hro, hrel⟩ := h2
    have hj : j < x.length := (List.getElem?_eq_some_iff.1 hy).1
    obtain ⟨b, off, cs, rfl, hb, hr, hc⟩ := hs.2 j y hy
    have hlt := hro.lt b rfl
    rcases hro.2 with ⟨e, _⟩ | ⟨g, cap, cur, hv, hg, hh, _, _, _, htk⟩
    · injection e with e; cases e
    · injection hv with e1 _ _
      injection e1 with e1
      injection e1 with e1 e2 _
      subst e1 e2
      have hr2 := hrel j y hy
      have hlen := (altT.on fun b => H ≤ b ∧ V.ownBlock ≠ some b).len hr
      have hlen2 := (altT.on fun b => H ≤ b ∧ V.ownBlock ≠ some b).len hr2
      have ecs : cs = (cells.drop (j * 9)).take 9 := by
        apply List.ext_getElem?
        intro q
        by_cases hq : q < 9
        · have e3 := hc q cs[q]! (by rw [List.getElem?_eq_getElem (by rw [hlen]; exact hq)]; simp [List.getElem!_eq_getElem?_getD, List.getElem?_eq_getElem (show q < cs.length by rw [hlen]; exact hq)])
          have e4 := hro.cellAt (j * 9 + q) (by
            have h8 : (j + 1) * 9 ≤ x.length * 9 := Nat.mul_le_mul_right _ hj
            have h9 : x.length * (altT.on fun b => H ≤ b ∧ V.ownBlock ≠ some b).size = x.length * 9 := rfl
            rw [h9]
            omega)
          rw [show (0 + j * (altT.on fun b => H ≤ b ∧ V.ownBlock ≠ some b).size + q) = j * 9 + q by show 0 + j * 9 + q = _; omega] at e3
          rw [e3] at e4
          rw [List.getElem?_take_of_lt hq, List.getElem?_drop, ← e4]
          rw [List.getElem?_eq_getElem (show q < cs.length by rw [hlen]; exact hq)]
          simp [List.getElem!_eq_getElem?_getD, List.getElem?_eq_getElem (show q < cs.length by rw [hlen]; exact hq)]
        · rw [List.getElem?_eq_none (by rw [hlen]; show 9 ≤ q; omega), List.getElem?_eq_none (Nat.le_trans (List.length_take_le _ _) (by omega))]
      subst ecs
      refine ⟨b, 0, _, rfl, ⟨by have := hlt.1; have := h.low.1; omega, hlt.2, fun e => ?_⟩, ?_, hc⟩
      · rcases ha with ha | ha
        · cases ha
        · exact ha e.symm
      · exact altT.keep hr2 (fun b hb => ⟨by have := hb.2.1; have := h.low.1; omega, hb.1.1, hb.2.2⟩) (fun _ _ _ => rfl)
/-- the row of interfaces reads as a list of lists -/
theorem AccI.sl {Av : Option Addr} {cv : Nat} (h : AccI w CB H (.slice Av L.length cv) L vals) : Sl ifT w (fun b => CB + 1 ≤ b ∧ b < w.heap.size) Av L.length L := by
  refine ⟨rfl, fun i x hx => ?_⟩
  have hi := (List.getElem?_eq_some_iff.1 hx).1
  obtain ⟨A, c, h1, h2, h3, h4⟩ := h.lists hx
  obtain ⟨b, off, cs, rfl, hb, ⟨rfl, _⟩, hc⟩ := (h.row.slAt flat_val).2 i _ h1
  exact ⟨b, off, [.slice A x.length c], rfl, ⟨hb.2.1, hb.2.2⟩, ⟨A, c, rfl, h2, h3, h4.keep (fun b hb => ⟨hb.1, hb.2.1⟩) (fun _ _ _ => rfl)⟩, hc⟩
/-- a new interface: the row has grown by an empty one -/
theorem AccI.push (h : AccI w0 CB H V L vals) (hf : From (CB + 1) w0 w) (hg : w.grownBy w' V.ownBlock) (ho : Own valT 50 (CB + 1) w' V' (L.length + 1) (vals ++ [.slice none 0 0])) (hat : V'.ownBlock = V.ownBlock ∨ V'.ownBlock = some w.heap.size) :
    AccI w' CB w0.heap.size V' (L ++ [[]]) (vals ++ [.slice none 0 0]) := by
  have hvl : vals.length = L.length := h.row.1
  have hne : ∀ b, b < w0.heap.size → V.ownBlock ≠ some b → V'.ownBlock ≠ some b := fun b hb hn e => by
    rcases hat with h1 | h1
    · exact hn (by rw [← h1, e])
    · rw [h1] at e; injection e with e; have := hf.size; omega
  refine ⟨by rw [List.length_append]; exact ho, fun i x hx hi => ?_, fun x hx => ?_, by have := h.low; omega, Nat.le_trans hf.size hg.size⟩
  · rw [List.length_append, List.length_singleton] at hi
    have hi' : i < L.length := by omega
    rw [List.getElem?_append_left hi'] at hx
    obtain ⟨A, c, h1, h2, h3, h4⟩ := h.lists hx
    refine ⟨A, c, by rw [List.getElem?_append_left (by omega)]; exact h1, h2, h3, h4.keep (fun b hb => ⟨hb.1, hb.2.1, hne b hb.2.1 hb.2.2⟩) (fun b o hb => ?_)⟩
    exact (World.cell?_of_block (a := ⟨b, o, none⟩) (hg.block b (Nat.lt_of_lt_of_le hb.2.1 hf.size) (fun e => hb.2.2 e.symm))).trans (hf.cell hb.1 hb.2.1)
  · rw [List.length_append, List.length_singleton, Nat.add_sub_cancel, List.getElem?_append_right (Nat.le_refl _), Nat.sub_self] at hx
    have e : [] = x := by simpa using hx
    subst e
    refine ⟨.slice none 0 0, ?_, Own.nil _ _ _ _⟩
    rw [List.length_append, List.length_singleton, Nat.add_sub_cancel, List.getElem?_append_right (by omega), hvl, Nat.sub_self]
    rfl
theorem take_one {l : List Value} {i : Nat} {y : Value} : (l.drop (i * 1)).take 1 = [y] ↔ l[i]? = some y := by
  rw [Nat.mul_one]
  constructor
  · intro h
    have := congrArg (fun l : List Value => l[0]?) h
    simpa [List.getElem?_take, List.getElem?_drop] using this
  · intro h
    obtain ⟨h1, h2⟩ := List.getElem?_eq_some_iff.1 h
    rw [List.drop_eq_getElem_cons h1, h2]
    rfl
/-- one more setting of the last interface -/
theorem AccI.add {x : List Alt} {a : Alt} {g cv : Nat} {vl v' : Value} (h : AccI w CB H (.slice (some ⟨g, 0, none⟩) (L.length + 1) cv) (L ++ [x]) vals) (hvl : vals[L.length]? = some vl) (ho : Own (altT.on fun b => H ≤ b ∧ (Value.slice (some ⟨g, 0, none⟩) (L.length + 1) cv).ownBlock ≠ some b) 56 H w vl x.length x) (hg : w.grownBy w' vl.ownBlock)
    (ho' : Own (altT.on fun b => H ≤ b ∧ (Value.slice (some ⟨g, 0, none⟩) (L.length + 1) cv).ownBlock ≠ some b) 56 H w' v' (x.length + 1) (x ++ [a])) :
    AccI (w'.setCell ⟨g, L.length, none⟩ v') CB H (.slice (some ⟨g, 0, none⟩) (L.length + 1) cv) (L ++ [x ++ [a]]) (vals.set L.length v') := by
  have hrow := h.row
  rw [List.length_append, List.length_singleton] at hrow
  have hvn : vals.length = L.length + 1 := hrow.1
  obtain ⟨l1, l2⟩ := h.low
  have hap := rows_apart ho hrow (by decide : 56 ≠ 50)
  have hap2 := rows_apart hrow ho (by decide : 50 ≠ 56)
  have hrow' := hrow.grownF flat_val hg hap2
  have hsl : ∃ A c, v' = .slice A (x.length + 1) c := by obtain ⟨A, c, e, _⟩ := ho'.isSlice; exact ⟨A, c, e⟩
  have hap3 := rows_apart ho' hrow' (by decide : 56 ≠ 50)
  have hgs : w'.grownBy (w'.setCell ⟨g, L.length, none⟩ v') (some g) := grown_at grown_self _ _
  have hset : Own valT 50 (CB + 1) (w'.setCell ⟨g, L.length, none⟩ v') (.slice (some ⟨g, 0, none⟩) (L.length + 1) cv) (L.length + 1) (vals.set L.length v') := by
    obtain ⟨h1, cells, h2, h3⟩ := hrow'
    have hc : cells.length = (L.length + 1) * 1 := h2.1
    refine ⟨by rw [List.length_set]; exact h1, cells.set L.length v', (h2.stored L.length v').1, fun i y hy => ?_⟩
    rw [List.getElem?_set] at hy
    split at hy
    · rename_i e
      subst e
      rw [if_pos (by omega)] at hy
      injection hy with hy
      subst hy
      refine ⟨take_one.2 (by rw [List.getElem?_set_self (by omega)]), ?_⟩
      obtain ⟨A, c, rfl⟩ := hsl
      rfl
    · rename_i e
      obtain ⟨h4, h5⟩ : (cells.drop (i * 1)).take 1 = [y] ∧ _ := h3 i y hy
      exact ⟨take_one.2 (by rw [List.getElem?_set_ne e]; exact take_one.1 h4), h5⟩
  refine ⟨by rw [List.length_append, List.length_singleton]; exact hset, fun i y hy hi => ?_, fun y hy => ?_, l1, by rw [World.size_setCell]; exact Nat.le_trans l2 hg.size⟩
  · rw [List.length_append, List.length_singleton] at hi
    have hi' : i < L.length := by omega
    rw [List.getElem?_append_left hi'] at hy
    obtain ⟨A, c, h1, h2, h3, h4⟩ := h.old i y (by rw [List.getElem?_append_left hi']; exact hy) (by rw [List.length_append, List.length_singleton]; omega)
    refine ⟨A, c, by rw [List.getElem?_set_ne (by omega)]; exact h1, h2, h3, h4.keep (fun _ hb => hb) (fun b o hb => ?_)⟩
    have e1 : some b ≠ vl.ownBlock := fun e => by have h8 := (ho.lt e.symm).1; have h9 := hb.2.1; omega
    exact (World.cell?_of_block (a := ⟨b, o, none⟩) (hgs.block b (Nat.lt_of_lt_of_le (Nat.lt_of_lt_of_le hb.2.1 l2) hg.size) (fun e => hb.2.2 e.symm))).trans (World.cell?_of_block (a := ⟨b, o, none⟩) (hg.block b (Nat.lt_of_lt_of_le hb.2.1 l2) e1))
  · rw [List.length_append, List.length_singleton, Nat.add_sub_cancel, List.getElem?_append_right (Nat.le_refl _), Nat.sub_self] at hy
    have e : x ++ [a] = y := by simpa using hy
    subst e
    refine ⟨v', by rw [List.length_append, List.length_singleton, Nat.add_sub_cancel, List.getElem?_set_self (by omega)], ?_⟩
    rw [List.length_append, List.length_singleton]
    exact ho'.grownX hgs (fun b e hb => hb.2 e.symm) hap3
end
end Go.Proofs.YtjgncofhobhjdaaDoor
/- Parse: what is computed from the descriptors. Printed by gen_sz.py. -/
namespace Go.Proofs.YtjgncofhobhjdaaDoor
open Go.RowKit
attribute [local go_sem ↓] Go.wp_at_zero Go.wp_at_succ

theorem parseRet {tm : Array Value} {w : World} {R : Nat} {a b c d e f g k : Value} {E : Int} (h2 : tm[2]? = some (.pointer (some ⟨R, 0, none⟩))) (h3 : tm[3]? = some (.int .i64 E)) (h : w.heap[R]? = some (.cells #[a, b, c, d, e, f, g, k] 32 (0, 0))) :
    (results Tryd.f16 tm).run Tryd.prog w = .ok (.tuple #[.agg #[a, b, c, d, e, f, g, k], .int .i64 E]) w := by
  have c0 : w.cell? ⟨R, 0, none⟩ = some a := cell_heap h (o := 0) rfl
  have c1 : w.cell? ⟨R, 1, none⟩ = some b := cell_heap h (o := 1) rfl
  have c2 : w.cell? ⟨R, 2, none⟩ = some c := cell_heap h (o := 2) rfl
  have c3 : w.cell? ⟨R, 3, none⟩ = some d := cell_heap h (o := 3) rfl
  have c4 : w.cell? ⟨R, 4, none⟩ = some e := cell_heap h (o := 4) rfl
  have c5 : w.cell? ⟨R, 5, none⟩ = some f := cell_heap h (o := 5) rfl
  have c6 : w.cell? ⟨R, 6, none⟩ = some g := cell_heap h (o := 6) rfl
  have c7 : w.cell? ⟨R, 7, none⟩ = some k := cell_heap h (o := 7) rfl
  simp [results, Tryd.results16, go_sem, Array.getD_eq_getD_getElem?, h2, h3, c0, c1, c2, c3, c4, c5, c6, c7]
/-- what Parse answers -/
def ParsePost (w : World) (bs : List Int) (e : Ending) (w' : World) : Prop :=
  (match parseC bs with
  | some c => ∃ A', e = .returned (.tuple #[.agg (c.cells A' c.ifs.length).toArray, .int .i64 0]) ∧ CfgIs w' (fun b => w.heap.size ≤ b ∧ b < w'.heap.size) c A' c.ifs.length
  | none => e = .returned (.tuple #[.agg #[.int .u16 0, .int .u8 0, .int .u8 0, .int .u8 0, .bool false, .bool false, .int .u8 0, .slice none 0 0], .int .i64 (parseE bs)])) ∧ Kept w w'
theorem ParsePost.bad {w w' : World} {bs : List Int} (h : parseC bs = none) (hn : bs.length ≤ 4096) (hk : Kept w w') : ParsePost w bs (.returned (.tuple #[.agg #[.int .u16 0, .int .u8 0, .int .u8 0, .int .u8 0, .bool false, .bool false, .int .u8 0, .slice none 0 0], .int .i64 4])) w' := by
  have he : parseE bs = 4 := by unfold parseE; rw [if_neg (by omega), h]; rfl
  unfold ParsePost
  rw [h, he]
  exact ⟨rfl, hk⟩
theorem ParsePost.long {w w' : World} {bs : List Int} (hn : 4096 < bs.length) (hk : Kept w w') : ParsePost w bs (.returned (.tuple #[.agg #[.int .u16 0, .int .u8 0, .int .u8 0, .int .u8 0, .bool false, .bool false, .int .u8 0, .slice none 0 0], .int .i64 3])) w' := by
  have he : parseE bs = 3 := by unfold parseE; rw [if_pos hn]
  have h : parseC bs = none := by unfold parseC divide; rw [if_pos hn]; rfl
  unfold ParsePost
  rw [h, he]
  exact ⟨rfl, hk⟩
theorem ParsePost.good {w w' : World} {bs : List Int} {c : Cfg} {A : Option Addr} {n : Nat} (h : parseC bs = some c) (hn : c.ifs.length = n) (hC : CfgIs w' (fun b => w.heap.size ≤ b ∧ b < w'.heap.size) c A n) (hk : Kept w w') : ParsePost w bs (.returned (.tuple #[.agg (c.cells A n).toArray, .int .i64 0])) w' := by
  subst hn
  unfold ParsePost
  rw [h]
  exact ⟨⟨A, rfl, hC⟩, hk⟩
/-- what Parse makes of what is left -/
def endS (d : CfgD) (z : Option (List (List Alt) × List (List Int))) : Option Cfg := z.bind fun p => if p.2 = [] ∧ checkS ⟨d, p.1⟩ = 0 then some (fillS ⟨d, p.1⟩) else none
theorem readS_cons (h : List Int) (r : List (List Int)) {d : CfgD} (hd : decCfg h = some d) : readS (h :: r) = endS d (altsS (r.length + 1) r []) := by
  unfold readS
  simp only [hd]
  rfl
theorem extra_stop {r : List (List Int)} (h : ∀ p q, r = p :: q → stdS (kindB p) = true) : extraS r = ([], r) := by
  cases r with
  | nil => rfl
  | cons p q => unfold extraS; rw [if_pos (h p q rfl)]
theorem eps_stop {r : List (List Int)} (h : standsS 5 r = false) : epsS r = some ([], r) := by
  cases r with
  | nil => rfl
  | cons p q =>
    have h1 : ¬ kindB p = 5 := by have h2 : (kindB p == 5) = false := h; simpa using h2
    unfold epsS
    rw [if_neg h1]
theorem alts_stop {n : Nat} {r : List (List Int)} {L : List (List Alt)} (h : standsS 4 r = false) (hn : r.length < n) : altsS n r L = some (L, r) := by
  cases n with
  | zero => exact absurd hn (Nat.not_lt_zero _)
  | succ n =>
    cases r with
    | nil => rfl
    | cons p q =>
      have h1 : ¬ kindB p = 4 := by have h2 : (kindB p == 4) = false := h; simpa using h2
      unfold altsS
      rw [if_neg h1]
theorem alts_go {n : Nat} {p : List Int} {r : List (List Int)} {L : List (List Alt)} (h : standsS 4 (p :: r) = true) : altsS (n + 1) (p :: r) L = (decIf p).bind fun d => (epsS (extraS r).2).bind fun q =>
    if (if d.alt = 0 then L ++ [[]] else L) = [] then none else altsS n q.2 (addLast (if d.alt = 0 then L ++ [[]] else L) ⟨d, (extraS r).1.flatten, q.1⟩) := by
  have h1 : kindB p = 4 := by have h2 : (kindB p == 4) = true := h; simpa using h2
  conv => lhs; unfold altsS
  rw [if_pos h1]
theorem extra_go {p : List Int} {r : List (List Int)} (h : stdS (kindB p) = false) : extraS (p :: r) = (p :: (extraS r).1, (extraS r).2) := by
  conv => lhs; unfold extraS
  rw [if_neg (by rw [h]; decide)]
theorem eps_go {p : List Int} {r : List (List Int)} (h : standsS 5 (p :: r) = true) : epsS (p :: r) = (decEp p).bind fun e => (epsS r).map fun q => (e :: q.1, q.2) := by
  have h1 : kindB p = 5 := by have h2 : (kindB p == 5) = true := h; simpa using h2
  conv => lhs; unfold epsS
  rw [if_pos h1]
theorem decCfg_ok {p : List Int} {d : CfgD} (h : decCfg p = some d) (hp : ∀ z ∈ p, u8k z) : d.ok := by rw [(decCfg_raw h).2]; exact readCfg_ok hp
theorem decIf_ok {p : List Int} {d : IfD} (h : decIf p = some d) (hp : ∀ z ∈ p, u8k z) : d.ok ∧ p.length = 9 := by
  refine ⟨by rw [(decIf_raw h).2]; exact readIf_ok hp, ?_⟩
  rw [← (decIf_raw h).1]; rfl
theorem decEp_ok {p : List Int} {d : EpD} (h : decEp p = some d) (hp : ∀ z ∈ p, u8k z) : d.ok ∧ p.length = 7 := by
  refine ⟨by rw [(decEp_raw h).2]; exact readEp_ok hp, ?_⟩
  rw [← (decEp_raw h).1]; rfl
theorem sumC_snoc (L : List (List Alt)) (x : List Alt) : sumC (L ++ [x]) = sumC L + sumIf x := by simp [sumC]
theorem sumIf_snoc (x : List Alt) (a : Alt) : sumIf (x ++ [a]) = sumIf x + altSize a := by simp [sumIf]
/-- the first descriptor is taken off -/
theorem RestIs.pop {w : World} {Rb k c b off : Nat} {p : List Int} {r : List (List Int)} {A : Option Addr} (h : RestIs w Rb (p :: r) (some ⟨b, off, none⟩) k c) (hA : A = some ⟨b, off + 1, none⟩ ∨ k = 1) : RestIs (w.setCell ⟨Rb, 0, none⟩ (.slice A (k - 1) (c - 1))) Rb r A (k - 1) (c - 1) := by
  have hk : k = r.length + 1 := h.sl.1.symm
  refine ⟨heap_store h.box _, by have := h.cap; omega, ?_, fun q hq => h.two q (List.mem_cons_of_mem _ hq)⟩
  have hd : Sl u8T.slice w (fun b => b < Rb) (some ⟨b, off + 1 * 1, none⟩) (k - 1) ((p :: r).drop 1) := h.sl.drop (k := 1)
  have hd2 : Sl u8T.slice w (fun b => b < Rb) A (k - 1) r := by
    rcases hA with rfl | h1
    · exact hd
    · exact Sl.empty hd (by omega) A
  refine hd2.keep (fun _ hb => hb) (fun g o hg => World.cell?_setCell_other _ _ _ _ (fun e => ?_))
  have h1 := congrArg Addr.block e
  simp only at h1
  omega
/-- what Parse has in memory between two settings -/
structure PI (w : World) (TB Rb CB : Nat) (d : CfgD) (r : List (List Int)) (L : List (List Alt)) (R : Option Addr) (k c : Nat) (V : Value) (H : Nat) (vals : List Value) (X : World) : Prop where
  rest : RestIs X Rb r R k c
  acc : AccI X CB H V L vals
  cb : X.heap[CB]? = some (.cells #[.int .u16 d.total, .int .u8 d.ifs, .int .u8 d.number, .int .u8 d.text, .bool d.self, .bool d.wake, .int .u8 d.power, V] 32 (0, 0))
  tb : X.heap[TB]? = some (.cells #[.int .u16 0, .int .u8 0, .int .u8 0, .int .u8 0, .bool false, .bool false, .int .u8 0, .slice none 0 0] 32 (0, 0))
  kept : Kept w X
theorem PI.keep {w X Y : World} {TB Rb CB k c H : Nat} {d : CfgD} {r : List (List Int)} {L : List (List Alt)} {R : Option Addr} {V : Value} {vals : List Value} (h : PI w TB Rb CB d r L R k c V H vals X) (hk : Kept X Y) : PI w TB Rb CB d r L R k c V H vals Y :=
  ⟨h.rest.kept hk, h.acc.from_ (From.kept hk), heap_kept hk h.cb, heap_kept hk h.tb, h.kept.trans' hk⟩
/-- what Parse has in memory while it reads a setting -/
structure EB (w : World) (TB Rb CB AB : Nat) (d : CfgD) (f : IfD) (V : Value) (r : List (List Int)) (R : Option Addr) (k c : Nat) (u : Value) (ex : List Int) (v : Value) (es : List EpD) (X : World) : Prop where
  rest : RestIs X Rb r R k c
  cb : X.heap[CB]? = some (.cells #[.int .u16 d.total, .int .u8 d.ifs, .int .u8 d.number, .int .u8 d.text, .bool d.self, .bool d.wake, .int .u8 d.power, V] 32 (0, 0))
  tb : X.heap[TB]? = some (.cells #[.int .u16 0, .int .u8 0, .int .u8 0, .int .u8 0, .bool false, .bool false, .int .u8 0, .slice none 0 0] 32 (0, 0))
  ab : X.heap[AB]? = some (.cells #[.int .u8 f.num, .int .u8 f.alt, .int .u8 f.eps, .int .u8 f.cls, .int .u8 f.sub, .int .u8 f.proto, .int .u8 f.text, u, v] 56 (0, 0))
  ou : Own u8T 5 (AB + 1) X u ex.length ex
  oe : Own epT 59 (AB + 1) X v es.length es
  kept : Kept w X
  low : w.heap.size ≤ TB ∧ TB < Rb ∧ Rb < CB ∧ CB < AB
section
variable {w X Y : World} {TB Rb CB AB k c : Nat} {d : CfgD} {f : IfD} {V u v : Value} {r : List (List Int)} {R : Option Addr} {ex : List Int} {es : List EpD}
theorem EB.keep (h : EB w TB Rb CB AB d f V r R k c u ex v es X) (hk : Kept X Y) : EB w TB Rb CB AB d f V r R k c u ex v es Y :=
  ⟨h.rest.kept hk, heap_kept hk h.cb, heap_kept hk h.tb, heap_kept hk h.ab, h.ou.kept hk, h.oe.kept hk, h.kept.trans' hk, h.low⟩
theorem EB.pop {b off : Nat} {p : List Int} {A : Option Addr} (h : EB w TB Rb CB AB d f V (p :: r) (some ⟨b, off, none⟩) k c u ex v es X) (hA : A = some ⟨b, off + 1, none⟩ ∨ k = 1) : EB w TB Rb CB AB d f V r A (k - 1) (c - 1) u ex v es (X.setCell ⟨Rb, 0, none⟩ (.slice A (k - 1) (c - 1))) := by
  obtain ⟨l0, l1, l2, l3⟩ := h.low
  exact ⟨h.rest.pop hA, heap_other h.cb (by show CB ≠ Rb; omega), heap_other h.tb (by show TB ≠ Rb; omega), heap_other h.ab (by show AB ≠ Rb; omega), h.ou.fromF flat_u8 (From.set _ (by show Rb < AB + 1; omega)), h.oe.fromF flat_ep (From.set _ (by show Rb < AB + 1; omega)), h.kept.setCell (by show w.heap.size ≤ Rb; omega) _, h.low⟩
theorem EB.addX {u' : Value} {ex' : List Int} (h : EB w TB Rb CB AB d f V r R k c u ex v es X) (hg : X.grownBy Y u.ownBlock) (ho : Own u8T 5 (AB + 1) Y u' ex'.length ex') : EB w TB Rb CB AB d f V r R k c u' ex' v es (Y.setCell ⟨AB, 7, none⟩ u') := by
  obtain ⟨l0, l1, l2, l3⟩ := h.low
  have hb : Below (AB + 1) X Y := (Below.refl _ _).grown hg (heap_lt h.ab) (fun k hk => (h.ou.lt hk).1)
  have lA := heap_lt h.ab
  exact ⟨(h.rest.below (hb.mono (by omega))).below (Below.setCell (Below.refl _ _) (by show Rb + 1 ≤ AB; omega) _), heap_other (heap_below hb h.cb (by omega)) (by show CB ≠ AB; omega), heap_other (heap_below hb h.tb (by omega)) (by show TB ≠ AB; omega), heap_store (heap_below hb h.ab (by omega)) _, ho.fromF flat_u8 (From.set _ (by show AB < AB + 1; omega)), (h.oe.grownF flat_ep hg (rows_apart h.oe h.ou (by decide))).fromF flat_ep (From.set _ (by show AB < AB + 1; omega)), (h.kept.trans (hb.mono (by omega))).setCell (by show w.heap.size ≤ AB; omega) _, h.low⟩
theorem EB.addE {v' : Value} {es' : List EpD} (h : EB w TB Rb CB AB d f V r R k c u ex v es X) (hg : X.grownBy Y v.ownBlock) (ho : Own epT 59 (AB + 1) Y v' es'.length es') : EB w TB Rb CB AB d f V r R k c u ex v' es' (Y.setCell ⟨AB, 8, none⟩ v') := by
  obtain ⟨l0, l1, l2, l3⟩ := h.low
  have hb : Below (AB + 1) X Y := (Below.refl _ _).grown hg (heap_lt h.ab) (fun k hk => (h.oe.lt hk).1)
  have lA := heap_lt h.ab
  exact ⟨(h.rest.below (hb.mono (by omega))).below (Below.setCell (Below.refl _ _) (by show Rb + 1 ≤ AB; omega) _), heap_other (heap_below hb h.cb (by omega)) (by show CB ≠ AB; omega), heap_other (heap_below hb h.tb (by omega)) (by show TB ≠ AB; omega), heap_store (heap_below hb h.ab (by omega)) _, (h.ou.grownF flat_u8 hg (rows_apart h.ou h.oe (by decide))).fromF flat_u8 (From.set _ (by show AB < AB + 1; omega)), ho.fromF flat_ep (From.set _ (by show AB < AB + 1; omega)), (h.kept.trans (hb.mono (by omega))).setCell (by show w.heap.size ≤ AB; omega) _, h.low⟩
end
theorem EB.setV {w X Y : World} {TB Rb CB AB k c n : Nat} {d : CfgD} {f : IfD} {V V' u v : Value} {r : List (List Int)} {R : Option Addr} {ex : List Int} {es : List EpD} {xs : List Value} (h : EB w TB Rb CB AB d f V r R k c u ex v es X) (hr : Own valT 50 (CB + 1) X V n xs) (hg : X.grownBy Y V.ownBlock) : EB w TB Rb CB AB d f V' r R k c u ex v es (Y.setCell ⟨CB, 7, none⟩ V') := by
  obtain ⟨l0, l1, l2, l3⟩ := h.low
  have lC := heap_lt h.cb
  have hb : Below (CB + 1) X Y := (Below.refl _ _).grown hg lC (fun k hk => (hr.lt hk).1)
  exact ⟨(h.rest.below (hb.mono (by omega))).below (Below.setCell (Below.refl _ _) (by show Rb + 1 ≤ CB; omega) _), heap_store (heap_below hb h.cb (by omega)) _, heap_other (heap_below hb h.tb (by omega)) (by show TB ≠ CB; omega), heap_other (heap_grown hg h.ab (fun e => own_notTy hr h.ab (by decide) e.symm)) (by show AB ≠ CB; omega), (h.ou.grownF flat_u8 hg (rows_apart h.ou hr (by decide))).fromF flat_u8 (From.set _ (by show CB < AB + 1; omega)), (h.oe.grownF flat_ep hg (rows_apart h.oe hr (by decide))).fromF flat_ep (From.set _ (by show CB < AB + 1; omega)), (h.kept.trans (hb.mono (by omega))).setCell (by show w.heap.size ≤ CB; omega) _, h.low⟩
theorem frozen_of_block {w w' : World} {g o : Nat} (h : w'.heap[g]? = w.heap[g]?) : w'.frozen? ⟨g, o, none⟩ = w.frozen? ⟨g, o, none⟩ := by
  unfold World.frozen?
  simp only [h]
theorem last_of {α : Type} : ∀ (l : List α), l ≠ [] → ∃ l0 x, l = l0 ++ [x]
  | [], h => absurd rfl h
  | [x], _ => ⟨[], x, rfl⟩
  | x :: y :: l, _ => by
    obtain ⟨l0, z, h⟩ := last_of (y :: l) (by simp)
    exact ⟨x :: l0, z, by rw [h]; rfl⟩
/-- a cell of the row of interfaces -/
theorem AccI.cell {w : World} {CB H n cv g : Nat} {L : List (List Alt)} {vals : List Value} (h : AccI w CB H (.slice (some ⟨g, 0, none⟩) n cv) L vals) (hn : L.length = n) {i : Nat} {v : Value} (hv : vals[i]? = some v) : w.cell? ⟨g, i, none⟩ = some v ∧ w.frozen? ⟨g, i, none⟩ = false ∧ g < w.heap.size ∧ CB + 1 ≤ g := by
  have hr := h.row
  rw [hn] at hr
  obtain ⟨h1, cells, h2, h3⟩ := hr
  obtain ⟨h4, _⟩ : (cells.drop (i * 1)).take 1 = [v] ∧ _ := h3 i v hv
  have hi : i < n := by rw [← h1]; exact (List.getElem?_eq_some_iff.1 hv).1
  have hlt := h2.lt g rfl
  refine ⟨?_, h2.frozenAt i, hlt.2, hlt.1⟩
  rw [h2.cellAt i (by show i < n * 1; omega)]
  exact take_one.1 h4
/-- does Extra end here? -/
def stopX (r : List (List Int)) : Bool := match r with
  | [] => true
  | p :: _ => stdS (kindB p)
theorem endS_none (d : CfgD) : endS d none = none := rfl
end Go.Proofs.YtjgncofhobhjdaaDoor
/- Of: an endpoint is put behind a setting's. Printed by gen_yh.py. -/
namespace Go.Proofs.YtjgncofhobhjdaaDoor
open Go.RowKit
attribute [local go_sem ↓] Go.wp_at_zero Go.wp_at_succ

/-- a setting that is being made: its two rows -/
structure AI (Y0 : World) (AB : Nat) (cs : Array Value) (u v : Value) (ex : List Int) (es : List EpD) (X : World) : Prop where
  ab : X.heap[AB]? = some (.cells cs 56 (0, 0))
  ou : Own u8T 5 (AB + 1) X u ex.length ex
  oe : Own epT 59 (AB + 1) X v es.length es
  kept : Kept Y0 X
  low : Y0.heap.size = AB
section
variable {Y0 X Y : World} {AB : Nat} {cs : Array Value} {u v u' v' : Value} {ex ex' : List Int} {es es' : List EpD}
theorem AI.keep (h : AI Y0 AB cs u v ex es X) (hk : Kept X Y) : AI Y0 AB cs u v ex es Y := ⟨heap_kept hk h.ab, h.ou.kept hk, h.oe.kept hk, h.kept.trans' hk, h.low⟩
theorem AI.set (h : AI Y0 AB cs u v ex es X) (i : Nat) (x : Value) : AI Y0 AB (cs.setIfInBounds i x) u v ex es (X.setCell ⟨AB, i, none⟩ x) :=
  ⟨heap_store h.ab _, h.ou.fromF flat_u8 (From.set _ (Nat.lt_succ_self AB)), h.oe.fromF flat_ep (From.set _ (Nat.lt_succ_self AB)), h.kept.setCell (by show Y0.heap.size ≤ AB; rw [h.low]; exact Nat.le_refl _) _, h.low⟩
theorem AI.addX (h : AI Y0 AB cs u v ex es X) (hg : X.grownBy Y u.ownBlock) (ho : Own u8T 5 (AB + 1) Y u' ex'.length ex') : AI Y0 AB (cs.setIfInBounds 7 u') u' v ex' es (Y.setCell ⟨AB, 7, none⟩ u') := by
  have hs := h.kept.size
  have hY : AI Y0 AB cs u' v ex' es Y := ⟨heap_grown hg h.ab (fun e => h.ou.not_at (Nat.lt_succ_self AB) e.symm), ho, h.oe.grownF flat_ep hg (rows_apart h.oe h.ou (by decide)), h.kept.trans ((Below.refl _ _).grown hg hs (fun k hk => by have := (h.ou.lt hk).1; have := h.low; omega)), h.low⟩
  exact hY.set 7 u'
theorem AI.addE (h : AI Y0 AB cs u v ex es X) (hg : X.grownBy Y v.ownBlock) (ho : Own epT 59 (AB + 1) Y v' es'.length es') : AI Y0 AB (cs.setIfInBounds 8 v') u v' ex es' (Y.setCell ⟨AB, 8, none⟩ v') := by
  have hs := h.kept.size
  have hY : AI Y0 AB cs u v' ex es' Y := ⟨heap_grown hg h.ab (fun e => h.oe.not_at (Nat.lt_succ_self AB) e.symm), h.ou.grownF flat_u8 hg (rows_apart h.ou h.oe (by decide)), ho, h.kept.trans ((Below.refl _ _).grown hg hs (fun k hk => by have := (h.oe.lt hk).1; have := h.low; omega)), h.low⟩
  exact hY.set 8 v'
end
noncomputable def code28 : Code := (Tryd.f14.body.bind (findR 28)).getD .skip
set_option maxRecDepth 1000000 in
set_option maxHeartbeats 16000000 in
theorem eps28 {u0 u1 u2 u3 u4 u5 u8 u11 u12 u14 u15 u16 u17 u18 u19 u20 u21 u22 u23 u24 u25 u26 u27 u28 u29 u30 u31 u32 u33 u34 u35 u36 u37 u38 u39 u40 u41 u42 u43 u44 u45 u46 u47 u48 u49 u50 u51 u52 u53 u54 u55 u56 u57 u58 u59 u60 u61 u62 u63 u64 u65 u66 u67 u68 u69 u70 u71 u72 u73 u74 u75 u76 u77 u78 u79 u80 u81 u82 u83 u84 u85 u86 u87 u88 u89 u90 u91 u92 u93 u94 u95 u96 u97 u98 u99 u100 u101 u102 u103 u104 u105 u106 u107 u108 u109 u110 u111 u112 u113 u114 u115 u116 u117 u118 u119 u120 u121 u122 u123 u124 u125 u126 u127 u128 u129 u130 u131 u132 u133 u134 u135 u136 u137 u138 u139 u140 u141 u142 u143 u144 u145 u146 u147 u148 u149 u150 u151 u152 u153 u154 u155 u156 u157 u158 u159 u160 u161 u162 u163 u164 u165 u166 u167 u168 u169 u170 u171 u172 u173 u174 u175 u176 u177 u178 u179 u180 u181 u182 u183 u184 u185 u186 u187 u188 u189 u190 : Value} {n3 i j p m cm b2 off2 AB be offe ce cv2 : Nat} {Av : Option Addr} {q0 q1 q2 q3 q4 q5 q6 q7 u : Value} {ex : List Int} {e : PE} {ep : EpD} {xs : List EpD} {wj wr : World} {R : Ending → World → Prop} (hai : AI wj AB #[q0, q1, q2, q3, q4, q5, q6, q7, .slice Av p cv2] u (.slice Av p cv2) ex xs wr) (hxs : xs.length = p)
    (y3' : wr.cell? ⟨b2, off2 + j * 4 + 3, none⟩ = some (.slice (some ⟨be, offe, none⟩) n3 ce)) (hbw : b2 < wr.heap.size) (hbe' : be < wr.heap.size) (z0 : wr.cell? ⟨be, offe + p * 3, none⟩ = some (.int .u8 e.kind)) (z1 : wr.cell? ⟨be, offe + p * 3 + 1, none⟩ = some (.int .u8 e.ivl)) (z2 : wr.cell? ⟨be, offe + p * 3 + 2, none⟩ = some (.int .u16 e.max))
    (hj0 : (0 : Int) ≤ (j : Int)) (hjm : (j : Int) < (m : Int)) (hp0 : (0 : Int) ≤ (p : Int)) (hpn : (p : Int) < (n3 : Int)) (hp4 : p ≤ 4) (heo : ep.ok)
    (hcall : ∀ w', Calls Tryd.prog 30 #[.agg #[.int .u8 e.kind, .int .u8 e.ivl, .int .u16 e.max], .int .i64 i, .int .i64 p] w' fun r w2 => r = .returned (.agg #[.int .u8 ep.num, .bool ep.inn, .int .u8 ep.kind, .int .u16 ep.max, .int .u8 ep.ivl]) ∧ Kept w' w2)
    (Q : Exit → Act → World → Prop) (hK : ∀ (s137 s138 s139 s140 s141 s142 s143 s144 s145 s146 s147 s148 s149 s150 s151 s152 : Value) (v' : Value) (w' : World), AI wj AB #[q0, q1, q2, q3, q4, q5, q6, q7, v'] u v' ex (xs ++ [ep]) w' → Q .normal ⟨#[u0, u1, u2, u3, u4, u5, .int .i64 i, .slice (some ⟨b2, off2, none⟩) m cm, u8, .int .i64 j, .pointer (some ⟨AB, 0, none⟩), u11, u12, .int .i64 p, u14, u15, u16, u17, u18, u19, u20, u21, u22, u23, u24, u25, u26, u27, u28, u29, u30, u31, u32, u33, u34, u35, u36, u37, u38, u39, u40, u41, u42, u43, u44, u45, u46, u47, u48, u49, u50, u51, u52, u53, u54, u55, u56, u57, u58, u59, u60, u61, u62, u63, u64, u65, u66, u67, u68, u69, u70, u71, u72, u73, u74, u75, u76, u77, u78, u79, u80, u81, u82, u83, u84, u85, u86, u87, u88, u89, u90, u91, u92, u93, u94, u95, u96, u97, u98, u99, u100, u101, u102, u103, u104, u105, u106, u107, u108, u109, u110, u111, u112, u113, u114, u115, u116, u117, u118, u119, u120, u121, u122, u123, u124, u125, u126, u127, u128, u129, u130, u131, u132, u133, u134, u135, u136, s137, s138, s139, s140, s141, s142, s143, s144, s145, s146, s147, s148, s149, s150, s151, s152, u153, u154, u155, u156, u157, u158, u159, u160, u161, u162, u163, u164, u165, u166, u167, u168, u169, u170, u171, u172, u173, u174, u175, u176, u177, u178, u179, u180, u181, u182, u183, u184, u185, u186, u187, u188, u189, u190], []⟩ w') :
    Code.wp Tryd.prog (headC code28) Q ⟨#[u0, u1, u2, u3, u4, u5, .int .i64 i, .slice (some ⟨b2, off2, none⟩) m cm, u8, .int .i64 j, .pointer (some ⟨AB, 0, none⟩), u11, u12, .int .i64 p, u14, u15, u16, u17, u18, u19, u20, u21, u22, u23, u24, u25, u26, u27, u28, u29, u30, u31, u32, u33, u34, u35, u36, u37, u38, u39, u40, u41, u42, u43, u44, u45, u46, u47, u48, u49, u50, u51, u52, u53, u54, u55, u56, u57, u58, u59, u60, u61, u62, u63, u64, u65, u66, u67, u68, u69, u70, u71, u72, u73, u74, u75, u76, u77, u78, u79, u80, u81, u82, u83, u84, u85, u86, u87, u88, u89, u90, u91, u92, u93, u94, u95, u96, u97, u98, u99, u100, u101, u102, u103, u104, u105, u106, u107, u108, u109, u110, u111, u112, u113, u114, u115, u116, u117, u118, u119, u120, u121, u122, u123, u124, u125, u126, u127, u128, u129, u130, u131, u132, u133, u134, u135, u136, u137, u138, u139, u140, u141, u142, u143, u144, u145, u146, u147, u148, u149, u150, u151, u152, u153, u154, u155, u156, u157, u158, u159, u160, u161, u162, u163, u164, u165, u166, u167, u168, u169, u170, u171, u172, u173, u174, u175, u176, u177, u178, u179, u180, u181, u182, u183, u184, u185, u186, u187, u188, u189, u190], []⟩ wr := by
  obtain ⟨jE, hjE, hjE0, hjE1, hjE2⟩ := info_parts infoEp
  have hab := hai.ab
  have a8 := cell_heap hab (o := 8) rfl
  have lA := heap_lt hab
  have hABr : AB + 1 ≤ wr.heap.size := lA
  have hoe := hai.oe
  rw [hxs] at hoe
  have Hoe := hide hoe
  have Hab := hide hab
  have Heo := hide heo
  have Hai := hide hai
  have Hxs := hide hxs
  have HK := hide hK
  clear hoe hab heo hai hxs hK
  conv => arg 2; whnf
  refine wp_region_noPanic ?_
  go_region_law (first
    | (go_simp; go_at_call 30; refine (hcall _).mono ?_; rintro e5 w5 ⟨rfl, hk5⟩; have hkz : Kept wr w5 := (by first | exact of_drew hk5 | exact hk5); have hz5 := hkz.size; have hab5 := heap_kept hkz Hab.out; have b8 := (hkz.cell (p := ⟨AB, 8, none⟩) lA).trans a8; have lb8 := heap_lt hab5; dsimp only)
    | (refine step_append_el (T := epT) rfl (.tmp 138) (.tmp 150) 54 rfl (AB + 1) 59 jE _ 8 Tryd.underlying54 hjE hjE0 hjE1 hjE2 rfl (by exact (by decide : 0 < 5)) _ p xs (by rfl) ((Hoe.out.kept hkz).alloc _) w5.heap.size _ _ ep (by rfl) (heap_at _ rfl) (by exact ⟨rfl, Heo.out⟩) (by simp [Value.oneCell']) (by unfold maxLen; omega) (by omega) (by simp; omega) ?_; intro g9 cap9 w9 hown9 hg9 hb9 hat9 hlt9; have hab9 := heap_grown hg9 (heap_past hab5) (fun e => Hoe.out.not_at (Nat.lt_succ_self AB) e.symm); have ca9 := cell_heap hab9 (o := 8) rfl; have la9 := heap_lt hab9; have fa9 := frozen_heap hab9 (o := 8)))
  all_goals
    have hfin := (Hai.out.keep (hkz.trans' ((Below.refl _ _).alloc (Nat.le_refl _) _))).addE (es' := xs ++ [ep]) hg9 (by rw [List.length_append, Hxs.out]; exact hown9)
    exact NoPanic.normal (HK.out _ _ _ _ _ _ _ _ _ _ _ _ _ _ _ _ _ _ hfin)
end Go.Proofs.YtjgncofhobhjdaaDoor
/- Of: a vendor's descriptor is put behind a setting's. Printed by gen_yi.py. -/
namespace Go.Proofs.YtjgncofhobhjdaaDoor
open Go.RowKit
attribute [local go_sem ↓] Go.wp_at_zero Go.wp_at_succ

noncomputable def code24 : Code := (Tryd.f14.body.bind (findR 24)).getD .skip
set_option maxRecDepth 1000000 in
set_option maxHeartbeats 16000000 in
theorem xs24 {u0 u1 u2 u3 u4 u5 u6 u7 u8 u9 u11 u13 u14 u15 u16 u17 u18 u19 u20 u21 u22 u23 u24 u25 u26 u27 u28 u29 u30 u31 u32 u33 u34 u35 u36 u37 u38 u39 u40 u41 u42 u43 u44 u45 u46 u47 u48 u49 u50 u51 u52 u53 u54 u55 u56 u57 u58 u59 u60 u61 u62 u63 u64 u65 u66 u67 u68 u69 u70 u71 u72 u73 u74 u75 u76 u77 u78 u79 u80 u81 u82 u83 u84 u85 u86 u87 u88 u89 u90 u91 u92 u93 u94 u95 u96 u97 u98 u99 u100 u101 u102 u103 u104 u105 u106 u107 u108 u109 u110 u111 u112 u113 u114 u115 u116 u117 u118 u119 u120 u121 u122 u123 u124 u125 u126 u127 u128 u129 u130 u131 u132 u133 u134 u135 u136 u137 u138 u139 u140 u141 u142 u143 u144 u145 u146 u147 u148 u149 u150 u151 u152 u153 u154 u155 u156 u157 u158 u159 u160 u161 u162 u163 u164 u165 u166 u167 u168 u169 u170 u171 u172 u173 u174 u175 u176 u177 u178 u179 u180 u181 u182 u183 u184 u185 u186 u187 u188 u189 u190 : Value} {AB G n2 lex cu : Nat} {Au : Option Addr} {q0 q1 q2 q3 q4 q5 q6 q8 v : Value} {ex pc : List Int} {es : List EpD} {wj wr w0 : World} (hai : AI wj AB #[q0, q1, q2, q3, q4, q5, q6, .slice Au lex cu, q8] (.slice Au lex cu) v ex es wr) (hlex : ex.length = lex)
    (hG : wr.heap[G]? = some (.cells (pc.map (Value.int .u8)).toArray 5 (0, 0))) (hpc : pc.length = n2) (hu8 : ∀ z ∈ pc, u8k z) (hGn : ∀ g, (Value.slice Au lex cu).ownBlock = some g → g ≠ G) (hlx : lex + n2 ≤ 1000000)
    (Q : Exit → Act → World → Prop) (hK : ∀ (s122 s123 s124 s125 s126 : Value) (v' : Value) (w' : World), AI wj AB #[q0, q1, q2, q3, q4, q5, q6, v', q8] v' v (ex ++ pc) es w' → Q .normal ⟨#[u0, u1, u2, u3, u4, u5, u6, u7, u8, u9, .pointer (some ⟨AB, 0, none⟩), u11, .slice (some ⟨G, 0, none⟩) n2 n2, u13, u14, u15, u16, u17, u18, u19, u20, u21, u22, u23, u24, u25, u26, u27, u28, u29, u30, u31, u32, u33, u34, u35, u36, u37, u38, u39, u40, u41, u42, u43, u44, u45, u46, u47, u48, u49, u50, u51, u52, u53, u54, u55, u56, u57, u58, u59, u60, u61, u62, u63, u64, u65, u66, u67, u68, u69, u70, u71, u72, u73, u74, u75, u76, u77, u78, u79, u80, u81, u82, u83, u84, u85, u86, u87, u88, u89, u90, u91, u92, u93, u94, u95, u96, u97, u98, u99, u100, u101, u102, u103, u104, u105, u106, u107, u108, u109, u110, u111, u112, u113, u114, u115, u116, u117, u118, u119, u120, u121, s122, s123, s124, s125, s126, u127, u128, u129, u130, u131, u132, u133, u134, u135, u136, u137, u138, u139, u140, u141, u142, u143, u144, u145, u146, u147, u148, u149, u150, u151, u152, u153, u154, u155, u156, u157, u158, u159, u160, u161, u162, u163, u164, u165, u166, u167, u168, u169, u170, u171, u172, u173, u174, u175, u176, u177, u178, u179, u180, u181, u182, u183, u184, u185, u186, u187, u188, u189, u190], []⟩ w') :
    Code.wp Tryd.prog (headC code24) Q ⟨#[u0, u1, u2, u3, u4, u5, u6, u7, u8, u9, .pointer (some ⟨AB, 0, none⟩), u11, .slice (some ⟨G, 0, none⟩) n2 n2, u13, u14, u15, u16, u17, u18, u19, u20, u21, u22, u23, u24, u25, u26, u27, u28, u29, u30, u31, u32, u33, u34, u35, u36, u37, u38, u39, u40, u41, u42, u43, u44, u45, u46, u47, u48, u49, u50, u51, u52, u53, u54, u55, u56, u57, u58, u59, u60, u61, u62, u63, u64, u65, u66, u67, u68, u69, u70, u71, u72, u73, u74, u75, u76, u77, u78, u79, u80, u81, u82, u83, u84, u85, u86, u87, u88, u89, u90, u91, u92, u93, u94, u95, u96, u97, u98, u99, u100, u101, u102, u103, u104, u105, u106, u107, u108, u109, u110, u111, u112, u113, u114, u115, u116, u117, u118, u119, u120, u121, u122, u123, u124, u125, u126, u127, u128, u129, u130, u131, u132, u133, u134, u135, u136, u137, u138, u139, u140, u141, u142, u143, u144, u145, u146, u147, u148, u149, u150, u151, u152, u153, u154, u155, u156, u157, u158, u159, u160, u161, u162, u163, u164, u165, u166, u167, u168, u169, u170, u171, u172, u173, u174, u175, u176, u177, u178, u179, u180, u181, u182, u183, u184, u185, u186, u187, u188, u189, u190], []⟩ wr := by
  obtain ⟨j5, hj5, hj50, hj51, hj52⟩ := info_parts info5
  have hab := hai.ab
  have a7 := cell_heap hab (o := 7) rfl
  have lA := heap_lt hab
  have hABr : AB + 1 ≤ wr.heap.size := lA
  have hok := hai.ou
  rw [hlex] at hok
  have hslG : Sl u8T wr (apart wr (.slice Au lex cu)) (some ⟨G, 0, none⟩) n2 pc := by
    have h := sl_lit8 (F := apart wr (.slice Au lex cu)) hG ⟨heap_lt hG, fun e => hGn G e rfl⟩ hu8
    rw [hpc] at h
    exact h
  have Hai := hide hai
  have Hlex := hide hlex
  have Hpc := hide hpc
  have HK := hide hK
  clear hai hlex hpc hK hG hu8 hGn
  conv => arg 2; whnf
  go_wp2_with (at_builtin; refine wpList_append_sl (T := u8T) rfl (.tmp 123) (.tmp 124) 34 rfl (AB + 1) 5 j5 _ 1 Tryd.underlying34 hj5 hj50 hj51 hj52 rfl (by decide) _ lex ex (by rfl) hok (some ⟨G, 0, none⟩) n2 n2 pc (by rfl) hslG (by_one8 _ _) (by unfold maxLen; omega) (by omega) hABr ?_; intro v7 w7 hown7 hg7 hb7 hat7; obtain ⟨A7, c7, rfl, h71, h72⟩ := hown7.isSlice; have hab7 := heap_grown hg7 hab (fun e => hok.not_at (Nat.lt_succ_self AB) e.symm); have ca7 := cell_heap hab7 (o := 7) rfl; have fa7 := frozen_heap hab7 (o := 7); have la7 := heap_lt hab7)
  have hfin := Hai.out.addX (ex' := ex ++ pc) hg7 (by rw [List.length_append, Hlex.out, Hpc.out]; exact hown7)
  exact HK.out _ _ _ _ _ _ _ hfin
end Go.Proofs.YtjgncofhobhjdaaDoor
