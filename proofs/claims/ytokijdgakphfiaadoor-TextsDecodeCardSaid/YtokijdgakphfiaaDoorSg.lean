
/- The units of numbers. The list reads as numbers of 32 bits. -/
import Derived.Test.YtokijdgakphfiaaDoorChecked
import Derived.Deep.RegionHeld3
import Derived.Deep.DrawnRows
import Derived.Deep.DeepCutAuto
import Derived.Deep.LoopGhost
import Derived.Outline
import Derived.Handy
import Derived.OwnWalk
import Derived.Test.YtokijdgakphfiaaDoorSf
namespace Go.Proofs.YtokijdgakphfiaaDoor
open Go.RowKit
attribute [local go_sem ↓] Go.wp_at_zero Go.wp_at_succ

theorem wpList_append_sl {α : Type} {T : Ty α} {P : Program} {W : World} {ops : Array Oper} {rest : List Oper} {o : Oper} {a : Act} {Q : Exit → Act → World → Prop} (hgd : o.guard = none) (s x : Operand) (t : TypeId)
    (ho : o.op = .call { callee := .builtin .append, args := #[s, x], argTypes := #[t, t] })
    (base : Nat) (e : TypeId) (i : TypeInfo) (z : Value) (bytes : Nat) (ht : P.underlying t = some (.slice e)) (hi : P.info? e = some i) (hz : i.zero = some z)
    (hsize : i.size = T.size) (hby : i.bytes = bytes) (hzs : z.cells.size = T.size) (hsz : 0 < T.size)
    (v : Value) (n : Nat) (xs : List α) (hs : a.eval s = v) (hown : Own T e base W v n xs)
    (A : Option Addr) (m c : Nat) (ys : List α) (hx : a.eval x = .slice A m c) (hsl : Sl T W (apart W v) A m ys) (h1 : ∀ x cs, T.rel W (apart W v) x cs → ∀ u ∈ cs, u.oneCell' = true)
    (h63 : n + m ≤ maxLen) (hbytes : (n + m) * bytes ≤ 140737488355328) (hbase : base ≤ W.heap.size)
    (h : ∀ v' w', Own T e base w' v' (n + m) (xs ++ ys) → W.grownBy w' v.ownBlock → Below base W w' → (v'.ownBlock = v.ownBlock ∨ v'.ownBlock = some W.heap.size) → wpList P ops Q rest (a.put o.dst v') w') : wpList P ops Q (o :: rest) a W :=
  wpList_plain hgd fun _ hK => wp_append_sl s x t ho base e i z bytes ht hi hz hsize hby hzs hsz v n xs hs hown A m c ys hx hsl h1 h63 hbytes hbase fun v' w' h1 h2 h3 h4 => hK _ _ (h v' w' h1 h2 h3 h4)
theorem sl_block {W : World} {gb : Nat} {t : TypeId} {fr : Nat × Nat} {F : Nat → Prop} {us : List Nat} (h : W.heap[gb]? = some (.cells (u16C us).toArray t fr)) (hu : ∀ u ∈ us, u < 65536) (hF : F gb) : Sl u16T W F (some ⟨gb, 0, none⟩) us.length us :=
  ⟨rfl, fun i x hx => ⟨gb, 0, [.int .u16 (x : Int)], rfl, hF, ⟨rfl, hu x (List.mem_of_getElem? hx)⟩, range_cons (by
    rw [cell_of_row _ _ _ _ _ _ h]
    simp [u16C, u16T, Ty.flat, hx]) range_nil⟩⟩
theorem unitsN_take {l : List Nat} {k x : Nat} (h : l[k]? = some x) : unitsN ((l.take (k + 1)).map charN) = unitsN ((l.take k).map charN) ++ splitN (charN x) := by
  rw [map_take_succ h, unitsN_append, unitsN_cons, unitsN_nil, List.append_nil]
theorem unitsN_len (l : List Nat) : (unitsN l).length ≤ 2 * l.length := by
  induction l with
  | nil => simp [unitsN_nil]
  | cons c l ih =>
    have := splitN_len c
    rw [unitsN_cons, List.length_append, List.length_cons]; omega

set_option maxRecDepth 100000 in
set_option maxHeartbeats 1000000 in
theorem units_any (A : Option Addr) (n c : Nat) (l : List Nat) (w : World) (hn : n ≤ 1000) (hl : Sl u32T w (low w.heap.size) A n l) :
    Calls Tryd.prog 11 #[.slice A n c] w fun e w' => ∃ v m, e = .returned v ∧ Own u16T 40 w.heap.size w' v m (unitsN (l.map charN)) ∧ Kept w w' := by
  have hll := hide hl.1
  obtain ⟨i40, hi40, hz400, hz401, hz402⟩ := info_parts info40
  go_enter Tryd.func11, Tryd.ntmps11
  go_wp2_with fail
  go_loopg [3, 4] n (fun g s3 s4 wr => ∃ k : Nat, k + g = n ∧ s4 = .int .i64 k ∧ ∃ m, m ≤ 2 * k ∧ Own u16T 40 w.heap.size wr s3 m (unitsN ((l.take k).map charN)) ∧ Kept w wr)
  case atStart => exact ⟨0, by omega, rfl, 0, by omega, Own.nil _ _ _ _, Below.refl _ _⟩
  case round =>
    obtain ⟨k, hk, rfl, m, hm, hown, hkw⟩ := hrel
    have Hk := hide hk
    have hkn : k ≤ n := by omega
    clear hk
    by_cases hlt : k < n
    · obtain ⟨x, b, off, hx, rfl, hbw, hbr, hx6, e0⟩ := u32_at hl hkw hlt
      have hch := hide (char_any x wr hx6)
      have hsz := splitZ_eq (charN x)
      have hok : okN (charN x) := charN_ok x
      have hlt16 := hide (splitN_lt hok)
      obtain ⟨z, hz⟩ : ∃ z : Int, z = (x : Int) := ⟨_, rfl⟩
      obtain ⟨cz, hcz⟩ : ∃ z : Int, z = ((charN x : Nat) : Int) := ⟨_, rfl⟩
      have hcz0 : 0 ≤ cz := by omega
      have hcz1 : cz ≤ 1114111 := by unfold okN at hok; omega
      rw [← hz, ← hcz] at hch
      rw [← hz] at e0
      rw [← hcz] at hsz
      have Hsz := hide hsz
      have Hx := hide hx
      clear hx hx6 hz hcz hok hsz
      have hlt' : (k : Int) < (n : Int) := by omega
      have hk0 : (0 : Int) ≤ (k : Int) := by omega
      by_cases h1 : cz < 65536
      · have hs1 := hide (show (u16C (splitN (charN x))) = [.int .u16 cz] by
          have h2 : splitZ cz = [cz] := by unfold splitZ; rw [if_pos h1]
          rw [show u16C (splitN (charN x)) = (splitZ cz).map (Value.int .u16) by rw [Hsz.out, List.map_map]; rfl, h2]; rfl)
        have hs2 := hide (show (splitN (charN x)).length = 1 by have := congrArg List.length hs1.out; simpa [u16C] using this)
        go_wp2_with (first
          | (go_at_call 22; refine hch.out.mono ?_; rintro e w1 ⟨rfl, rfl⟩)
          | (at_builtin; refine wpList_append_sl (T := u16T) rfl (.tmp 19) (.tmp 22) 24 rfl w.heap.size 40 i40 _ 2 Tryd.underlying24 hi40 hz400 hz401 hz402 rfl (by decide) u3 m _ (by rfl) (hown.alloc _) (some ⟨w1.heap.size, 0, none⟩) 1 1 (splitN (charN x)) (by rfl) (by have h := sl_block (F := apart (w1.alloc (.cells #[.int .u16 cz] 40)) u3) (us := splitN (charN x)) (W := w1.alloc (.cells #[.int .u16 cz] 40)) (gb := w1.heap.size) (t := 40) (fr := (0, 0)) (by rw [hs1.out]; exact heap_alloc_new _ _) hlt16.out ⟨by simp, fun e => by have := (hown.lt e).2; omega⟩; rw [hs2.out] at h; exact h) (by rintro d cs ⟨rfl, _⟩ u hu; simp at hu; rw [hu]; rfl) (by unfold maxLen; omega) (by omega) (by have := hkw.size; simp only [World.size_alloc]; omega) ?_; intro v4 w4 hown4 hg4 hb4 hat4))
        go_roundg (gk - 1)
        case measure => have := Hk.out; omega
        case rel =>
          have hk4 : Kept w w4 := Below.trans (hkw.alloc hkw.size _) (hb4.mono (Nat.le_refl _))
          exact ⟨k + 1, by have := Hk.out; omega, by go_num, m + 1, by omega, by rw [unitsN_take Hx.out]; exact hown4, hk4⟩
      · have h1' : 65536 ≤ cz := by omega
        have hs1 := hide (show (u16C (splitN (charN x))) = [.int .u16 (55296 + (cz - 65536) / 1024), .int .u16 (56320 + (cz - 65536) % 1024)] by
          have h2 : splitZ cz = [55296 + (cz - 65536) / 1024, 56320 + (cz - 65536) % 1024] := by unfold splitZ; rw [if_neg h1]
          rw [show u16C (splitN (charN x)) = (splitZ cz).map (Value.int .u16) by rw [Hsz.out, List.map_map]; rfl, h2]; rfl)
        have hs2 := hide (show (splitN (charN x)).length = 2 by have := congrArg List.length hs1.out; simpa [u16C] using this)
        clear h1
        go_wp2_with (first
          | (go_at_call 22; refine hch.out.mono ?_; rintro e w1 ⟨rfl, rfl⟩)
          | (at_builtin; refine wpList_append_sl (T := u16T) rfl (.tmp 24) (.tmp 35) 24 rfl w.heap.size 40 i40 _ 2 Tryd.underlying24 hi40 hz400 hz401 hz402 rfl (by decide) u3 m _ (by rfl) (hown.alloc _) (some ⟨w1.heap.size, 0, none⟩) 2 2 (splitN (charN x)) (by rfl) (by have h := sl_block (F := apart (w1.alloc (.cells #[.int .u16 (55296 + (cz - 65536) / 1024), .int .u16 (56320 + (cz - 65536) % 1024)] 40)) u3) (us := splitN (charN x)) (W := w1.alloc (.cells #[.int .u16 (55296 + (cz - 65536) / 1024), .int .u16 (56320 + (cz - 65536) % 1024)] 40)) (gb := w1.heap.size) (t := 40) (fr := (0, 0)) (by rw [hs1.out]; exact heap_alloc_new _ _) hlt16.out ⟨by simp, fun e => by have := (hown.lt e).2; omega⟩; rw [hs2.out] at h; exact h) (by rintro d cs ⟨rfl, _⟩ u hu; simp at hu; rw [hu]; rfl) (by unfold maxLen; omega) (by omega) (by have := hkw.size; simp only [World.size_alloc]; omega) ?_; intro v4 w4 hown4 hg4 hb4 hat4))
        go_roundg (gk - 1)
        case measure => have := Hk.out; omega
        case rel =>
          have hk4 : Kept w w4 := Below.trans (hkw.alloc hkw.size _) (hb4.mono (Nat.le_refl _))
          exact ⟨k + 1, by have := Hk.out; omega, by go_num, m + 2, by omega, by rw [unitsN_take Hx.out]; exact hown4, hk4⟩
    · have hfin := hide (show unitsN ((l.take k).map charN) = unitsN (l.map charN) by rw [List.take_of_length_le (by have := hll.out; omega)])
      have hlt' : (n : Int) ≤ (k : Int) := by omega
      go_wp2_with fail
      go_ret
      exact ⟨u3, m, rfl, by rw [← hfin.out]; exact hown, hkw⟩
end Go.Proofs.YtokijdgakphfiaaDoor
