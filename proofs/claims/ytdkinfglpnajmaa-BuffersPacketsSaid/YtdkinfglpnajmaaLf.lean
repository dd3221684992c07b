

/- The walk of BuffersScatter. -/
import Derived.Test.YtdkinfglpnajmaaChecked
import Derived.Deep.RegionHeld3
import Derived.Deep.DrawnRows
import Derived.Deep.DeepCutAuto
import Derived.Deep.LoopGhost
import Derived.Outline
import Derived.Handy
import Derived.OwnWalk
import Derived.IntWalk
import Derived.Test.YtdkinfglpnajmaaLg
import Derived.Test.YtdkinfglpnajmaaLc
set_option linter.unusedVariables false
set_option linter.unusedSimpArgs false
set_option linter.unusedSectionVars false
namespace Go.Proofs.Ytdkinfglpnajmaa
open Go.RowKit
attribute [local go_sem ↓] Go.wp_at_zero Go.wp_at_succ

theorem gath_scat {l : List Pc} {m ds : List UInt8} (hnd : (places l).Nodup) (hr : ∀ a ∈ places l, 0 ≤ a ∧ a < m.length) (hl : ds.length ≤ (places l).length) : (gath (scat m (places l) ds) l).take ds.length = ds := by
  apply List.ext_getElem?
  intro i
  rw [List.getElem?_take]
  split
  · rename_i hi
    have hx : ds[i]? = some ds[i] := List.getElem?_eq_getElem hi
    have ha : (places l)[i]? = some (places l)[i] := List.getElem?_eq_getElem (by omega)
    have h := scat_at (places l) m ds i _ _ hnd hr ha hx
    unfold gath
    rw [List.getElem?_map, ha, hx]
    simp [List.getD, h]
  · rename_i hi
    rw [List.getElem?_eq_none (by omega)]
theorem bs_take {w : World} {g : Nat} {bs : List UInt8} (h : Bs w g 0 bs) (n : Nat) : Bs w g 0 (bs.take n) := ⟨h.1, fun j x hx => by
  rw [List.getElem?_take] at hx
  split at hx
  · exact h.2 j x hx
  · cases hx⟩
theorem dconv {W : World} {F : Nat → Prop} {D : Option Addr} {n c : Nat} {ds : List UInt8} (h : Sl u8T W F D n ds) : (convert 29 9 (.slice D n c)).run Try.prog W = .ok (.string ⟨ds.toArray⟩) W := by
  have hl := h.1
  cases D with
  | none =>
    have h0 : ds = [] := by
      cases ds with
      | nil => rfl
      | cons x r =>
        obtain ⟨b, off, e, _⟩ := u8_at h (j := 0) (x := x) rfl
        cases e
    subst h0
    simp only [List.length_nil] at hl
    subst hl
    exact run_convert_bytes_nil W 29 5 Try.underlying29 Try.underlying5 _ _ 9 Try.underlying9
  | some a =>
    subst hl
    refine run_convert_bytes_back (P := Try.prog) W 29 9 5 a c ds Try.underlying29 Try.underlying5 Try.underlying9 (fun j hj => ?_)
    obtain ⟨b, off, e, _, hcell⟩ := u8_at h (List.getElem?_eq_getElem hj)
    cases e
    rw [Addr.add_mid]
    exact hcell
/-- which places have come -/
def usedC (P : List Int) : List Value := (List.range 64).map fun k : Nat => .bool (decide ((k : Int) ∈ P))
theorem used_at {P : List Int} {a : Int} (h0 : 0 ≤ a) (h1 : a < 64) : (usedC P)[a.toNat]? = some (.bool (decide (a ∈ P))) := by
  unfold usedC
  rw [List.getElem?_map, List.getElem?_range (by omega)]
  simp [Int.toNat_of_nonneg h0]
theorem used_set {P : List Int} {a : Int} (h0 : 0 ≤ a) (h1 : a < 64) : (usedC P).set a.toNat (.bool true) = usedC (P ++ [a]) := by
  unfold usedC
  apply List.ext_getElem
  · simp
  · intro i h2 h3
    simp at h3
    rw [List.getElem_set]
    simp only [List.getElem_map, List.getElem_range, List.mem_append, List.mem_singleton]
    by_cases hi : a.toNat = i
    · rw [if_pos hi]
      have : (i : Int) = a := by omega
      simp [this]
    · rw [if_neg hi]
      have : (i : Int) ≠ a := by omega
      simp [this]
theorem used_nil : usedC [] = List.replicate 64 (.bool false) := by
  unfold usedC
  simp only [List.not_mem_nil, decide_false]
  rfl
theorem scat_cut {m xs : List UInt8} {ps : List Int} {n : Nat} (h : ps.length ≤ n) : scat m ps (xs.take n) = scat m ps xs := by
  have h1 := scat_split n ps m xs
  rw [List.take_of_length_le h, List.drop_eq_nil_of_le h, scat_nil] at h1
  exact h1
theorem scat_next {m xs : List UInt8} {ps : List Int} {i : Nat} {a : Int} {x : UInt8} (ha : ps[i]? = some a) (hx : xs[i]? = some x) : scat m (ps.take (i + 1)) xs = (scat m (ps.take i) xs).set a.toNat x := by
  have h := scat_snoc (m := m) ha hx
  rw [scat_cut (by rw [List.length_take]; omega), scat_cut (by rw [List.length_take]; omega)] at h
  exact h
theorem u8C_set (m : List UInt8) (i : Nat) (x : UInt8) : (u8C m).set i (.int .u8 (x.toNat : Int)) = u8C (m.set i x) := by simp [u8C, List.map_set]
theorem scat_past {m xs : List UInt8} {ps : List Int} {i : Nat} (h : xs.length ≤ i) : scat m (ps.take (i + 1)) xs = scat m (ps.take i) xs := by
  rw [scat_take ps m xs (i + 1) (by omega), scat_take ps m xs i h]
theorem nodup_next {ps : List Int} {i : Nat} {a : Int} (ha : ps[i]? = some a) : (ps.take (i + 1)).Nodup ↔ (ps.take i).Nodup ∧ a ∉ ps.take i := by
  obtain ⟨hk, e⟩ := List.getElem?_eq_some_iff.1 ha
  rw [List.take_succ_eq_append_getElem hk, e, List.nodup_append]
  constructor
  · rintro ⟨h1, _, h3⟩
    exact ⟨h1, fun h => h3 a h a (by simp) rfl⟩
  · rintro ⟨h1, h2⟩
    exact ⟨h1, by simp, fun x hx y hy e' => by
      rw [List.mem_singleton] at hy
      rw [e', hy] at hx
      exact h2 hx⟩
theorem take_next {ps : List Int} {i : Nat} {a : Int} (ha : ps[i]? = some a) : ps.take (i + 1) = ps.take i ++ [a] := by
  obtain ⟨hk, e⟩ := List.getElem?_eq_some_iff.1 ha
  rw [List.take_succ_eq_append_getElem hk, e]
set_option maxRecDepth 100000 in
set_option maxHeartbeats 4000000 in
theorem scatter_long (A D : Option Addr) (n c nd cd : Nat) (w : World) (hd : 80 < nd) (hnd : nd ≤ cd) (hcd : cd ≤ maxLen) :
    Calls Try.prog 4 #[.slice A n c, .slice D nd cd] w fun e w' => e = .returned (.bool true) ∧ Kept w w' := by
  unfold maxLen at hcd
  have hd' : (80 : Int) < (nd : Int) := by omega
  go_enter Try.func4, Try.ntmps4
  go_wp2_with (go_at_call 16; refine (lives_any _).mono ?_; rintro e w2 ⟨rfl, k2⟩)
  go_ret
  exact ⟨rfl, k2⟩
set_option maxRecDepth 100000 in
set_option maxHeartbeats 4000000 in
theorem scatter_law (A D : Option Addr) (n c nd cd : Nat) (x : List (UInt8 × UInt8)) (ds : List UInt8) (w : World) (hl : Sl ppT w (low w.heap.size) A n x) (hnc : n ≤ c) (hc : c ≤ maxLen) (hD : Sl u8T w (low w.heap.size) D nd ds) (hd : nd ≤ 80) (hnd : nd ≤ cd) (hcd : cd ≤ maxLen) :
    Calls Try.prog 4 #[.slice A n c, .slice D nd cd] w fun e w' => e = .returned (.bool true) ∧ Kept w w' := by
  have hof := x_of hl hnc hc
  have hL20 := ofL_len x
  have hok := Lib.hid (ofL_ok x)
  have hsm := Lib.hid (ofL_small x)
  have htt := Lib.hid (ofL_total x)
  have hplc := Lib.hid (show ∀ a ∈ places (ofL x), 0 ≤ a ∧ a < 64 from fun a ha => ofL_places ha)
  have hk1 := Lib.hid (ofL_chk x (size := 64) (by omega))
  have hpt := Lib.hid (places_len (ofL_ok x))
  have hpl0 := ofL_plen x
  generalize ofL x = l at *
  unfold maxLen at hcd
  have hd' : (nd : Int) ≤ 80 := by omega
  have hdl := Lib.hid hD.1
  have hd2 : decide ((80 : Int) < (nd : Int)) = false := by simp; omega
  have hd3 : decide (80 < nd) = false := by simp; omega
  go_enter Try.func4, Try.ntmps4
  go_upto_region 6 with (first
    | (go_at_call 10; refine hof.mono ?_; rintro e w1 ⟨A1, c1, rfl, s1, _, _, k1⟩)
    | (go_at_call 11; refine (x_places s1 hsm.out (by have := htt.out; omega) (by omega) rfl).mono ?_; rintro e w2 ⟨A2, c2, rfl, s2, k2⟩)
    | (go_at_call 13; refine (memory_any _).mono ?_; rintro e w3 ⟨g3, rfl, hg3, hm3, k3⟩))
  rw [mem_C] at hm3
  have kw2 := k1.trans' k2
  have hDk := fun W (hk : Kept w2 W) => hD.kept (kw2.trans' hk)
  have hg3l := heap_lt hm3
  generalize hPe : places l = P at *
  generalize hPn : P.length = Pn at *
  replace hPe := Lib.hid hPe
  replace hPn := Lib.hid hPn
  go_wp2_with fail
  go_loopg [9, 10] Pn (fun g s9 s10 wr => ∃ (i : Nat) (e : Int), i + g = Pn ∧ s10 = .int .i64 (i : Int) ∧ s9 = .int .i64 e ∧ Hid ((e = 0 ∧ (P.take i).Nodup) ∨ (e = 8 ∧ ¬ (P.take i).Nodup)) ∧ wr.heap[w3.heap.size]? = some (.cells (usedC (P.take i)).toArray 38 (0, 0)) ∧ wr.heap[g3]? = some (.cells (u8C (scat MEM (P.take i) ds)).toArray 5 (0, 0)) ∧ Kept w2 wr)
  case atStart => exact ⟨0, 0, by omega, by rfl, by rfl, Lib.hid (.inl ⟨rfl, by simp⟩), by rw [List.take_zero, used_nil]; exact heap_at _ rfl, by rw [List.take_zero, scat_nil]; exact heap_past hm3, k3.alloc k3.size _⟩
  case round =>
    obtain ⟨i, e, hi, rfl, rfl, he, hU, hG, hkw⟩ := hrel
    have hlU := heap_lt hU
    have hlG := heap_lt hG
    by_cases hlt : i < Pn
    · obtain ⟨a, b, off, hx, rfl, hbb, hbw, c0⟩ := in_at s2 hkw hlt
      obtain ⟨ha0, ha1⟩ := hplc.out a (List.mem_of_getElem? hx)
      have hi' : (i : Int) < (Pn : Int) := by omega
      have hu0 := used_at (P := P.take i) ha0 ha1
      have hus := Lib.hid (used_set (P := P.take i) ha0 ha1)
      have htk := Lib.hid (take_next hx)
      have hnd2 := Lib.hid (nodup_next hx)
      obtain ⟨a', rfl⟩ : ∃ a' : Nat, a = (a' : Int) := ⟨a.toNat, by omega⟩
      rw [Int.toNat_natCast] at hu0
      have cU : wr.cell? ⟨w3.heap.size, a', none⟩ = some (.bool (decide ((a' : Int) ∈ P.take i))) := cell_heap hU (by simpa using hu0)
      have fU : ∀ o, wr.frozen? ⟨w3.heap.size, o, none⟩ = false := fun o => frozen_heap hU
      have hne : w3.heap.size ≠ g3 := by omega
      have hU1 := heap_store (i := a') hU (.bool true)
      rw [List.setIfInBounds_toArray, show (usedC (P.take i)).set a' (.bool true) = usedC (P.take (i + 1)) by rw [htk.out, ← hus.out, Int.toNat_natCast]] at hU1
      have hG1 := heap_other (a := ⟨w3.heap.size, a', none⟩) (v := .bool true) hG hne.symm
      have hk1' : Kept w2 (wr.setCell ⟨w3.heap.size, a', none⟩ (.bool true)) := hkw.setCell (p := ⟨w3.heap.size, a', none⟩) k3.size _
      have Hx := Lib.hid hx
      obtain ⟨gg, hgg⟩ : ∃ g, g = gk := ⟨_, rfl⟩
      have Hhe := Lib.hid he.out
      have HU1 := Lib.hid hU1
      have HG1 := Lib.hid hG1
      have HG := Lib.hid hG
      have fG : ∀ o, (wr.setCell ⟨w3.heap.size, a', none⟩ (.bool true)).frozen? ⟨g3, o, none⟩ = false := fun o => frozen_heap hG1
      have cG : ∃ v, (wr.setCell ⟨w3.heap.size, a', none⟩ (.bool true)).cell? ⟨g3, a', none⟩ = some v := ⟨_, cell_heap hG1 (by
        rw [List.getElem?_toArray]
        exact List.getElem?_eq_getElem (by simp [u8C, scat_len, mem_len]; omega))⟩
      obtain ⟨vG, cG⟩ := cG
      have cG0 : wr.cell? ⟨g3, a', none⟩ = some vG := by
        rw [← cG]
        exact (World.cell?_of_block (a := ⟨g3, a', none⟩) (Below.heap_setCell wr ⟨w3.heap.size, a', none⟩ (.bool true) g3 hne.symm)).symm
      have fG0 : ∀ o, wr.frozen? ⟨g3, o, none⟩ = false := fun o => frozen_heap hG
      have ha1' : a' < 64 := by omega
      clear hU hG hU1 hG1 hx hu0 he fG cG
      by_cases hin : i < nd
      · obtain ⟨xd, hxd⟩ : ∃ xd, ds[i]? = some xd := ⟨_, List.getElem?_eq_getElem (by have := hdl.out; omega)⟩
        obtain ⟨b2, off2, rfl, hb2, cD⟩ := u8_at (hDk wr hkw) hxd
        have hin' : (i : Int) < (nd : Int) := by omega
        have hsn := Lib.hid (scat_next (m := MEM) Hx.out hxd)
        rw [Int.toNat_natCast] at hsn
        have hb2' : b2 < wr.heap.size := hb2
        have hb2n : b2 ≠ w3.heap.size := by
          intro e'
          have h1 : w.heap.size ≤ w3.heap.size := by have := kw2.size; have := k3.size; omega
          obtain ⟨b3, off3, h3, hb3, _⟩ := u8_at hD hxd
          cases h3
          have : b2 < w.heap.size := hb3
          omega
        clear hxd
        have hG2 := Lib.hid (show ((wr.setCell ⟨w3.heap.size, a', none⟩ (.bool true)).setCell ⟨g3, a', none⟩ (.int .u8 (xd.toNat : Int))).drew.heap[g3]? = some (.cells (u8C (scat MEM (P.take (i + 1)) ds)).toArray 5 (0, 0)) from by
          have h := heap_store (i := a') HG1.out (.int .u8 (xd.toNat : Int))
          rw [List.setIfInBounds_toArray, u8C_set, ← hsn.out] at h
          exact h)
        have hU2 := Lib.hid (show ((wr.setCell ⟨w3.heap.size, a', none⟩ (.bool true)).setCell ⟨g3, a', none⟩ (.int .u8 (xd.toNat : Int))).drew.heap[w3.heap.size]? = some (.cells (usedC (P.take (i + 1))).toArray 38 (0, 0)) from heap_other (a := ⟨g3, a', none⟩) (v := .int .u8 (xd.toNat : Int)) HU1.out hne)
        have hK2 : Kept w2 ((wr.setCell ⟨w3.heap.size, a', none⟩ (.bool true)).setCell ⟨g3, a', none⟩ (.int .u8 (xd.toNat : Int))).drew := (hk1'.setCell (p := ⟨g3, a', none⟩) hg3 _).drew
        by_cases hdup : (a' : Int) ∈ P.take i
        · rw [decide_eq_true hdup] at cU
          have hfin := Lib.hid (show ¬ (P.take (i + 1)).Nodup from fun h => ((hnd2.out).1 h).2 hdup)
          clear hdup
          go_wp2_with fail
          go_region
          go_wp2_with fail
          go_roundg (gk - 1)
          case measure => omega
          case rel => exact ⟨i + 1, 8, by omega, by go_num, by rfl, Lib.hid (.inr ⟨rfl, hfin.out⟩), hU2.out, hG2.out, hK2⟩
        · rw [decide_eq_false hdup] at cU
          have hfin := Lib.hid (show (e = 0 ∧ (P.take (i + 1)).Nodup) ∨ (e = 8 ∧ ¬ (P.take (i + 1)).Nodup) from by
            rcases Hhe.out with ⟨h1, h2⟩ | ⟨h1, h2⟩
            · exact .inl ⟨h1, hnd2.out.2 ⟨h2, hdup⟩⟩
            · exact .inr ⟨h1, fun h => h2 (hnd2.out.1 h).1⟩)
          clear hdup
          go_wp2_with fail
          go_region
          go_wp2_with fail
          go_roundg (gk - 1)
          case measure => omega
          case rel => exact ⟨i + 1, e, by omega, by go_num, by rfl, hfin, hU2.out, hG2.out, hK2⟩
      · have hin' : (nd : Int) ≤ (i : Int) := by omega
        have hG2 := Lib.hid (show (wr.setCell ⟨w3.heap.size, a', none⟩ (.bool true)).heap[g3]? = some (.cells (u8C (scat MEM (P.take (i + 1)) ds)).toArray 5 (0, 0)) from by
          rw [scat_past (by have := hdl.out; omega)]
          exact HG1.out)
        by_cases hdup : (a' : Int) ∈ P.take i
        · rw [decide_eq_true hdup] at cU
          have hfin := Lib.hid (show ¬ (P.take (i + 1)).Nodup from fun h => ((hnd2.out).1 h).2 hdup)
          clear hdup
          go_wp2_with fail
          go_roundg (gk - 1)
          case measure => omega
          case rel => exact ⟨i + 1, 8, by omega, by go_num, by rfl, Lib.hid (.inr ⟨rfl, hfin.out⟩), HU1.out, hG2.out, hk1'⟩
        · rw [decide_eq_false hdup] at cU
          have hfin := Lib.hid (show (e = 0 ∧ (P.take (i + 1)).Nodup) ∨ (e = 8 ∧ ¬ (P.take (i + 1)).Nodup) from by
            rcases Hhe.out with ⟨h1, h2⟩ | ⟨h1, h2⟩
            · exact .inl ⟨h1, hnd2.out.2 ⟨h2, hdup⟩⟩
            · exact .inr ⟨h1, fun h => h2 (hnd2.out.1 h).1⟩)
          clear hdup
          go_wp2_with fail
          go_roundg (gk - 1)
          case measure => omega
          case rel => exact ⟨i + 1, e, by omega, by go_num, by rfl, hfin, HU1.out, hG2.out, hk1'⟩
    · have hip : P.take i = P := List.take_of_length_le (by have := hPn.out; omega)
      have hi' : (Pn : Int) ≤ (i : Int) := by omega
      rw [hip] at he hG
      have bsW := heap_bs hG
      have sL := (s1.kept k2).kept hkw
      have sD := hDk wr hkw
      clear hU hG hlU hlG hip s2 hof hm3
      rcases he.out with ⟨rfl, hnd'⟩ | ⟨rfl, hnd'⟩
      · by_cases hlen : Pn < nd
        · have hlen' : (Pn : Int) < (nd : Int) := by omega
          have hsc := fun W g (hW : Kept wr W) => scat_width (some ⟨g, 0, none⟩) A1 D 64 64 l.length c1 nd cd l W (sL.kept hW) (by omega) hk1.out (by rw [hPe.out]; exact hnd') (by have := hpt.out; have := hPn.out; omega)
          clear he hnd'
          go_upto_region 20 with (first
            | (go_at_call 13; refine (x_memory _).mono ?_; rintro ex w4 ⟨g4, rfl, _, bs4, k4⟩)
            | (go_at_call 17; refine (hsc _ g4 k4).mono ?_; rintro ex w5 ⟨rfl, k5⟩))
          have bs5 := bs4.kept k5
          have cv5 := x_conv (n := 64) (c := 64) bs5 mem_len
          refine wp_region_held_drew (S := fun w' => (convert 29 9 (.slice (some ⟨g4, 0, none⟩) 64 64)).run Try.prog w' = .ok (.string ⟨MEM.toArray⟩) w' ∧ Kept w5 w') (by kernel_rfl) ⟨x_conv (bs5.kept ((Below.refl _ w5).drew)) mem_len, (Below.refl _ w5).drew⟩ (fun hS => ?_)
          refine wpAnyH_take (i := 0) (v := ?_) rfl (by kernel_rfl) (by kernel_rfl) (by kernel_rfl) (fun _ _ _ h => h) (Or.inl ⟨by kernel_rfl, ?_⟩) hS ?_
          rotate_left
          · intro w' hS'
            have hq := hS'.1
            have hq2 := hS'.2
            clear hS'
            first | (go_simp; done) | (go_simp; with_reducible rfl)
          try simp only [Act.put, List.getElem_toArray, List.getElem_cons_zero, List.getElem_cons_succ, List.setIfInBounds_toArray, List.set_cons_zero, List.set_cons_succ]
          refine wpAnyH_take (i := 1) (v := ?_) rfl (by kernel_rfl) (by kernel_rfl) (by kernel_rfl) (fun _ _ _ h => h) (Or.inl ⟨by kernel_rfl, ?_⟩) hS ?_
          rotate_left
          · intro w' hS'
            have hq := hS'.1
            have hq2 := hS'.2
            clear hS'
            first | (go_simp; done) | (go_simp; with_reducible rfl)
          try simp only [Act.put, List.getElem_toArray, List.getElem_cons_zero, List.getElem_cons_succ, List.setIfInBounds_toArray, List.set_cons_zero, List.set_cons_succ]
          refine wpAnyH_take (i := 2) (v := ?_) rfl (by kernel_rfl) (by kernel_rfl) (by kernel_rfl) (fun _ _ _ h => h) (Or.inl ⟨by kernel_rfl, ?_⟩) hS ?_
          rotate_left
          · intro w' hS'
            have hq := hS'.1
            have hq2 := hS'.2
            clear hS'
            first | (go_simp; done) | (go_simp; with_reducible rfl)
          try simp only [Act.put, List.getElem_toArray, List.getElem_cons_zero, List.getElem_cons_succ, List.setIfInBounds_toArray, List.set_cons_zero, List.set_cons_succ]
          refine wpAnyH_take (i := 3) (v := ?_) rfl (by kernel_rfl) (by kernel_rfl) (by kernel_rfl) (fun _ _ _ h => h) (Or.inl ⟨by kernel_rfl, ?_⟩) hS ?_
          rotate_left
          · intro w' hS'
            have hq := hS'.1
            have hq2 := hS'.2
            clear hS'
            first | (go_simp; done) | (go_simp; with_reducible rfl)
          try simp only [Act.put, List.getElem_toArray, List.getElem_cons_zero, List.getElem_cons_succ, List.setIfInBounds_toArray, List.set_cons_zero, List.set_cons_succ]
          refine wpAnyH_take (i := 4) (v := ?_) rfl (by kernel_rfl) (by kernel_rfl) (by kernel_rfl) (fun _ _ _ h => h) (Or.inl ⟨by kernel_rfl, ?_⟩) hS ?_
          rotate_left
          · intro w' hS'
            have hq := hS'.1
            have hq2 := hS'.2
            clear hS'
            first | (go_simp; done) | (go_simp; with_reducible rfl)
          try simp only [Act.put, List.getElem_toArray, List.getElem_cons_zero, List.getElem_cons_succ, List.setIfInBounds_toArray, List.set_cons_zero, List.set_cons_succ]
          refine wpAnyH_take (i := 5) (v := ?_) rfl (by kernel_rfl) (by kernel_rfl) (by kernel_rfl) (fun _ _ _ h => h) (Or.inl ⟨by kernel_rfl, ?_⟩) hS ?_
          rotate_left
          · intro w' hS'
            have hq := hS'.1
            have hq2 := hS'.2
            clear hS'
            first | (go_simp; done) | (go_simp; with_reducible rfl)
          try simp only [Act.put, List.getElem_toArray, List.getElem_cons_zero, List.getElem_cons_succ, List.setIfInBounds_toArray, List.set_cons_zero, List.set_cons_succ]
          refine wpAnyH_ready (rs := [6]) (by kernel_rfl) (by simp) ?_
          refine AllReadyH.cons rfl (fun K hK => ?_) AllReadyH.nil
          go_simp
          go_at_call 13
          refine (x_memory _).mono ?_
          rintro ex w6 ⟨g6, rfl, _, bs6, k6⟩
          try dsimp only
          refine hK.out _ _ ?_ (fun hS => ?_)
          · exact ⟨x_conv (bs5.kept (hS.2.trans' k6)) mem_len, hS.2.trans' k6⟩
          clear hK K
          try simp only [Act.put, List.getElem_toArray, List.getElem_cons_zero, List.getElem_cons_succ, List.setIfInBounds_toArray, List.set_cons_zero, List.set_cons_succ]
          have cv6 := x_conv (n := 64) (c := 64) bs6 mem_len
          refine wpAnyH_ready (rs := [7]) (by kernel_rfl) (by simp) ?_
          refine AllReadyH.cons rfl (fun K hK => ?_) AllReadyH.nil
          go_simp
          refine hK.out _ _ ?_ (fun hS => ?_)
          · exact hS
          clear hK K
          try simp only [Act.put, List.getElem_toArray, List.getElem_cons_zero, List.getElem_cons_succ, List.setIfInBounds_toArray, List.set_cons_zero, List.set_cons_succ]
          refine wpAnyH_take (i := 8) (v := ?_) rfl (by kernel_rfl) (by kernel_rfl) (by kernel_rfl) (fun _ _ _ h => h) (Or.inl ⟨by kernel_rfl, ?_⟩) hS ?_
          rotate_left
          · intro w' hS'
            have hq := hS'.1
            have hq2 := hS'.2
            clear hS'
            first | (go_simp; done) | (go_simp; with_reducible rfl)
          try simp only [Act.put, List.getElem_toArray, List.getElem_cons_zero, List.getElem_cons_succ, List.setIfInBounds_toArray, List.set_cons_zero, List.set_cons_succ]
          refine wpAnyH_take (i := 9) (v := ?_) rfl (by kernel_rfl) (by kernel_rfl) (by kernel_rfl) (fun _ _ _ h => h) (Or.inl ⟨by kernel_rfl, ?_⟩) hS ?_
          rotate_left
          · intro w' hS'
            have hq := hS'.1
            have hq2 := hS'.2
            clear hS'
            first | (go_simp; done) | (go_simp; with_reducible rfl)
          try simp only [Act.put, List.getElem_toArray, List.getElem_cons_zero, List.getElem_cons_succ, List.setIfInBounds_toArray, List.set_cons_zero, List.set_cons_succ]
          refine wpAnyH_done (by kernel_rfl) ?_ _
          go_wp2_with (go_at_call 16; refine (lives_any _).mono ?_; rintro ex w7 ⟨rfl, k7⟩)
          go_ret
          exact ⟨rfl, kw2.trans' (((hkw.trans' k4).trans' k5).trans' (hS.2.trans' k7))⟩
        · have hlen' : (nd : Int) ≤ (Pn : Int) := by omega
          have hsc := fun W g (hW : Kept wr W) (hg : Bs W g 0 MEM) => scat_ok g MEM A1 D 64 64 l.length c1 nd cd ds l W (sL.kept hW) hg mem_len (by omega) hk1.out (by rw [hPe.out]; exact hnd') (sD.kept hW) hnd (by have := hpt.out; have := hPn.out; omega)
          rw [hPe.out] at hsc
          have hSl := Lib.hid (show (scat MEM P ds).length = 64 by rw [scat_len]; exact mem_len)
          have hgs := Lib.hid (show (gath (scat MEM P ds) l).take nd = ds by
            have h := gath_scat (l := l) (m := MEM) (ds := ds) (by rw [hPe.out]; exact hnd') (by rw [hPe.out, mem_len]; exact hplc.out) (by rw [hPe.out, hdl.out, hPn.out]; omega)
            rw [hPe.out, hdl.out] at h
            exact h)
          have hgl := Lib.hid (show (gath (scat MEM P ds) l).length = Pn by unfold gath; rw [List.length_map, hPe.out, hPn.out])
          clear he hnd'
          generalize scat MEM P ds = S at *
          go_upto_region 20 with (first
            | (go_at_call 13; refine (x_memory _).mono ?_; rintro ex w4 ⟨g4, rfl, _, bs4, k4⟩)
            | (go_at_call 17; refine (hsc _ g4 k4 bs4).mono ?_; rintro ex w5 ⟨gS, rfl, _, _, hS5, k5⟩))
          have bs5 := bs4.kept k5
          have cv5 := x_conv (n := 64) (c := 64) bs5 mem_len
          have bsS := heap_bs hS5
          refine wp_region_held_drew (S := fun w' => (convert 29 9 (.slice (some ⟨g4, 0, none⟩) 64 64)).run Try.prog w' = .ok (.string ⟨MEM.toArray⟩) w' ∧ Kept w5 w') (by kernel_rfl) ⟨x_conv (bs5.kept ((Below.refl _ w5).drew)) mem_len, (Below.refl _ w5).drew⟩ (fun hS => ?_)
          refine wpAnyH_take (i := 0) (v := ?_) rfl (by kernel_rfl) (by kernel_rfl) (by kernel_rfl) (fun _ _ _ h => h) (Or.inl ⟨by kernel_rfl, ?_⟩) hS ?_
          rotate_left
          · intro w' hS'
            have hq := hS'.1
            have hq2 := hS'.2
            clear hS'
            first | (go_simp; done) | (go_simp; with_reducible rfl)
          try simp only [Act.put, List.getElem_toArray, List.getElem_cons_zero, List.getElem_cons_succ, List.setIfInBounds_toArray, List.set_cons_zero, List.set_cons_succ]
          refine wpAnyH_take (i := 1) (v := ?_) rfl (by kernel_rfl) (by kernel_rfl) (by kernel_rfl) (fun _ _ _ h => h) (Or.inl ⟨by kernel_rfl, ?_⟩) hS ?_
          rotate_left
          · intro w' hS'
            have hq := hS'.1
            have hq2 := hS'.2
            clear hS'
            first | (go_simp; done) | (go_simp; with_reducible rfl)
          try simp only [Act.put, List.getElem_toArray, List.getElem_cons_zero, List.getElem_cons_succ, List.setIfInBounds_toArray, List.set_cons_zero, List.set_cons_succ]
          refine wpAnyH_take (i := 2) (v := ?_) rfl (by kernel_rfl) (by kernel_rfl) (by kernel_rfl) (fun _ _ _ h => h) (Or.inl ⟨by kernel_rfl, ?_⟩) hS ?_
          rotate_left
          · intro w' hS'
            have hq := hS'.1
            have hq2 := hS'.2
            clear hS'
            first | (go_simp; done) | (go_simp; with_reducible rfl)
          try simp only [Act.put, List.getElem_toArray, List.getElem_cons_zero, List.getElem_cons_succ, List.setIfInBounds_toArray, List.set_cons_zero, List.set_cons_succ]
          refine wpAnyH_take (i := 3) (v := ?_) rfl (by kernel_rfl) (by kernel_rfl) (by kernel_rfl) (fun _ _ _ h => h) (Or.inl ⟨by kernel_rfl, ?_⟩) hS ?_
          rotate_left
          · intro w' hS'
            have hq := hS'.1
            have hq2 := hS'.2
            clear hS'
            first | (go_simp; done) | (go_simp; with_reducible rfl)
          try simp only [Act.put, List.getElem_toArray, List.getElem_cons_zero, List.getElem_cons_succ, List.setIfInBounds_toArray, List.set_cons_zero, List.set_cons_succ]
          refine wpAnyH_take (i := 4) (v := ?_) rfl (by kernel_rfl) (by kernel_rfl) (by kernel_rfl) (fun _ _ _ h => h) (Or.inl ⟨by kernel_rfl, ?_⟩) hS ?_
          rotate_left
          · intro w' hS'
            have hq := hS'.1
            have hq2 := hS'.2
            clear hS'
            first | (go_simp; done) | (go_simp; with_reducible rfl)
          try simp only [Act.put, List.getElem_toArray, List.getElem_cons_zero, List.getElem_cons_succ, List.setIfInBounds_toArray, List.set_cons_zero, List.set_cons_succ]
          refine wpAnyH_take (i := 5) (v := ?_) rfl (by kernel_rfl) (by kernel_rfl) (by kernel_rfl) (fun _ _ _ h => h) (Or.inl ⟨by kernel_rfl, ?_⟩) hS ?_
          rotate_left
          · intro w' hS'
            have hq := hS'.1
            have hq2 := hS'.2
            clear hS'
            first | (go_simp; done) | (go_simp; with_reducible rfl)
          try simp only [Act.put, List.getElem_toArray, List.getElem_cons_zero, List.getElem_cons_succ, List.setIfInBounds_toArray, List.set_cons_zero, List.set_cons_succ]
          refine wpAnyH_ready (rs := [6]) (by kernel_rfl) (by simp) ?_
          refine AllReadyH.cons rfl (fun K hK => ?_) AllReadyH.nil
          go_simp
          go_at_call 13
          refine (x_memory _).mono ?_
          rintro ex w6 ⟨g6, rfl, _, bs6, k6⟩
          try dsimp only
          refine hK.out _ _ ?_ (fun hS => ?_)
          · exact ⟨x_conv (bs5.kept (hS.2.trans' k6)) mem_len, hS.2.trans' k6⟩
          clear hK K
          try simp only [Act.put, List.getElem_toArray, List.getElem_cons_zero, List.getElem_cons_succ, List.setIfInBounds_toArray, List.set_cons_zero, List.set_cons_succ]
          have cv6 := x_conv (n := 64) (c := 64) bs6 mem_len
          refine wpAnyH_ready (rs := [7]) (by kernel_rfl) (by simp) ?_
          refine AllReadyH.cons rfl (fun K hK => ?_) AllReadyH.nil
          go_simp
          refine hK.out _ _ ?_ (fun hS => ?_)
          · exact hS
          clear hK K
          try simp only [Act.put, List.getElem_toArray, List.getElem_cons_zero, List.getElem_cons_succ, List.setIfInBounds_toArray, List.set_cons_zero, List.set_cons_succ]
          refine wpAnyH_take (i := 8) (v := ?_) rfl (by kernel_rfl) (by kernel_rfl) (by kernel_rfl) (fun _ _ _ h => h) (Or.inl ⟨by kernel_rfl, ?_⟩) hS ?_
          rotate_left
          · intro w' hS'
            have hq := hS'.1
            have hq2 := hS'.2
            clear hS'
            first | (go_simp; done) | (go_simp; with_reducible rfl)
          try simp only [Act.put, List.getElem_toArray, List.getElem_cons_zero, List.getElem_cons_succ, List.setIfInBounds_toArray, List.set_cons_zero, List.set_cons_succ]
          refine wpAnyH_take (i := 9) (v := ?_) rfl (by kernel_rfl) (by kernel_rfl) (by kernel_rfl) (fun _ _ _ h => h) (Or.inl ⟨by kernel_rfl, ?_⟩) hS ?_
          rotate_left
          · intro w' hS'
            have hq := hS'.1
            have hq2 := hS'.2
            clear hS'
            first | (go_simp; done) | (go_simp; with_reducible rfl)
          try simp only [Act.put, List.getElem_toArray, List.getElem_cons_zero, List.getElem_cons_succ, List.setIfInBounds_toArray, List.set_cons_zero, List.set_cons_succ]
          refine wpAnyH_done (by kernel_rfl) ?_ _
          have k06 : Kept wr w6 := (k4.trans' k5).trans' hS.2
          have bsS6 := bsS.kept hS.2
          have hga := gather_ok gS S A1 64 64 l.length c1 l w6 (sL.kept k06) bsS6 hSl.out (by omega) (Nat.le_refl _) (by unfold maxLen; omega) hk1.out
          rw [hgl.out] at hga
          clear hS cv5 cv6
          go_upto_region 25 with (go_at_call 12; refine hga.mono ?_; rintro ex w8 ⟨g8, rfl, _, bs8, k8⟩)
          have bsT := bs_take bs8 nd
          rw [hgs.out] at bsT
          have sD8 := sD.kept (k06.trans' k8)
          have bsS8 := bsS6.kept k8
          have bsW8 := bsW.kept (k06.trans' k8)
          have hmk : ∀ w', Kept w8 w' → ((convert 29 9 (.slice (some ⟨gS, 0, none⟩) 64 64)).run Try.prog w' = .ok (.string ⟨S.toArray⟩) w' ∧ (convert 29 9 (.slice (some ⟨g3, 0, none⟩) 64 64)).run Try.prog w' = .ok (.string ⟨S.toArray⟩) w' ∧ (convert 29 9 (.slice (some ⟨g8, 0, none⟩) nd Pn)).run Try.prog w' = .ok (.string ⟨ds.toArray⟩) w' ∧ (convert 29 9 (.slice D nd cd)).run Try.prog w' = .ok (.string ⟨ds.toArray⟩) w') ∧ Kept w8 w' := fun w' hk =>
            ⟨⟨x_conv (bsS8.kept hk) hSl.out, x_conv (bsW8.kept hk) hSl.out, x_conv (bsT.kept hk) hdl.out, dconv (sD8.kept hk)⟩, hk⟩
          have Hmk := Lib.hid hmk
          clear hmk
          refine wp_region_held_drew (S := fun w' => ((convert 29 9 (.slice (some ⟨gS, 0, none⟩) 64 64)).run Try.prog w' = .ok (.string ⟨S.toArray⟩) w' ∧ (convert 29 9 (.slice (some ⟨g3, 0, none⟩) 64 64)).run Try.prog w' = .ok (.string ⟨S.toArray⟩) w' ∧ (convert 29 9 (.slice (some ⟨g8, 0, none⟩) nd Pn)).run Try.prog w' = .ok (.string ⟨ds.toArray⟩) w' ∧ (convert 29 9 (.slice D nd cd)).run Try.prog w' = .ok (.string ⟨ds.toArray⟩) w') ∧ Kept w8 w') (by kernel_rfl) (Hmk.out _ ((Below.refl _ w8).drew)) (fun hS => ?_)
          refine wpAnyH_take (i := 0) (v := ?_) rfl (by kernel_rfl) (by kernel_rfl) (by kernel_rfl) (fun _ _ _ h => h) (Or.inl ⟨by kernel_rfl, ?_⟩) hS ?_
          rotate_left
          · intro w' hS'
            have hq := hS'.1
            have hq2 := hS'.2
            clear hS'
            first | (go_simp; done) | (go_simp; with_reducible rfl)
          try simp only [Act.put, List.getElem_toArray, List.getElem_cons_zero, List.getElem_cons_succ, List.setIfInBounds_toArray, List.set_cons_zero, List.set_cons_succ]
          refine wpAnyH_take (i := 1) (v := ?_) rfl (by kernel_rfl) (by kernel_rfl) (by kernel_rfl) (fun _ _ _ h => h) (Or.inl ⟨by kernel_rfl, ?_⟩) hS ?_
          rotate_left
          · intro w' hS'
            have hq := hS'.1
            have hq2 := hS'.2
            clear hS'
            first | (go_simp; done) | (go_simp; with_reducible rfl)
          try simp only [Act.put, List.getElem_toArray, List.getElem_cons_zero, List.getElem_cons_succ, List.setIfInBounds_toArray, List.set_cons_zero, List.set_cons_succ]
          refine wpAnyH_take (i := 2) (v := ?_) rfl (by kernel_rfl) (by kernel_rfl) (by kernel_rfl) (fun _ _ _ h => h) (Or.inl ⟨by kernel_rfl, ?_⟩) hS ?_
          rotate_left
          · intro w' hS'
            have hq := hS'.1
            have hq2 := hS'.2
            clear hS'
            first | (go_simp; done) | (go_simp; with_reducible rfl)
          try simp only [Act.put, List.getElem_toArray, List.getElem_cons_zero, List.getElem_cons_succ, List.setIfInBounds_toArray, List.set_cons_zero, List.set_cons_succ]
          refine wpAnyH_take (i := 3) (v := ?_) rfl (by kernel_rfl) (by kernel_rfl) (by kernel_rfl) (fun _ _ _ h => h) (Or.inl ⟨by kernel_rfl, ?_⟩) hS ?_
          rotate_left
          · intro w' hS'
            have hq := hS'.1
            have hq2 := hS'.2
            clear hS'
            first | (go_simp; done) | (go_simp; with_reducible rfl)
          try simp only [Act.put, List.getElem_toArray, List.getElem_cons_zero, List.getElem_cons_succ, List.setIfInBounds_toArray, List.set_cons_zero, List.set_cons_succ]
          refine wpAnyH_take (i := 4) (v := ?_) rfl (by kernel_rfl) (by kernel_rfl) (by kernel_rfl) (fun _ _ _ h => h) (Or.inl ⟨by kernel_rfl, ?_⟩) hS ?_
          rotate_left
          · intro w' hS'
            have hq := hS'.1
            have hq2 := hS'.2
            clear hS'
            first | (go_simp; done) | (go_simp; with_reducible rfl)
          try simp only [Act.put, List.getElem_toArray, List.getElem_cons_zero, List.getElem_cons_succ, List.setIfInBounds_toArray, List.set_cons_zero, List.set_cons_succ]
          refine wpAnyH_take (i := 5) (v := ?_) rfl (by kernel_rfl) (by kernel_rfl) (by kernel_rfl) (fun _ _ _ h => h) (Or.inl ⟨by kernel_rfl, ?_⟩) hS ?_
          rotate_left
          · intro w' hS'
            have hq := hS'.1
            have hq2 := hS'.2
            clear hS'
            first | (go_simp; done) | (go_simp; with_reducible rfl)
          try simp only [Act.put, List.getElem_toArray, List.getElem_cons_zero, List.getElem_cons_succ, List.setIfInBounds_toArray, List.set_cons_zero, List.set_cons_succ]
          refine wpAnyH_take (i := 6) (v := ?_) rfl (by kernel_rfl) (by kernel_rfl) (by kernel_rfl) (fun _ _ _ h => h) (Or.inl ⟨by kernel_rfl, ?_⟩) hS ?_
          rotate_left
          · intro w' hS'
            have hq := hS'.1
            have hq2 := hS'.2
            clear hS'
            first | (go_simp; done) | (go_simp; with_reducible rfl)
          try simp only [Act.put, List.getElem_toArray, List.getElem_cons_zero, List.getElem_cons_succ, List.setIfInBounds_toArray, List.set_cons_zero, List.set_cons_succ]
          refine wpAnyH_take (i := 7) (v := ?_) rfl (by kernel_rfl) (by kernel_rfl) (by kernel_rfl) (fun _ _ _ h => h) (Or.inl ⟨by kernel_rfl, ?_⟩) hS ?_
          rotate_left
          · intro w' hS'
            have hq := hS'.1
            have hq2 := hS'.2
            clear hS'
            first | (go_simp; done) | (go_simp; with_reducible rfl)
          try simp only [Act.put, List.getElem_toArray, List.getElem_cons_zero, List.getElem_cons_succ, List.setIfInBounds_toArray, List.set_cons_zero, List.set_cons_succ]
          refine wpAnyH_take (i := 8) (v := ?_) rfl (by kernel_rfl) (by kernel_rfl) (by kernel_rfl) (fun _ _ _ h => h) (Or.inl ⟨by kernel_rfl, ?_⟩) hS ?_
          rotate_left
          · intro w' hS'
            have hq := hS'.1
            have hq2 := hS'.2
            clear hS'
            first | (go_simp; done) | (go_simp; with_reducible rfl)
          try simp only [Act.put, List.getElem_toArray, List.getElem_cons_zero, List.getElem_cons_succ, List.setIfInBounds_toArray, List.set_cons_zero, List.set_cons_succ]
          refine wpAnyH_take (i := 9) (v := ?_) rfl (by kernel_rfl) (by kernel_rfl) (by kernel_rfl) (fun _ _ _ h => h) (Or.inl ⟨by kernel_rfl, ?_⟩) hS ?_
          rotate_left
          · intro w' hS'
            have hq := hS'.1
            have hq2 := hS'.2
            clear hS'
            first | (go_simp; done) | (go_simp; with_reducible rfl)
          try simp only [Act.put, List.getElem_toArray, List.getElem_cons_zero, List.getElem_cons_succ, List.setIfInBounds_toArray, List.set_cons_zero, List.set_cons_succ]
          refine wpAnyH_take (i := 10) (v := ?_) rfl (by kernel_rfl) (by kernel_rfl) (by kernel_rfl) (fun _ _ _ h => h) (Or.inl ⟨by kernel_rfl, ?_⟩) hS ?_
          rotate_left
          · intro w' hS'
            have hq := hS'.1
            have hq2 := hS'.2
            clear hS'
            first | (go_simp; done) | (go_simp; with_reducible rfl)
          try simp only [Act.put, List.getElem_toArray, List.getElem_cons_zero, List.getElem_cons_succ, List.setIfInBounds_toArray, List.set_cons_zero, List.set_cons_succ]
          refine wpAnyH_take (i := 11) (v := ?_) rfl (by kernel_rfl) (by kernel_rfl) (by kernel_rfl) (fun _ _ _ h => h) (Or.inl ⟨by kernel_rfl, ?_⟩) hS ?_
          rotate_left
          · intro w' hS'
            have hq := hS'.1
            have hq2 := hS'.2
            clear hS'
            first | (go_simp; done) | (go_simp; with_reducible rfl)
          try simp only [Act.put, List.getElem_toArray, List.getElem_cons_zero, List.getElem_cons_succ, List.setIfInBounds_toArray, List.set_cons_zero, List.set_cons_succ]
          refine wpAnyH_take (i := 12) (v := ?_) rfl (by kernel_rfl) (by kernel_rfl) (by kernel_rfl) (fun _ _ _ h => h) (Or.inl ⟨by kernel_rfl, ?_⟩) hS ?_
          rotate_left
          · intro w' hS'
            have hq := hS'.1
            have hq2 := hS'.2
            clear hS'
            first | (go_simp; done) | (go_simp; with_reducible rfl)
          try simp only [Act.put, List.getElem_toArray, List.getElem_cons_zero, List.getElem_cons_succ, List.setIfInBounds_toArray, List.set_cons_zero, List.set_cons_succ]
          refine wpAnyH_take (i := 13) (v := ?_) rfl (by kernel_rfl) (by kernel_rfl) (by kernel_rfl) (fun _ _ _ h => h) (Or.inl ⟨by kernel_rfl, ?_⟩) hS ?_
          rotate_left
          · intro w' hS'
            have hq := hS'.1
            have hq2 := hS'.2
            clear hS'
            first | (go_simp; done) | (go_simp; with_reducible rfl)
          try simp only [Act.put, List.getElem_toArray, List.getElem_cons_zero, List.getElem_cons_succ, List.setIfInBounds_toArray, List.set_cons_zero, List.set_cons_succ]
          refine wpAnyH_take (i := 14) (v := ?_) rfl (by kernel_rfl) (by kernel_rfl) (by kernel_rfl) (fun _ _ _ h => h) (Or.inl ⟨by kernel_rfl, ?_⟩) hS ?_
          rotate_left
          · intro w' hS'
            have hq := hS'.1
            have hq2 := hS'.2
            clear hS'
            first | (go_simp; done) | (go_simp; with_reducible rfl)
          try simp only [Act.put, List.getElem_toArray, List.getElem_cons_zero, List.getElem_cons_succ, List.setIfInBounds_toArray, List.set_cons_zero, List.set_cons_succ]
          refine wpAnyH_take (i := 15) (v := ?_) rfl (by kernel_rfl) (by kernel_rfl) (by kernel_rfl) (fun _ _ _ h => h) (Or.inl ⟨by kernel_rfl, ?_⟩) hS ?_
          rotate_left
          · intro w' hS'
            have hq := hS'.1
            have hq2 := hS'.2
            clear hS'
            first | (go_simp; done) | (go_simp; with_reducible rfl)
          try simp only [Act.put, List.getElem_toArray, List.getElem_cons_zero, List.getElem_cons_succ, List.setIfInBounds_toArray, List.set_cons_zero, List.set_cons_succ]
          refine wpAnyH_take (i := 16) (v := ?_) rfl (by kernel_rfl) (by kernel_rfl) (by kernel_rfl) (fun _ _ _ h => h) (Or.inl ⟨by kernel_rfl, ?_⟩) hS ?_
          rotate_left
          · intro w' hS'
            have hq := hS'.1
            have hq2 := hS'.2
            clear hS'
            first | (go_simp; done) | (go_simp; with_reducible rfl)
          try simp only [Act.put, List.getElem_toArray, List.getElem_cons_zero, List.getElem_cons_succ, List.setIfInBounds_toArray, List.set_cons_zero, List.set_cons_succ]
          refine wpAnyH_take (i := 17) (v := ?_) rfl (by kernel_rfl) (by kernel_rfl) (by kernel_rfl) (fun _ _ _ h => h) (Or.inl ⟨by kernel_rfl, ?_⟩) hS ?_
          rotate_left
          · intro w' hS'
            have hq := hS'.1
            have hq2 := hS'.2
            clear hS'
            first | (go_simp; done) | (go_simp; with_reducible rfl)
          try simp only [Act.put, List.getElem_toArray, List.getElem_cons_zero, List.getElem_cons_succ, List.setIfInBounds_toArray, List.set_cons_zero, List.set_cons_succ]
          refine wpAnyH_take (i := 18) (v := ?_) rfl (by kernel_rfl) (by kernel_rfl) (by kernel_rfl) (fun _ _ _ h => h) (Or.inl ⟨by kernel_rfl, ?_⟩) hS ?_
          rotate_left
          · intro w' hS'
            have hq := hS'.1
            have hq2 := hS'.2
            clear hS'
            first | (go_simp; done) | (go_simp; with_reducible rfl)
          try simp only [Act.put, List.getElem_toArray, List.getElem_cons_zero, List.getElem_cons_succ, List.setIfInBounds_toArray, List.set_cons_zero, List.set_cons_succ]
          refine wpAnyH_take (i := 19) (v := ?_) rfl (by kernel_rfl) (by kernel_rfl) (by kernel_rfl) (fun _ _ _ h => h) (Or.inl ⟨by kernel_rfl, ?_⟩) hS ?_
          rotate_left
          · intro w' hS'
            have hq := hS'.1
            have hq2 := hS'.2
            clear hS'
            first | (go_simp; done) | (go_simp; with_reducible rfl)
          try simp only [Act.put, List.getElem_toArray, List.getElem_cons_zero, List.getElem_cons_succ, List.setIfInBounds_toArray, List.set_cons_zero, List.set_cons_succ]
          refine wpAnyH_take (i := 20) (v := ?_) rfl (by kernel_rfl) (by kernel_rfl) (by kernel_rfl) (fun _ _ _ h => h) (Or.inl ⟨by kernel_rfl, ?_⟩) hS ?_
          rotate_left
          · intro w' hS'
            have hq := hS'.1
            have hq2 := hS'.2
            clear hS'
            first | (go_simp; done) | (go_simp; with_reducible rfl)
          try simp only [Act.put, List.getElem_toArray, List.getElem_cons_zero, List.getElem_cons_succ, List.setIfInBounds_toArray, List.set_cons_zero, List.set_cons_succ]
          refine wpAnyH_take (i := 21) (v := ?_) rfl (by kernel_rfl) (by kernel_rfl) (by kernel_rfl) (fun _ _ _ h => h) (Or.inl ⟨by kernel_rfl, ?_⟩) hS ?_
          rotate_left
          · intro w' hS'
            have hq := hS'.1
            have hq2 := hS'.2
            clear hS'
            first | (go_simp; done) | (go_simp; with_reducible rfl)
          try simp only [Act.put, List.getElem_toArray, List.getElem_cons_zero, List.getElem_cons_succ, List.setIfInBounds_toArray, List.set_cons_zero, List.set_cons_succ]
          refine wpAnyH_take (i := 22) (v := ?_) rfl (by kernel_rfl) (by kernel_rfl) (by kernel_rfl) (fun _ _ _ h => h) (Or.inl ⟨by kernel_rfl, ?_⟩) hS ?_
          rotate_left
          · intro w' hS'
            have hq := hS'.1
            have hq2 := hS'.2
            clear hS'
            first | (go_simp; done) | (go_simp; with_reducible rfl)
          try simp only [Act.put, List.getElem_toArray, List.getElem_cons_zero, List.getElem_cons_succ, List.setIfInBounds_toArray, List.set_cons_zero, List.set_cons_succ]
          refine wpAnyH_take (i := 23) (v := ?_) rfl (by kernel_rfl) (by kernel_rfl) (by kernel_rfl) (fun _ _ _ h => h) (Or.inl ⟨by kernel_rfl, ?_⟩) hS ?_
          rotate_left
          · intro w' hS'
            have hq := hS'.1
            have hq2 := hS'.2
            clear hS'
            first | (go_simp; done) | (go_simp; with_reducible rfl)
          try simp only [Act.put, List.getElem_toArray, List.getElem_cons_zero, List.getElem_cons_succ, List.setIfInBounds_toArray, List.set_cons_zero, List.set_cons_succ]
          refine wpAnyH_take (i := 24) (v := ?_) rfl (by kernel_rfl) (by kernel_rfl) (by kernel_rfl) (fun _ _ _ h => h) (Or.inl ⟨by kernel_rfl, ?_⟩) hS ?_
          rotate_left
          · intro w' hS'
            have hq := hS'.1
            have hq2 := hS'.2
            clear hS'
            first | (go_simp; done) | (go_simp; with_reducible rfl)
          try simp only [Act.put, List.getElem_toArray, List.getElem_cons_zero, List.getElem_cons_succ, List.setIfInBounds_toArray, List.set_cons_zero, List.set_cons_succ]
          refine wpAnyH_take (i := 25) (v := ?_) rfl (by kernel_rfl) (by kernel_rfl) (by kernel_rfl) (fun _ _ _ h => h) (Or.inl ⟨by kernel_rfl, ?_⟩) hS ?_
          rotate_left
          · intro w' hS'
            have hq := hS'.1
            have hq2 := hS'.2
            clear hS'
            first | (go_simp; done) | (go_simp; with_reducible rfl)
          try simp only [Act.put, List.getElem_toArray, List.getElem_cons_zero, List.getElem_cons_succ, List.setIfInBounds_toArray, List.set_cons_zero, List.set_cons_succ]
          refine wpAnyH_take (i := 26) (v := ?_) rfl (by kernel_rfl) (by kernel_rfl) (by kernel_rfl) (fun _ _ _ h => h) (Or.inl ⟨by kernel_rfl, ?_⟩) hS ?_
          rotate_left
          · intro w' hS'
            have hq := hS'.1
            have hq2 := hS'.2
            clear hS'
            first | (go_simp; done) | (go_simp; with_reducible rfl)
          try simp only [Act.put, List.getElem_toArray, List.getElem_cons_zero, List.getElem_cons_succ, List.setIfInBounds_toArray, List.set_cons_zero, List.set_cons_succ]
          refine wpAnyH_take (i := 27) (v := ?_) rfl (by kernel_rfl) (by kernel_rfl) (by kernel_rfl) (fun _ _ _ h => h) (Or.inl ⟨by kernel_rfl, ?_⟩) hS ?_
          rotate_left
          · intro w' hS'
            have hq := hS'.1
            have hq2 := hS'.2
            clear hS'
            first | (go_simp; done) | (go_simp; with_reducible rfl)
          try simp only [Act.put, List.getElem_toArray, List.getElem_cons_zero, List.getElem_cons_succ, List.setIfInBounds_toArray, List.set_cons_zero, List.set_cons_succ]
          refine wpAnyH_take (i := 28) (v := ?_) rfl (by kernel_rfl) (by kernel_rfl) (by kernel_rfl) (fun _ _ _ h => h) (Or.inl ⟨by kernel_rfl, ?_⟩) hS ?_
          rotate_left
          · intro w' hS'
            have hq := hS'.1
            have hq2 := hS'.2
            clear hS'
            first | (go_simp; done) | (go_simp; with_reducible rfl)
          try simp only [Act.put, List.getElem_toArray, List.getElem_cons_zero, List.getElem_cons_succ, List.setIfInBounds_toArray, List.set_cons_zero, List.set_cons_succ]
          refine wpAnyH_take (i := 29) (v := ?_) rfl (by kernel_rfl) (by kernel_rfl) (by kernel_rfl) (fun _ _ _ h => h) (Or.inl ⟨by kernel_rfl, ?_⟩) hS ?_
          rotate_left
          · intro w' hS'
            have hq := hS'.1
            have hq2 := hS'.2
            clear hS'
            first | (go_simp; done) | (go_simp; with_reducible rfl)
          try simp only [Act.put, List.getElem_toArray, List.getElem_cons_zero, List.getElem_cons_succ, List.setIfInBounds_toArray, List.set_cons_zero, List.set_cons_succ]
          refine wpAnyH_take (i := 30) (v := ?_) rfl (by kernel_rfl) (by kernel_rfl) (by kernel_rfl) (fun _ _ _ h => h) (Or.inl ⟨by kernel_rfl, ?_⟩) hS ?_
          rotate_left
          · intro w' hS'
            have hq := hS'.1
            have hq2 := hS'.2
            clear hS'
            first | (go_simp; done) | (go_simp; with_reducible rfl)
          try simp only [Act.put, List.getElem_toArray, List.getElem_cons_zero, List.getElem_cons_succ, List.setIfInBounds_toArray, List.set_cons_zero, List.set_cons_succ]
          refine wpAnyH_take (i := 31) (v := ?_) rfl (by kernel_rfl) (by kernel_rfl) (by kernel_rfl) (fun _ _ _ h => h) (Or.inl ⟨by kernel_rfl, ?_⟩) hS ?_
          rotate_left
          · intro w' hS'
            have hq := hS'.1
            have hq2 := hS'.2
            clear hS'
            first | (go_simp; done) | (go_simp; with_reducible rfl)
          try simp only [Act.put, List.getElem_toArray, List.getElem_cons_zero, List.getElem_cons_succ, List.setIfInBounds_toArray, List.set_cons_zero, List.set_cons_succ]
          refine wpAnyH_take (i := 32) (v := ?_) rfl (by kernel_rfl) (by kernel_rfl) (by kernel_rfl) (fun _ _ _ h => h) (Or.inl ⟨by kernel_rfl, ?_⟩) hS ?_
          rotate_left
          · intro w' hS'
            have hq := hS'.1
            have hq2 := hS'.2
            clear hS'
            first | (go_simp; done) | (go_simp; with_reducible rfl)
          try simp only [Act.put, List.getElem_toArray, List.getElem_cons_zero, List.getElem_cons_succ, List.setIfInBounds_toArray, List.set_cons_zero, List.set_cons_succ]
          refine wpAnyH_take (i := 33) (v := ?_) rfl (by kernel_rfl) (by kernel_rfl) (by kernel_rfl) (fun _ _ _ h => h) (Or.inl ⟨by kernel_rfl, ?_⟩) hS ?_
          rotate_left
          · intro w' hS'
            have hq := hS'.1
            have hq2 := hS'.2
            clear hS'
            first | (go_simp; done) | (go_simp; with_reducible rfl)
          try simp only [Act.put, List.getElem_toArray, List.getElem_cons_zero, List.getElem_cons_succ, List.setIfInBounds_toArray, List.set_cons_zero, List.set_cons_succ]
          refine wpAnyH_ready (rs := [34]) (by kernel_rfl) (by simp) ?_
          refine AllReadyH.cons rfl (fun K hK => ?_) AllReadyH.nil
          go_simp
          go_at_call 16
          refine (lives_any _).mono ?_
          rintro ex w9 ⟨rfl, k9⟩
          try dsimp only
          refine hK.out _ _ ?_ (fun hS => ?_)
          · exact Hmk.out _ (hS.2.trans' k9)
          clear hK K
          try simp only [Act.put, List.getElem_toArray, List.getElem_cons_zero, List.getElem_cons_succ, List.setIfInBounds_toArray, List.set_cons_zero, List.set_cons_succ]
          refine wpAnyH_take (i := 35) (v := ?_) rfl (by kernel_rfl) (by kernel_rfl) (by kernel_rfl) (fun _ _ _ h => h) (Or.inl ⟨by kernel_rfl, ?_⟩) hS ?_
          rotate_left
          · intro w' hS'
            have hq := hS'.1
            have hq2 := hS'.2
            clear hS'
            first | (go_simp; done) | (go_simp; with_reducible rfl)
          try simp only [Act.put, List.getElem_toArray, List.getElem_cons_zero, List.getElem_cons_succ, List.setIfInBounds_toArray, List.set_cons_zero, List.set_cons_succ]
          refine wpAnyH_take (i := 36) (v := ?_) rfl (by kernel_rfl) (by kernel_rfl) (by kernel_rfl) (fun _ _ _ h => h) (Or.inl ⟨by kernel_rfl, ?_⟩) hS ?_
          rotate_left
          · intro w' hS'
            have hq := hS'.1
            have hq2 := hS'.2
            clear hS'
            first | (go_simp; done) | (go_simp; with_reducible rfl)
          try simp only [Act.put, List.getElem_toArray, List.getElem_cons_zero, List.getElem_cons_succ, List.setIfInBounds_toArray, List.set_cons_zero, List.set_cons_succ]
          refine wpAnyH_done (by kernel_rfl) ?_ _
          have kEnd := kw2.trans' (hkw.trans' (k06.trans' (k8.trans' hS.2)))
          clear hS
          go_wp2_with fail
          go_ret
          exact ⟨rfl, kEnd⟩
      · have hsc := fun W g (hW : Kept wr W) => scat_there (some ⟨g, 0, none⟩) A1 D 64 64 l.length c1 nd cd l W (sL.kept hW) (by omega) hk1.out (by rw [hPe.out]; exact hnd')
        clear he hnd'
        go_upto_region 20 with (first
          | (go_at_call 13; refine (x_memory _).mono ?_; rintro ex w4 ⟨g4, rfl, _, bs4, k4⟩)
          | (go_at_call 17; refine (hsc _ g4 k4).mono ?_; rintro ex w5 ⟨rfl, k5⟩))
        have bs5 := bs4.kept k5
        have cv5 := x_conv (n := 64) (c := 64) bs5 mem_len
        refine wp_region_held_drew (S := fun w' => (convert 29 9 (.slice (some ⟨g4, 0, none⟩) 64 64)).run Try.prog w' = .ok (.string ⟨MEM.toArray⟩) w' ∧ Kept w5 w') (by kernel_rfl) ⟨x_conv (bs5.kept ((Below.refl _ w5).drew)) mem_len, (Below.refl _ w5).drew⟩ (fun hS => ?_)
        refine wpAnyH_take (i := 0) (v := ?_) rfl (by kernel_rfl) (by kernel_rfl) (by kernel_rfl) (fun _ _ _ h => h) (Or.inl ⟨by kernel_rfl, ?_⟩) hS ?_
        rotate_left
        · intro w' hS'
          have hq := hS'.1
          have hq2 := hS'.2
          clear hS'
          first | (go_simp; done) | (go_simp; with_reducible rfl)
        try simp only [Act.put, List.getElem_toArray, List.getElem_cons_zero, List.getElem_cons_succ, List.setIfInBounds_toArray, List.set_cons_zero, List.set_cons_succ]
        refine wpAnyH_take (i := 1) (v := ?_) rfl (by kernel_rfl) (by kernel_rfl) (by kernel_rfl) (fun _ _ _ h => h) (Or.inl ⟨by kernel_rfl, ?_⟩) hS ?_
        rotate_left
        · intro w' hS'
          have hq := hS'.1
          have hq2 := hS'.2
          clear hS'
          first | (go_simp; done) | (go_simp; with_reducible rfl)
        try simp only [Act.put, List.getElem_toArray, List.getElem_cons_zero, List.getElem_cons_succ, List.setIfInBounds_toArray, List.set_cons_zero, List.set_cons_succ]
        refine wpAnyH_take (i := 2) (v := ?_) rfl (by kernel_rfl) (by kernel_rfl) (by kernel_rfl) (fun _ _ _ h => h) (Or.inl ⟨by kernel_rfl, ?_⟩) hS ?_
        rotate_left
        · intro w' hS'
          have hq := hS'.1
          have hq2 := hS'.2
          clear hS'
          first | (go_simp; done) | (go_simp; with_reducible rfl)
        try simp only [Act.put, List.getElem_toArray, List.getElem_cons_zero, List.getElem_cons_succ, List.setIfInBounds_toArray, List.set_cons_zero, List.set_cons_succ]
        refine wpAnyH_take (i := 3) (v := ?_) rfl (by kernel_rfl) (by kernel_rfl) (by kernel_rfl) (fun _ _ _ h => h) (Or.inl ⟨by kernel_rfl, ?_⟩) hS ?_
        rotate_left
        · intro w' hS'
          have hq := hS'.1
          have hq2 := hS'.2
          clear hS'
          first | (go_simp; done) | (go_simp; with_reducible rfl)
        try simp only [Act.put, List.getElem_toArray, List.getElem_cons_zero, List.getElem_cons_succ, List.setIfInBounds_toArray, List.set_cons_zero, List.set_cons_succ]
        refine wpAnyH_take (i := 4) (v := ?_) rfl (by kernel_rfl) (by kernel_rfl) (by kernel_rfl) (fun _ _ _ h => h) (Or.inl ⟨by kernel_rfl, ?_⟩) hS ?_
        rotate_left
        · intro w' hS'
          have hq := hS'.1
          have hq2 := hS'.2
          clear hS'
          first | (go_simp; done) | (go_simp; with_reducible rfl)
        try simp only [Act.put, List.getElem_toArray, List.getElem_cons_zero, List.getElem_cons_succ, List.setIfInBounds_toArray, List.set_cons_zero, List.set_cons_succ]
        refine wpAnyH_take (i := 5) (v := ?_) rfl (by kernel_rfl) (by kernel_rfl) (by kernel_rfl) (fun _ _ _ h => h) (Or.inl ⟨by kernel_rfl, ?_⟩) hS ?_
        rotate_left
        · intro w' hS'
          have hq := hS'.1
          have hq2 := hS'.2
          clear hS'
          first | (go_simp; done) | (go_simp; with_reducible rfl)
        try simp only [Act.put, List.getElem_toArray, List.getElem_cons_zero, List.getElem_cons_succ, List.setIfInBounds_toArray, List.set_cons_zero, List.set_cons_succ]
        refine wpAnyH_ready (rs := [6]) (by kernel_rfl) (by simp) ?_
        refine AllReadyH.cons rfl (fun K hK => ?_) AllReadyH.nil
        go_simp
        go_at_call 13
        refine (x_memory _).mono ?_
        rintro ex w6 ⟨g6, rfl, _, bs6, k6⟩
        try dsimp only
        refine hK.out _ _ ?_ (fun hS => ?_)
        · exact ⟨x_conv (bs5.kept (hS.2.trans' k6)) mem_len, hS.2.trans' k6⟩
        clear hK K
        try simp only [Act.put, List.getElem_toArray, List.getElem_cons_zero, List.getElem_cons_succ, List.setIfInBounds_toArray, List.set_cons_zero, List.set_cons_succ]
        have cv6 := x_conv (n := 64) (c := 64) bs6 mem_len
        refine wpAnyH_ready (rs := [7]) (by kernel_rfl) (by simp) ?_
        refine AllReadyH.cons rfl (fun K hK => ?_) AllReadyH.nil
        go_simp
        refine hK.out _ _ ?_ (fun hS => ?_)
        · exact hS
        clear hK K
        try simp only [Act.put, List.getElem_toArray, List.getElem_cons_zero, List.getElem_cons_succ, List.setIfInBounds_toArray, List.set_cons_zero, List.set_cons_succ]
        refine wpAnyH_take (i := 8) (v := ?_) rfl (by kernel_rfl) (by kernel_rfl) (by kernel_rfl) (fun _ _ _ h => h) (Or.inl ⟨by kernel_rfl, ?_⟩) hS ?_
        rotate_left
        · intro w' hS'
          have hq := hS'.1
          have hq2 := hS'.2
          clear hS'
          first | (go_simp; done) | (go_simp; with_reducible rfl)
        try simp only [Act.put, List.getElem_toArray, List.getElem_cons_zero, List.getElem_cons_succ, List.setIfInBounds_toArray, List.set_cons_zero, List.set_cons_succ]
        refine wpAnyH_take (i := 9) (v := ?_) rfl (by kernel_rfl) (by kernel_rfl) (by kernel_rfl) (fun _ _ _ h => h) (Or.inl ⟨by kernel_rfl, ?_⟩) hS ?_
        rotate_left
        · intro w' hS'
          have hq := hS'.1
          have hq2 := hS'.2
          clear hS'
          first | (go_simp; done) | (go_simp; with_reducible rfl)
        try simp only [Act.put, List.getElem_toArray, List.getElem_cons_zero, List.getElem_cons_succ, List.setIfInBounds_toArray, List.set_cons_zero, List.set_cons_succ]
        refine wpAnyH_done (by kernel_rfl) ?_ _
        go_wp2_with (go_at_call 16; refine (lives_any _).mono ?_; rintro ex w7 ⟨rfl, k7⟩)
        go_ret
        exact ⟨rfl, kw2.trans' (((hkw.trans' k4).trans' k5).trans' (hS.2.trans' k7))⟩
end Go.Proofs.Ytdkinfglpnajmaa
