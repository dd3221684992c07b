
/- The text with a descriptor. The list reads as bytes. -/
import Derived.Test.YtokijdgakphfiaaDoorChecked
import Derived.Deep.RegionHeld3
import Derived.Deep.DrawnRows
import Derived.Deep.DeepCutAuto
import Derived.Deep.LoopGhost
import Derived.Outline
import Derived.Handy
import Derived.Laws.Cover4
import Derived.OwnWalk
import Derived.Test.YtokijdgakphfiaaDoorSh
namespace Go.Proofs.YtokijdgakphfiaaDoor
open Go.RowKit
attribute [local go_sem ↓] Go.wp_at_zero Go.wp_at_succ

def i32T : Ty Nat := Ty.flat 1 (fun n : Nat => [.int .i32 (n : Int)]) (fun _ => True) (fun _ => rfl)
theorem info21 : (Tryd.prog.info? 21).map (fun i => (i.zero, i.size, i.bytes)) = some (some (.int .i32 0), 1, 4) := by kernel_rfl
theorem fill_sl {w : World} {g m : Nat} {us : List Nat} (h : Fill w g 40 m (.int .u16 0) (u16C us)) (hm : us.length = m) (hu : ∀ u ∈ us, u < 65536) : Sl u16T w (low w.heap.size) (some ⟨g, 0, none⟩) m us := by
  have hl : (u16C us).length = m := by unfold u16C; rw [List.length_map]; exact hm
  have h1 := h.1
  rw [hl, Nat.sub_self, List.replicate_zero, List.append_nil] at h1
  have h2 := sl_block (F := low w.heap.size) h1 hu (heap_lt h1)
  rw [hm] at h2
  exact h2
/-- the string of runes -/
theorem runes_back {w : World} {base g m cap : Nat} {l : List Nat} (hown : Own i32T 21 base w (.slice (some ⟨g, 0, none⟩) m cap) m l) (hl : ∀ n ∈ l, okN n) :
    (convert 38 9 (.slice (some ⟨g, 0, none⟩) m cap)).run Tryd.prog w = .ok (.string (textB l)) w := by
  have hlen := hown.1
  have hsl := hown.sl
  have hget : ∀ j, (hj : j < l.length) → (l.map (fun n : Nat => (n : Int))).getD j 0 = ((l[j] : Nat) : Int) := fun j hj => by simp [List.getD, hj]
  have h := run_convert_runes (P := Tryd.prog) w 38 9 21 ⟨g, 0, none⟩ m cap (l.map (fun n : Nat => (n : Int))) (by simp; omega) Tryd.underlying38 Tryd.underlying21 Tryd.underlying9 (fun j hj => by
    have hj' : j < l.length := by simpa using hj
    obtain ⟨x, b, off, cs, hx, he, _, ⟨rfl, _⟩, hc⟩ := hsl.at (show j < m by omega)
    injection he with he
    injection he with he1 he2 _
    subst he1 he2
    have h0 := hc 0 _ rfl
    rw [hget j hj', Addr.add_mid]
    simp only [i32T, Ty.flat, Nat.mul_one, Nat.add_zero] at h0
    rw [h0]
    rw [List.getElem?_eq_getElem hj'] at hx
    injection hx with hx
    rw [hx])
  rw [h, ← runesBytes_eq hl, List.take_of_length_le (by simp; omega)]

/-- what Decode returns -/
def DecPost (bs : List UInt8) (w : World) (e : Ending) (w' : World) : Prop :=
  (badWidth bs ∧ e = .returned (.tuple #[.string ⟨#[]⟩, .int .i64 5]) ∧ Kept w w') ∨
  (¬ badWidth bs ∧ (bs.getD 1 0 ≠ 3 ∨ joinU (numsL (bs.drop 2)) = none) ∧ e = .returned (.tuple #[.string ⟨#[]⟩, .int .i64 4]) ∧ Kept w w') ∨
  (¬ badWidth bs ∧ bs.getD 1 0 = 3 ∧ ∃ l, joinU (numsL (bs.drop 2)) = some l ∧ e = .returned (.tuple #[.string (textB l), .int .i64 0]) ∧ Kept w w')
theorem drop_at {us : List Nat} {k x : Nat} (h : us[k]? = some x) : us.drop k = x :: us.drop (k + 1) := by
  obtain ⟨hk, e⟩ := List.getElem?_eq_some_iff.1 h
  rw [List.drop_eq_getElem_cons hk, e]
/-- so far: the characters of the first units -/
def Joined (us : List Nat) (k : Nat) (acc : List Nat) : Prop := joinU us = (joinU (us.drop k)).map (fun l => acc ++ l)
theorem Joined.start (us : List Nat) : Joined us 0 [] := by simp [Joined]
theorem Joined.one {us acc : List Nat} {k x : Nat} (h : Joined us k acc) (hx : us[k]? = some x) (hs : ¬ (55296 ≤ x ∧ x < 57344)) : Joined us (k + 1) (acc ++ [x]) := by
  unfold Joined at *
  rw [h, drop_at hx, joinU_one hs, Option.map_map]
  congr 1
  funext l
  simp
theorem Joined.two {us acc : List Nat} {k x y : Nat} (h : Joined us k acc) (hx : us[k]? = some x) (hy : us[k + 1]? = some y) (hs : 55296 ≤ x ∧ x < 56320) (ht : 56320 ≤ y ∧ y < 57344) : Joined us (k + 2) (acc ++ [65536 + (x - 55296) * 1024 + (y - 56320)]) := by
  unfold Joined at *
  rw [h, drop_at hx, drop_at hy, joinU_two hs ht, Option.map_map]
  congr 1
  funext l
  simp
theorem Joined.bad {us acc : List Nat} {k x : Nat} (h : Joined us k acc) (hx : us[k]? = some x) (hs : 55296 ≤ x ∧ x < 57344) (hb : 56320 ≤ x ∨ us.length = k + 1 ∨ ∃ y, us[k + 1]? = some y ∧ (y < 56320 ∨ 57344 ≤ y)) : joinU us = none := by
  unfold Joined at h
  rw [h, drop_at hx, joinU_bad hs, Option.map_none]
  rcases hb with hb | hb | ⟨y, hy, hb⟩
  · exact .inl hb
  · exact .inr (.inl (List.drop_of_length_le (by omega)))
  · exact .inr (.inr ⟨y, _, drop_at hy, hb⟩)
theorem Joined.done {us acc : List Nat} {k : Nat} (h : Joined us k acc) (hk : us.length ≤ k) : joinU us = some acc := by
  unfold Joined at h
  rw [h, List.drop_of_length_le hk]; simp [joinU]
theorem shl10 {z : Int} (h0 : 0 ≤ z) (h1 : z < 1024) : IntKind.i32.wrap (z * 1024) = z * 1024 := by rw [IntKind.wrap_i32]; omega
set_option maxRecDepth 100000 in
set_option maxHeartbeats 1000000 in
theorem dec_any (A : Option Addr) (n c : Nat) (bs : List UInt8) (w : World) (hn : n ≤ 1000) (hb : Sl byT w (low w.heap.size) A n bs) :
    Calls Tryd.prog 15 #[.slice A n c] w (DecPost bs w) := by
  have hc := nums_any A n c bs w hn hb
  have hlen := hb.1
  obtain ⟨i21, hi21, hz210, hz211, hz212⟩ := info_parts info21
  have Hb := hide hlen
  clear hb hlen
  go_enter Tryd.func15, Tryd.ntmps15
  go_wp2_with (go_at_call 27; refine hc.mono ?_; rintro e w1 (⟨h1, rfl, hk⟩ | ⟨h1, h2, rfl, hk⟩ | ⟨h1, h2, g, m, h3, rfl, hF, hg1, hg2, hk⟩))
  · refine bodyPost_ret (v := .tuple #[.string ⟨#[]⟩, .int .i64 5]) (by simp [results, Tryd.results15, go_sem]) rfl ?_
    exact .inl ⟨h1, rfl, hk⟩
  · refine bodyPost_ret (v := .tuple #[.string ⟨#[]⟩, .int .i64 4]) (by simp [results, Tryd.results15, go_sem]) rfl ?_
    exact .inr (.inl ⟨h1, .inl h2, rfl, hk⟩)
  · have hpn := pairs_nums m (bs.drop 2) (by rw [List.length_drop]; omega)
    have hu := fill_sl hF hpn.2.1 hpn.2.2
    have Hl := hide hpn.2.1
    have Hd := hide (show ¬ badWidth bs ∧ bs.getD 1 0 = 3 from ⟨h1, h2⟩)
    have hm1 : m ≤ 1000 := by have := Hb.out; omega
    have hPost : ∀ (e : Ending) (w' : World), (joinU (numsL (bs.drop 2)) = none ∧ e = .returned (.tuple #[.string ⟨#[]⟩, .int .i64 4]) ∧ Kept w1 w') ∨ (∃ l, joinU (numsL (bs.drop 2)) = some l ∧ e = .returned (.tuple #[.string (textB l), .int .i64 0]) ∧ Kept w1 w') → DecPost bs w e w' := by
      rintro e w' (⟨h, rfl, k⟩ | ⟨l, h, rfl, k⟩)
      · exact .inr (.inl ⟨Hd.out.1, .inr h, rfl, hk.trans' k⟩)
      · exact .inr (.inr ⟨Hd.out.1, Hd.out.2, l, h, rfl, hk.trans' k⟩)
    have HP := hide hPost
    have Hu3 := hide hpn.2.2
    clear hF hpn h1 h2 hPost h3
    generalize numsL (bs.drop 2) = us at *
    generalize hA : some (⟨g, 0, none⟩ : Addr) = A1 at *
    clear hA
    go_wp2_with fail
    go_loopg [6, 7] m (fun gf s6 s7 wr => ∃ k : Nat, k + gf = m ∧ s7 = .int .i64 k ∧ ∃ acc mm, mm ≤ k ∧ Hid (Joined us k acc) ∧ Own i32T 21 w1.heap.size wr s6 mm acc ∧ Kept w1 wr)
    case atStart => exact ⟨0, by omega, rfl, [], 0, by omega, hide (Joined.start us), Own.nil _ _ _ _, Below.refl _ _⟩
    case round =>
      obtain ⟨k, hk9, rfl, acc, mm, hmm, HJ, hown, hkw⟩ := hrel
      have Hk := hide hk9
      have hkm : k ≤ m := by omega
      clear hk9
      by_cases hlt : k < m
      · obtain ⟨x, b, off, hx, rfl, hbw, hbr, hx6, e0⟩ := u16_at hu hkw hlt
        obtain ⟨z, hz⟩ : ∃ z : Int, z = (x : Int) := ⟨_, rfl⟩
        rw [← hz] at e0
        have hz0 : 0 ≤ z := by omega
        have hz1 : z < 65536 := by omega
        have Hx := hide hx
        have Hz := hide hz
        clear hx hx6 hz
        have hlt' : (k : Int) < (m : Int) := by omega
        have hk0 : (0 : Int) ≤ (k : Int) := by omega
        by_cases hs : z < 55296 ∨ 57344 ≤ z
        · have hJ1 := hide (HJ.out.one Hx.out (by have := Hz.out; omega))
          have Hz2 := hide (show ¬ (55296 ≤ z ∧ z < 57344) by omega)
          rcases hs with hs | hs
          all_goals
            go_wp2_with (at_builtin; refine wpList_append_el (T := i32T) rfl (.tmp 72) (.tmp 74) 38 rfl w1.heap.size 21 i21 _ 4 Tryd.underlying38 hi21 hz210 hz211 hz212 rfl (by decide) u6 mm _ (by rfl) (hown.alloc _) _ _ _ x (by rfl) (heap_alloc_new wr _) ⟨by show [Value.int .i32 z] = [Value.int .i32 ((x : Nat) : Int)]; rw [← Hz.out], trivial⟩ (by simp [Value.oneCell']) (by unfold maxLen; omega) (by omega) (by have := hkw.size; simp only [World.size_alloc]; omega) ?_; intro g4 cap4 w4 hown4 hg4 hb4 hat4 hlt4)
            go_roundg (gk - 1)
            case measure => have := Hk.out; omega
            case rel =>
              have hk4 : Kept w1 w4 := Below.trans (hkw.alloc hkw.size _) (hb4.mono (Nat.le_refl _))
              exact ⟨k + 1, by have := Hk.out; omega, by go_num, _, mm + 1, by omega, hJ1, hown4, hk4⟩
        · have hs1 : 55296 ≤ z := by omega
          have hs2 : z < 57344 := by omega
          clear hs
          by_cases h6 : 56320 ≤ z
          · have hbad := hide (HJ.out.bad Hx.out (by have := Hz.out; omega) (.inl (by have := Hz.out; omega)))
            go_wp2_with fail
            refine bodyPost_ret (v := .tuple #[.string ⟨#[]⟩, .int .i64 4]) (by simp [results, Tryd.results15, go_sem]) rfl ?_
            exact HP.out _ _ (.inl ⟨hbad.out, rfl, hkw⟩)
          · have h6' : z < 56320 := by omega
            clear h6
            by_cases h7 : k + 1 < m
            · obtain ⟨y, b', off', hy, he, _, _, hy6, e1⟩ := u16_at hu hkw h7
              injection he with he
              injection he with he1 he2 _
              subst he1 he2
              obtain ⟨zy, hzy⟩ : ∃ z : Int, z = (y : Int) := ⟨_, rfl⟩
              rw [← hzy] at e1
              have hy0 : 0 ≤ zy := by omega
              have hy1 : zy < 65536 := by omega
              have Hy := hide hy
              have Hzy := hide hzy
              clear hy hy6 hzy
              have h7' : (k : Int) + 1 < (m : Int) := by omega
              have hk1 : (0 : Int) ≤ (k : Int) + 1 := by omega
              have ht1 : ((k : Int) + 1).toNat = k + 1 := by omega
              have hne : ((k : Int) + 1 == (m : Int)) = false := by simp; omega
              by_cases h8 : zy < 56320 ∨ 57344 ≤ zy
              · have hbad := hide (HJ.out.bad Hx.out (by have := Hz.out; omega) (.inr (.inr ⟨y, Hy.out, by have := Hzy.out; omega⟩)))
                rcases h8 with h8 | h8
                all_goals
                  go_wp2_with fail
                  refine bodyPost_ret (v := .tuple #[.string ⟨#[]⟩, .int .i64 4]) (by simp [results, Tryd.results15, go_sem]) rfl ?_
                  exact HP.out _ _ (.inl ⟨hbad.out, rfl, hkw⟩)
              · have h81 : 56320 ≤ zy := by omega
                have h82 : zy < 57344 := by omega
                have hJ2 := hide (HJ.out.two Hx.out Hy.out (by have := Hz.out; omega) (by have := Hzy.out; omega))
                have hval := hide (show (((65536 + (x - 55296) * 1024 + (y - 56320) : Nat) : Int)) = 65536 + (z - 55296) * 1024 + zy - 56320 by have := Hz.out; have := Hzy.out; omega)
                clear h8
                go_wp2_with (at_builtin; refine wpList_append_el (T := i32T) rfl (.tmp 72) (.tmp 74) 38 rfl w1.heap.size 21 i21 _ 4 Tryd.underlying38 hi21 hz210 hz211 hz212 rfl (by decide) u6 mm _ (by rfl) (hown.alloc _) _ _ _ (65536 + (x - 55296) * 1024 + (y - 56320)) (by rfl) (heap_alloc_new wr _) ⟨by show [Value.int .i32 (65536 + (z - 55296) * 1024 + zy - 56320)] = [Value.int .i32 ((65536 + (x - 55296) * 1024 + (y - 56320) : Nat) : Int)]; rw [hval.out], trivial⟩ (by simp [Value.oneCell']) (by unfold maxLen; omega) (by omega) (by have := hkw.size; simp only [World.size_alloc]; omega) ?_; intro g4 cap4 w4 hown4 hg4 hb4 hat4 hlt4)
                go_roundg (gk - 2)
                case measure => have := Hk.out; omega
                case rel =>
                  have hk4 : Kept w1 w4 := Below.trans (hkw.alloc hkw.size _) (hb4.mono (Nat.le_refl _))
                  exact ⟨k + 2, by have := Hk.out; omega, by go_num, _, mm + 1, by omega, hJ2, hown4, hk4⟩
            · have hbad := hide (HJ.out.bad Hx.out (by have := Hz.out; omega) (.inr (.inl (by have := Hl.out; omega))))
              have hne : ((k : Int) + 1 == (m : Int)) = true := by simp; omega
              go_wp2_with fail
              refine bodyPost_ret (v := .tuple #[.string ⟨#[]⟩, .int .i64 4]) (by simp [results, Tryd.results15, go_sem]) rfl ?_
              exact HP.out _ _ (.inl ⟨hbad.out, rfl, hkw⟩)
      · have hfin := HJ.out.done (by have := Hl.out; omega)
        have hfin2 := hide (show joinU us = some acc ∧ ∀ n ∈ acc, okN n from ⟨hfin, (units_join us.length us acc (Nat.le_refl _) Hu3.out hfin).2⟩)
        have hlt' : (m : Int) ≤ (k : Int) := by omega
        clear hfin
        rcases hown.form with ⟨rfl, h0⟩ | ⟨g5, cap5, rfl, hg5, hg6, _, _⟩
        · have he : acc = [] := List.eq_nil_of_length_eq_zero (by rw [hown.1]; exact h0)
          have hcv := run_convert_runes_nil (P := Tryd.prog) wr 38 9 21 0 0 Tryd.underlying38 Tryd.underlying21 Tryd.underlying9
          have He := hide he
          clear he
          go_wp2_with fail
          refine bodyPost_ret (v := .tuple #[.string ⟨#[]⟩, .int .i64 0]) (by simp [results, Tryd.results15, go_sem]; rfl) rfl ?_
          exact HP.out _ _ (.inr ⟨acc, hfin2.out.1, by rw [He.out]; rfl, hkw⟩)
        · have hcv := runes_back hown hfin2.out.2
          go_wp2_with fail
          refine bodyPost_ret (v := .tuple #[.string (textB acc), .int .i64 0]) (by simp [results, Tryd.results15, go_sem]) rfl ?_
          exact HP.out _ _ (.inr ⟨acc, hfin2.out.1, rfl, hkw⟩)
end Go.Proofs.YtokijdgakphfiaaDoor
