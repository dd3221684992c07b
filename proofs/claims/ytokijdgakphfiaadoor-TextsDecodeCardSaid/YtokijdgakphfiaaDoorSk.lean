
/- The longest beginning of a text with so many units. The two tables of unicode/utf8 are as the program lays them. -/
import Derived.Test.YtokijdgakphfiaaDoorChecked
import Derived.Deep.RegionHeld3
import Derived.Deep.DrawnRows
import Derived.Deep.DeepCutAuto
import Derived.Deep.LoopGhost
import Derived.Outline
import Derived.Handy
import Derived.OwnWalk
import Derived.Test.YtokijdgakphfiaaDoorSj
namespace Go.Proofs.YtokijdgakphfiaaDoor
open Go.RowKit Go.Lib
attribute [local go_sem ↓] Go.wp_at_zero Go.wp_at_succ

theorem cut_bad (s : ByteArray) (n : Int) (w : World) (hs : s.size ≤ 100000) (hT : Tabs w) (hv : Lib.validD s.data.toList = false) :
    Calls Tryd.prog 17 #[.string s, .int .i64 n] w fun e w' => e = .returned (.tuple #[.string ⟨#[]⟩, .int .i64 4]) ∧ Kept w w' := by
  have hc := valid_any s w hs hT
  rw [hv] at hc
  clear hv
  go_enter Tryd.func17, Tryd.ntmps17
  go_wp2_with (go_at_call 23; refine hc.mono ?_; rintro e w1 ⟨rfl, hk⟩)
  refine bodyPost_ret (v := .tuple #[.string ⟨#[]⟩, .int .i64 4]) (by simp [results, Tryd.results17, go_sem]) rfl ?_
  exact ⟨rfl, hk⟩
theorem cut_neg (l : List Nat) (n : Int) (w : World) (hl : ∀ c ∈ l, okN c) (hs : (textB l).size ≤ 100000) (hT : Tabs w) (hn : n < 0) :
    Calls Tryd.prog 17 #[.string (textB l), .int .i64 n] w fun e w' => e = .returned (.tuple #[.string ⟨#[]⟩, .int .i64 1]) ∧ Kept w w' := by
  have hc := valid_yes hl w hs hT
  clear hs
  go_enter Tryd.func17, Tryd.ntmps17
  go_wp2_with (go_at_call 23; refine hc.mono ?_; rintro e w1 ⟨rfl, hk⟩)
  refine bodyPost_ret (v := .tuple #[.string ⟨#[]⟩, .int .i64 1]) (by simp [results, Tryd.results17, go_sem]) rfl ?_
  exact ⟨rfl, hk⟩
theorem textL_le (l : List Nat) : l.length ≤ (textL l).length := by
  induction l with
  | nil => simp
  | cons c l ih => have := encN_pos c; rw [textL_cons, List.length_append, encL_length, List.length_cons]; omega
theorem lenU_succ {l : List Nat} {k x : Nat} (hx : l[k]? = some x) : lenU (l.take (k + 1)) = lenU (l.take k) + (splitN x).length := by
  obtain ⟨hk, e⟩ := List.getElem?_eq_some_iff.1 hx
  unfold lenU
  rw [List.take_succ_eq_append_getElem hk, e, unitsN_append, List.length_append, unitsN_cons, unitsN_nil, List.append_nil]
set_option maxRecDepth 100000 in
set_option maxHeartbeats 1000000 in
theorem cut_any (l : List Nat) (n : Int) (w : World) (hl : ∀ c ∈ l, okN c) (hs : (textB l).size ≤ 100000) (hT : Tabs w) (hn : 0 ≤ n) (hn2 : n ≤ 9223372036854775807) :
    Calls Tryd.prog 17 #[.string (textB l), .int .i64 n] w fun e w' => e = .returned (.tuple #[.string (textB (cutN l n)), .int .i64 0]) ∧ Kept w w' := by
  have hc := valid_yes hl w hs hT
  have hll : l.length ≤ 100000 := by
    have := textL_le l
    rw [Lib.size_eq, textB_list] at hs
    omega
  have HN := hide hn2
  clear hs hn2
  go_enter Tryd.func17, Tryd.ntmps17
  go_wp2_with (go_at_call 23; refine hc.mono ?_; rintro e w1 ⟨rfl, hk⟩)
  go_loopg [1] l.length (fun gf s1 wr => ∃ k : Nat, k + gf = l.length ∧ ∃ r : Int, s1 = .int .i64 r ∧ 0 ≤ r ∧ Hid (r = n - (lenU (l.take k) : Nat)) ∧ wr.heap[w1.heap.size]? = some (.stringIter (textB l) (posL l k)) ∧ Kept w1 wr)
  case atStart =>
    exact ⟨0, by omega, n, rfl, hn, hide (by simp [lenU_nil]), by rw [posL_zero]; exact World.iter_heap w1 (textB l) 0, (Below.refl _ _).alloc (Nat.le_refl _) _⟩
  case round =>
    obtain ⟨k, hk9, r, rfl, hr0, Hr, hit, hkw⟩ := hrel
    have Hk := hide hk9
    have hkm : k ≤ l.length := by omega
    have hr1 : r ≤ 9223372036854775807 := by have := Hr.out; have := HN.out; omega
    clear hk9
    by_cases hlt : k < l.length
    · obtain ⟨x, hx⟩ : ∃ x, l[k]? = some x := ⟨_, List.getElem?_eq_getElem hlt⟩
      have hnx := next_text hl hit hx
      have hok := hl x (List.mem_of_getElem? hx)
      have hsl := splitN_len x
      have hsp := split_any x (wr.iterAt w1.heap.size (textB l) (posL l (k + 1))) hok
      have Hlu := hide (lenU_succ hx)
      have Hsp := hide hsp
      have Hit := hide (heap_iter (q := posL l (k + 1)) hit)
      have Hbw := hide (below_iter hkw (Nat.le_refl _) (textB l) (posL l (k + 1)))
      have Hx := hide hx
      clear hx hok hsp
      generalize (splitN x).length = ln at *
      generalize (u16C (splitN x)).toArray = cells at *
      obtain ⟨hl1, hl2⟩ := hsl
      by_cases hst : r < (ln : Int)
      · have hcut := hide (show cutN l n = l.take k from cut_take l n k hkm (by have := Hr.out; omega) (.inr (by have := Hr.out; have := Hlu.out; omega)))
        have hneg : r - (ln : Int) < 0 := by omega
        have hex := hide (extract_at l k)
        have hpz := hide (posL_lt Hx.out)
        have hple : ((posL l k : Nat) : Int) ≤ ((textB l).size : Int) := by have := hpz.out; omega
        generalize hpk : posL l k = pk at *
        clear hit hpk
        go_wp2_with (go_at_call 28; refine Hsp.out.mono ?_; rintro e w2 ⟨rfl, rfl⟩)
        refine bodyPost_ret (v := .tuple #[.string (textB (cutN l n)), .int .i64 0]) (by rw [hcut.out, ← hex.out]; simp [results, Tryd.results17, go_sem]) rfl ?_
        exact ⟨rfl, hk.trans' (Hbw.out.alloc (by rw [size_iter]; exact hkw.size) _)⟩
      · have hge : (ln : Int) ≤ r := by omega
        clear hst
        go_wp2_with (go_at_call 28; refine Hsp.out.mono ?_; rintro e w2 ⟨rfl, rfl⟩)
        go_roundg (gk - 1)
        case measure => have := Hk.out; omega
        case rel =>
          exact ⟨k + 1, by have := Hk.out; omega, r - ln, rfl, by omega, hide (by rw [Hr.out, Hlu.out]; omega), heap_past Hit.out, Hbw.out.alloc (by rw [size_iter]; exact hkw.size) _⟩
    · have hnx := next_done hit (by omega)
      have hcut := hide (show cutN l n = l by
        have h := cut_take l n l.length (Nat.le_refl _) (by have h1 := Hr.out; rw [List.take_of_length_le (by omega)] at h1; rw [List.take_length]; omega) (.inl rfl)
        rw [List.take_length] at h
        exact h)
      go_wp2_with fail
      refine bodyPost_ret (v := .tuple #[.string (textB (cutN l n)), .int .i64 0]) (by rw [hcut.out]; simp [results, Tryd.results17, go_sem]) rfl ?_
      exact ⟨rfl, hk.trans' hkw⟩
end Go.Proofs.YtokijdgakphfiaaDoor
