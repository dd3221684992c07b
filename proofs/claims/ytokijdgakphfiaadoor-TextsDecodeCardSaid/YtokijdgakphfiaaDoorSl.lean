
/- The iterator over the units of a text. -/
import Derived.Sort.LoopGhostIn
import Derived.Shelf.Abstract
import Derived.Shelf.RegionOpen
import Derived.WalkKit
import Derived.OwnWalkIn
import Derived.TacticsInMore
import Derived.LoopNIn
import Derived.LoopIn
import Derived.Maps.AppendAt
import Derived.Test.YtokijdgakphfiaaDoorChecked
import Derived.Test.YtokijdgakphfiaaDoorPf
import Derived.Test.YtokijdgakphfiaaDoorSk
namespace Go.Proofs.YtokijdgakphfiaaDoor
open Go.RowKit Go.Shelf

attribute [local go_sem] Oper.semAt_some

/-- a unit -/
abbrev U16 := { u : Nat // u < 65536 }
def encU (x : U16) : Array Value := #[.int .u16 ((x.1 : Nat) : Int)]
/-- the units that have come -/
def vals (p : List U16) : List Nat := p.map (fun x => x.1)
theorem vals_snoc (p : List U16) (x : U16) : vals (p ++ [x]) = vals p ++ [x.1] := by simp [vals]
theorem vals_len (p : List U16) : (vals p).length = p.length := by simp [vals]
theorem unitsN_at {l : List Nat} {k x : Nat} (hx : l[k]? = some x) : unitsN (l.take (k + 1)) = unitsN (l.take k) ++ splitN x := by
  obtain ⟨hk, e⟩ := List.getElem?_eq_some_iff.1 hx
  rw [List.take_succ_eq_append_getElem hk, e, unitsN_append, unitsN_cons, unitsN_nil, List.append_nil]
theorem unitsN_pre (l : List Nat) (k : Nat) : unitsN (l.take k) <+: unitsN l := by
  conv => rhs; rw [← List.take_append_drop k l, unitsN_append]
  exact List.prefix_append _ _
theorem u16_in {l : List Nat} (h : ∀ u ∈ l, u < 65536) {j : Nat} (hj : j < l.length) : ∃ x : U16, l[j]? = some x.1 := ⟨⟨l[j], h _ (List.getElem_mem hj)⟩, by simp [hj]⟩

set_option maxRecDepth 100000 in
set_option maxHeartbeats 2000000 in
theorem units1_in (n : Nat) (hn : 1 ≤ n) (l : Nat) (ls : List Nat) (hls : ∀ c ∈ ls, okN c) (Bs Bx : Nat) (J Jx : List U16 → World → Prop)
    (hY : ∀ pre x W, J pre W → pre.length < (unitsN ls).length → YieldAt Fence.wide (n - 1) Tryd.prog l (encU x) W fun e W' =>
      (e = .returned (.bool true) ∧ J (pre ++ [x]) W' ∧ KeepsX Bx W W') ∨ (e = .returned (.bool false) ∧ Jx (pre ++ [x]) W'))
    (W : World) (hJ : AbidesFrom W.heap.size J) (hBs : W.cell? ⟨Bs, 0, none⟩ = some (.string (textB ls))) (hBx : Bx < W.heap.size) (hX : BoxIn Bx W) (h0 : J [] W) :
    CallsIn Fence.wide n Tryd.prog 30 #[.func (.yield l) #[] #[], .pointer (some ⟨Bs, 0, none⟩)] W fun e W' => (∃ v, e = .returned v) ∧
      ((∃ ys, vals ys = unitsN ls ∧ J ys W') ∨ (∃ pre, vals pre <+: unitsN ls ∧ Jx pre W')) := by
  refine callsIn_of_wp Tryd.func30 rfl trivial ?_ rfl
  simp only [Tryd.ntmps30, List.size_toArray, List.length_cons, List.length_nil, Nat.reduceAdd, Nat.reduceSub, Array.replicate_succ, Array.replicate_zero, List.push_toArray, List.append_toArray, List.nil_append, List.cons_append]
  gi_wp2
  have hJ0 : J [] (W.iter (textB ls) 0) := hJ [] W _ none h0 (World.grownBy_alloc W _ none) (fun r e => by cases e)
  gi_loopg [4] ls.length (fun gf _ wr => ∃ (k : Nat) (pre : List U16), k + gf = ls.length ∧ Hid (vals pre = unitsN (ls.take k)) ∧ J pre wr ∧ wr.heap[W.heap.size]? = some (.stringIter (textB ls) (posL ls k)) ∧ BoxIn Bx wr ∧ ¬ boxX Bx wr W.heap.size)
  case atStart =>
    refine ⟨0, [], by omega, hide rfl, hJ0, by rw [posL_zero]; exact World.iter_heap W (textB ls) 0, ?_, ?_⟩
    · exact hX.congr (by simp [World.iter]) (heap_alloc_old hBx _)
    · intro h
      have := hX _ ((boxX_congr (heap_alloc_old hBx _)).1 h)
      omega
  case round =>
    obtain ⟨k, pre, hk9, Hpre, hJs, hit, hXr, hnX⟩ := hrel
    obtain ⟨g0, hg0⟩ : ∃ g, g = gk := ⟨_, rfl⟩
    have Hg := hide hg0
    have Hk := hide hk9
    clear hk9 hg0
    by_cases hlt : k < ls.length
    · obtain ⟨x, hx⟩ : ∃ x, ls[k]? = some x := ⟨_, List.getElem?_eq_getElem hlt⟩
      have hnx := next_text hls hit hx
      have hok := hls x (List.mem_of_getElem? hx)
      have hb0 : W.heap.size < wr.heap.size := heap_lt hit
      have hBr : Bx < wr.heap.size := by omega
      have hne0 : W.heap.size ≠ Bx := by omega
      have hJ2 : J pre (wr.iterAt W.heap.size (textB ls) (posL ls (k + 1))) := hJ pre wr _ (some W.heap.size) hJs
        ⟨rfl, rfl, rfl, by rw [size_iter]; exact Nat.le_refl _, fun q hq hne => by
          have : W.heap.size ≠ q := fun e => hne (by rw [e])
          simp [World.iterAt, Array.getElem?_setIfInBounds, this]⟩ (fun r e => by cases e; exact ⟨Nat.le_refl _, _, hit, rfl⟩)
      have hit2 := heap_iter (q := posL ls (k + 1)) hit
      have hX2 : BoxIn Bx (wr.iterAt W.heap.size (textB ls) (posL ls (k + 1))) := hXr.congr (by rw [size_iter]; exact Nat.le_refl _) (by simp [World.iterAt, Array.getElem?_setIfInBounds, hne0])
      have hnX2 : ¬ boxX Bx (wr.iterAt W.heap.size (textB ls) (posL ls (k + 1))) W.heap.size := fun h => hnX ((boxX_congr (by simp [World.iterAt, Array.getElem?_setIfInBounds, hne0])).1 h)
      have hz2 : (wr.iterAt W.heap.size (textB ls) (posL ls (k + 1))).heap.size = wr.heap.size := size_iter _ _ _ _
      generalize hW2 : wr.iterAt W.heap.size (textB ls) (posL ls (k + 1)) = W2 at hJ2 hit2 hX2 hnX2 hz2 hnx
      have hJ3 : J pre (W2.alloc (.cells (u16C (splitN x)).toArray 40)) := hJ pre W2 _ none hJ2 (World.grownBy_alloc W2 _ none) (fun r e => by cases e)
      have hBx2 : Bx < W2.heap.size := by omega
      have hX3 : BoxIn Bx (W2.alloc (.cells (u16C (splitN x)).toArray 40)) := hX2.congr (by simp) (heap_alloc_old hBx2 _)
      have hnX3 : ¬ boxX Bx (W2.alloc (.cells (u16C (splitN x)).toArray 40)) W.heap.size := fun h => hnX2 ((boxX_congr (heap_alloc_old hBx2 _)).1 h)
      have hnX4 : ¬ boxX Bx (W2.alloc (.cells (u16C (splitN x)).toArray 40)) W2.heap.size := fun h => by
        have := hX2 _ ((boxX_congr (heap_alloc_old hBx2 _)).1 h)
        omega
      have hit3 : (W2.alloc (.cells (u16C (splitN x)).toArray 40)).heap[W.heap.size]? = some (.stringIter (textB ls) (posL ls (k + 1))) := heap_past hit2
      have hc3 : (W2.alloc (.cells (u16C (splitN x)).toArray 40)).heap[W2.heap.size]? = some (.cells (u16C (splitN x)).toArray 40 (0, 0)) := heap_at _ rfl
      have hsp := split_any x W2 hok
      have Hun := hide (unitsN_at hx)
      have Hlt := hide (splitN_lt hok)
      have hus := (splitN_len x).2
      have Hpf := hide (unitsN_pre ls (k + 1))
      clear hW2 hJs hJ2 hit hit2 hXr hX2 hnX hnX2 hx hok hne0
      generalize hW3 : W2.alloc (.cells (u16C (splitN x)).toArray 40) = W3 at hJ3 hX3 hnX3 hnX4 hit3 hc3 hsp
      have Hb1 := hide (show W.heap.size ≤ W2.heap.size by omega)
      clear hW3 hb0 hz2
      generalize hsx : splitN x = us at *
      clear hsx
      gi_wp2_with (refine ⟨trivial, ?_⟩; gi_at_call 28; refine (callsIn_wide.2 hsp).mono ?_; rintro e w2 ⟨rfl, rfl⟩)
      gi_loopg [15] us.length (fun gf s15 wi => ∃ (j : Nat) (pre2 : List U16), j + gf = us.length ∧ s15 = .int .i64 j ∧ Hid (vals pre2 = unitsN (ls.take k) ++ us.take j) ∧ J pre2 wi ∧ wi.heap[W.heap.size]? = some (.stringIter (textB ls) (posL ls (k + 1))) ∧ wi.heap[W2.heap.size]? = some (.cells (u16C us).toArray 40 (0, 0)) ∧ BoxIn Bx wi ∧ ¬ boxX Bx wi W.heap.size ∧ ¬ boxX Bx wi W2.heap.size)
      case atStart => exact ⟨0, pre, by omega, rfl, hide (by rw [Hpre.out]; simp), hJ3, hit3, hc3, hX3, hnX3, hnX4⟩
      case round =>
        clear hJ3 hit3 hc3 hX3 hnX3 hnX4 Hpre
        obtain ⟨j, pre2, hj9, rfl, Hpre2, hJi, hiti, hci, hXi, hnXi, hnXi2⟩ := hrel
        have Hj := hide hj9
        clear hj9
        by_cases hjl : j < us.length
        · obtain ⟨u, hu⟩ := u16_in Hlt.out hjl
          have Hlen := hide (show pre2.length < (unitsN ls).length by
            have h1 := congrArg List.length Hpre2.out
            have h2 := Hpf.out.length_le
            have h3 := congrArg List.length Hun.out
            rw [vals_len, List.length_append, List.length_take] at h1
            rw [List.length_append] at h3
            omega)
          have Hsn := hide (show vals (pre2 ++ [u]) = unitsN (ls.take k) ++ us.take (j + 1) by
            obtain ⟨hj1, hj2⟩ := List.getElem?_eq_some_iff.1 hu
            rw [vals_snoc, Hpre2.out, List.take_succ_eq_append_getElem hj1, hj2, List.append_assoc])
          have Hp2 := hide (show vals (pre2 ++ [u]) <+: unitsN ls by
            refine List.IsPrefix.trans ?_ Hpf.out
            rw [Hun.out, Hsn.out]
            exact (List.prefix_append_right_inj _).2 (List.take_prefix _ _))
          have hcell : wr.cell? ⟨W2.heap.size, j, none⟩ = some (.int .u16 ((u.1 : Nat) : Int)) := cell_heap hci (by simp [u16C, hu])
          obtain ⟨fn, tmps, assign, body, hy, hR⟩ := hY pre2 u wr hJi Hlen.out
          dsimp only [encU] at hy
          have hjl' : (j : Int) < (us.length : Int) := by omega
          clear hu
          gi_wp2
          refine hR.mono ?_
          rintro e W5 (⟨rfl, hJ5, hk5⟩ | ⟨rfl, hJx5⟩)
          · gi_wp2
            go_roundg (gk - 1)
            case measure => have := Hj.out; omega
            case rel => exact ⟨j + 1, pre2 ++ [u], by have := Hj.out; omega, by go_num, Hsn, hJ5, hk5.same _ _ hiti rfl hnXi, hk5.same _ _ hci rfl hnXi2, hXi.kept hk5, fun h => by
              rcases hk5.own _ h with h1 | h1
              · exact hnXi h1
              · have := heap_lt hiti; omega, fun h => by
              rcases hk5.own _ h with h1 | h1
              · exact hnXi2 h1
              · have := heap_lt hci; omega⟩
          · gi_wp2
            refine bodyPost_ret (results_none rfl _ _ _) rfl ?_
            exact ⟨⟨_, rfl⟩, .inr ⟨pre2 ++ [u], Hp2.out, hJx5⟩⟩
        · have hfi := hide (show vals pre2 = unitsN (ls.take (k + 1)) by rw [Hun.out, Hpre2.out, show us.take j = us from List.take_of_length_le (by omega)])
          have hjl' : (us.length : Int) ≤ (j : Int) := by omega
          gi_wp2
          go_roundg (g0 - 1)
          case measure => have := Hk.out; have := Hg.out; omega
          case rel => exact ⟨k + 1, pre2, by have := Hk.out; have := Hg.out; omega, hfi, hJi, hiti, hXi, hnXi⟩
    · have hnx := next_done hit (by omega)
      have hfin := hide (show vals pre = unitsN ls by rw [Hpre.out, List.take_of_length_le (by omega)])
      gi_wp2
      go_end0
      exact ⟨⟨_, rfl⟩, .inl ⟨pre, hfin.out, hJs⟩⟩
/-- the function value that units returns, over a text -/
theorem units_stops (n : Nat) (hn : 1 ≤ n) (ls : List Nat) (hls : ∀ c ∈ ls, okN c) (Bs Bx : Nat) (w : World) (hBs : Bs < w.heap.size) (hc : w.cell? ⟨Bs, 0, none⟩ = some (.string (textB ls))) (hBx : Bx < w.heap.size) (hX : BoxIn Bx w) :
    SeqStopsK Fence.wide n Tryd.prog 30 #[.pointer (some ⟨Bs, 0, none⟩)] encU (KeepsX Bx) (fun ys => vals ys = unitsN ls) (fun pre => vals pre <+: unitsN ls) (unitsN ls).length w := fun l J Jx W hW hJ _ hY h0 =>
  units1_in n hn l ls hls Bs Bx J Jx hY W hJ ((hW.cell (p := ⟨Bs, 0, none⟩) hBs).trans hc) (Nat.lt_of_lt_of_le hBx hW.size) (hX.congr hW.size (hW.block Bx hBx)) h0
theorem units_make (s : ByteArray) (w : World) : Calls Tryd.prog 24 #[.string s] w fun e w' => e = .returned (.func (.func 30) #[] #[.pointer (some ⟨w.heap.size, 0, none⟩)]) ∧ w' = w.alloc (.cells #[.string s] 9) := by
  refine callsIn_wide (n := 3).1 (callsIn_of_wp Tryd.func24 rfl trivial ?_ rfl)
  simp only [Tryd.ntmps24, List.size_toArray, List.length_cons, List.length_nil, Nat.reduceAdd, Nat.reduceSub, Array.replicate_succ, Array.replicate_zero, List.push_toArray, List.append_toArray, List.nil_append, List.cons_append]
  gi_wp2
  go_ret
  exact ⟨rfl, rfl⟩
end Go.Proofs.YtokijdgakphfiaaDoor
