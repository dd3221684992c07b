
/- The library's functions that the chapter calls, by their contracts of the shelf. The library's variables are as the program lays them. -/
import Derived.Test.YtfoeihbajichpaaDoorChecked
import Derived.Deep.RegionHeld3
import Derived.Deep.DrawnRows
import Derived.Deep.DeepCutAuto
import Derived.Deep.LoopGhost
import Derived.Outline
import Derived.Handy
import Derived.OwnWalk
import Derived.Shelf.SlSorted.Search
import Derived.Lib.AtoiErrMem
import Derived.Test.YtfoeihbajichpaaDoorSa
import Derived.Test.YtfoeihbajichpaaDoorTa
import Derived.Test.YtfoeihbajichpaaDoorMv
import Derived.Test.YtfoeihbajichpaaDoorPd
set_option linter.unusedVariables false
set_option linter.unusedSimpArgs false
set_option linter.unusedSectionVars false
namespace Go.Proofs.YtfoeihbajichpaaDoor
open Go.RowKit Go.Shelf Go.Lib
attribute [local go_sem ↓] Go.wp_at_zero Go.wp_at_succ

/-- the library's variables, as the program lays them -/
structure Tabs (W : World) : Prop where
  syn : ∃ te pe, W.cell? ⟨0, 0, none⟩ = some (.iface te pe)
  rng : ∃ te pe, W.cell? ⟨1, 0, none⟩ = some (.iface te pe)
  mx : ∃ m, W.cell? ⟨2, 0, none⟩ = some (.int .i64 m)
  pow : ∃ t fr, W.heap[3]? = some (.cells (Lib.pow10Tab.map fun z => Value.int .u64 z).toArray t fr)
theorem Tabs.lt {w : World} (h : Tabs w) : 3 < w.heap.size := by
  obtain ⟨_, _, _, ⟨_, _, h2⟩⟩ := h
  exact (Array.getElem?_eq_some_iff.1 h2).1
theorem Tabs.kept {w w' : World} (h : Tabs w) (hk : Kept w w') : Tabs w' := by
  have hlt := h.lt
  obtain ⟨⟨t0, p0, h0⟩, ⟨t1, p1, h1⟩, ⟨m, h2⟩, ⟨t, fr, h3⟩⟩ := h
  exact ⟨⟨t0, p0, (hk.cell (p := ⟨0, 0, none⟩) (by show 0 < _; omega)).trans h0⟩, ⟨t1, p1, (hk.cell (p := ⟨1, 0, none⟩) (by show 1 < _; omega)).trans h1⟩, ⟨m, (hk.cell (p := ⟨2, 0, none⟩) (by show 2 < _; omega)).trans h2⟩, ⟨t, fr, heap_kept hk h3⟩⟩
theorem Tabs.alloc {w : World} (h : Tabs w) (o : Obj) : Tabs (w.alloc o) := h.kept ((Below.refl _ _).alloc (Nat.le_refl _) o)
theorem Tabs.drew {w : World} (h : Tabs w) : Tabs w.drew := h.kept (Below.refl _ _).drew
theorem Tabs.powIs {w : World} (h : Tabs w) {n : String} (hn : Tryd.prog.globalNamed n = some 3) : Lib.TabIs Tryd.prog w n .u64 Lib.pow10Tab := by
  obtain ⟨_, _, _, ⟨t, fr, h1⟩⟩ := h
  unfold Lib.TabIs World.var?
  rw [hn]
  simp only [Option.bind_some, h1]

theorem split_len : ∀ (k : Nat) (s : ByteArray), Lib.countB s spB = k → (Lib.splitB spB 0 k s).length = k + 1
  | 0, s, _ => rfl
  | k + 1, s, h => by
    have hge := Lib.index_ge s.data.toList spB.data.toList
    have hi : Lib.indexB s spB ≠ -1 := fun e => by rw [Lib.countB_miss s spB e] at h; omega
    obtain ⟨i, hi2⟩ : ∃ i : Nat, Lib.indexB s spB = i := ⟨(Lib.indexB s spB).toNat, by have h1 : -1 ≤ Lib.indexB s spB := hge; omega⟩
    have hc := Lib.countB_hit s spB i (by decide) hi2
    rw [Lib.splitB_hit spB 0 k s i hi2, List.length_cons, split_len k _ (by omega)]
theorem words_len (s : ByteArray) : Lib.countB s spB + 1 = (wordsB s).length := (split_len _ s rfl).symm
theorem split_any (s : ByteArray) (w : World) (hs : s.size < 4294967281) (hT : Tabs w) :
    Calls Tryd.prog 36 #[.string s, .string ⟨#[32]⟩] w fun e w' => e = .returned (.slice (some ⟨w.heap.size, 0, none⟩) (wordsB s).length (wordsB s).length) ∧ w' = w.alloc (.cells ((wordsB s).map Value.string).toArray 9) := by
  obtain ⟨m, hm⟩ := hT.mx
  refine (Any.strings_Split { laysSplit with } laysSplit.i9 s spB m w hs hm (by decide)).mono ?_
  rintro e w' ⟨rfl, rfl⟩
  exact ⟨by rw [words_len], rfl⟩
theorem laysExtra : Builder.Extra Tryd.prog laysJoin_ren where
  sizeBuilder := by kernel_rfl
  liesBuilder := by kernel_rfl
  t5 := Tryd.underlying5
  a5 := Tryd.isAgg5
  z5 := Tryd.sizeOf5
  v5 := Tryd.zeroValue5
  infoByte := by kernel_rfl
  cellsByte := by kernel_rfl
  sizeByte := by kernel_rfl
  neB5 := by decide
theorem join_any (bk o c : Nat) (xs : List ByteArray) (w : World) (hcells : ∀ (j : Nat) x, xs[j]? = some x → w.cell? ⟨bk, o + j, none⟩ = some (.string x)) (hbk : bk < w.heap.size) (hN : xs.length ≤ 140737488355328) (hcap : xs.length ≤ c)
    (hlen : (Lib.join (xs.map (·.data.toList)) [32]).length ≤ 140737488355328) :
    Calls Tryd.prog 43 #[.slice (some ⟨bk, o, none⟩) xs.length c, .string ⟨#[32]⟩] w fun e w' => e = .returned (.string (B8 (Lib.join (xs.map (·.data.toList)) [32]))) ∧ Kept w w' :=
  Any.strings_Join laysJoin laysExtra bk o c xs spB w hcells hbk hN hcap hlen
theorem itoa_any (n : Int) (w : World) (h0 : -9223372036854775808 ≤ n) (h1 : n ≤ 9223372036854775807) (hT : Tabs w) :
    Calls Tryd.prog 44 #[.int .i64 n] w fun e w' => e = .returned (.string (B8 (Lib.itoa n))) ∧ Kept w w' := by
  refine (Any.strconv_Itoa laysItoa n h0 h1 w (hT.powIs laysItoa.m17)).mono ?_
  rintro e w' ⟨rfl, k, os, rfl⟩
  exact ⟨rfl, below_grown_sl _ w k os (Nat.le_refl _)⟩
theorem index_any (b off c : Nat) (zs : List ByteArray) (x : ByteArray) (w : World) (hbig : zs.length ≤ 9223372036854775807) (hc : ∀ j, j < zs.length → w.cell? ⟨b, off + j, none⟩ = some (.string (zs.getD j ByteArray.empty))) :
    Calls Tryd.prog 38 #[.slice (some ⟨b, off, none⟩) zs.length c, .string x] w fun e w' => e = .returned (.int .i64 (Lib.idxOfS zs x)) ∧ w' = w := by
  have h := Any.slices_Index_string laysIndex b off zs.length c zs x w (Nat.le_refl _) hbig hc
  rw [List.take_length] at h
  exact h
/-- what Atoi finds in bytes: the number, and whether it is an error -/
def atoiV (l : List UInt8) : Int := match Lib.atoiAll l with | .ok v => v | .range => Lib.atoiSat l | _ => 0
def atoiE (l : List UInt8) : Bool := match Lib.atoiAll l with | .ok _ => false | _ => true
theorem atoi_ok (s : ByteArray) (w : World) (hs : s.size ≤ 1000) (h : atoiE s.data.toList = false) :
    Calls Tryd.prog 39 #[.string s] w fun e w' => e = .returned (.tuple #[.int .i64 (atoiV s.data.toList), .nilIface]) ∧ Kept w w' := by
  unfold atoiE at h
  unfold atoiV
  cases ha : Lib.atoiAll s.data.toList
  · rename_i v
    refine (Any.strconv_Atoi_ok laysAtoi s (by omega) v ha w).mono ?_
    rintro e w' ⟨rfl, hw⟩
    refine ⟨rfl, ?_⟩
    rcases hw with rfl | ⟨t, rfl⟩
    · exact Below.refl _ _
    · exact Lib.bytesWorld_below _ _ _
  · rw [ha] at h; cases h
  · rw [ha] at h; cases h
theorem atoi_bad (s : ByteArray) (w : World) (hs : s.size ≤ 1000) (hT : Tabs w) (h : atoiE s.data.toList = true) :
    Calls Tryd.prog 39 #[.string s] w fun e w' => ∃ N, e = .returned (.tuple #[.int .i64 (atoiV s.data.toList), .iface 97 (.pointer (some ⟨N, 0, none⟩))]) ∧ Kept w w' := by
  unfold atoiE at h
  unfold atoiV
  obtain ⟨t0, p0, h0⟩ := hT.syn
  obtain ⟨t1, p1, h1⟩ := hT.rng
  cases ha : Lib.atoiAll s.data.toList
  · rw [ha] at h; cases h
  · refine (Any.strconv_Atoi_syntax laysAtoi s (by omega) ha (.iface t0 p0) w h0 (.inr ⟨_, _, rfl⟩)).mono ?_
    rintro e w' ⟨N, rfl, _, _, hb⟩
    exact ⟨N, rfl, hb⟩
  · refine (Any.strconv_Atoi_range laysAtoi s (by omega) ha (.iface t1 p1) w h1 (.inr ⟨_, _, rfl⟩)).mono ?_
    rintro e w' ⟨N, rfl, _, _, hb⟩
    exact ⟨N, rfl, hb⟩
theorem row_cell {w : World} {b : Nat} {l : List ByteArray} {t : TypeId} (h : w.heap[b]? = some (.cells (l.map Value.string).toArray t (0, 0))) {j : Nat} {x : ByteArray} (hx : l[j]? = some x) : w.cell? ⟨b, j, none⟩ = some (.string x) :=
  cell_heap h (by simp [hx])

theorem number_any (n : Int) (w : World) (h0 : 0 ≤ n) (h1 : n < 65536) (hT : Tabs w) :
    Calls Tryd.prog 41 #[.int .u16 n] w fun e w' => e = .returned (.string (B8 (Lib.itoa n))) ∧ Kept w w' := by
  go_enter Tryd.func41, Tryd.ntmps41
  go_wp2_with (go_at_call 44; refine (itoa_any n _ (by omega) (by omega) hT).mono ?_; rintro e w1 ⟨rfl, hk⟩)
  go_ret
  exact ⟨rfl, hk⟩
theorem split_at (L : List ByteArray) (s : ByteArray) (w : World) (h : wordsB s = L) (hs : s.size < 4294967281) (hT : Tabs w) :
    Calls Tryd.prog 36 #[.string s, .string ⟨#[32]⟩] w fun e w' => e = .returned (.slice (some ⟨w.heap.size, 0, none⟩) L.length L.length) ∧ w' = w.alloc (.cells (L.map Value.string).toArray 9) := by
  subst h; exact split_any s w hs hT
theorem names_cell {w : World} {b : Nat} (h : w.heap[b]? = some (.cells (namesB.map Value.string).toArray 9 (0, 0))) {c : Int} (h0 : 0 ≤ c) (h1 : c < 13) : w.cell? ⟨b, c.toNat, none⟩ = some (.string (B8 (nameW c))) := by
  refine row_cell h ?_
  unfold namesB nameW
  rw [List.getElem?_map, List.getD_eq_getElem?_getD, List.getElem?_eq_getElem (show c.toNat < namesL.length by show c.toNat < 13; omega)]
  rfl
set_option maxRecDepth 100000 in
theorem name_any (c : Int) (w : World) (h0 : 0 ≤ c) (h1 : c < 256) (hT : Tabs w) :
    Calls Tryd.prog 42 #[.int .u8 c] w fun e w' => e = .returned (.string (B8 (nameW c))) ∧ Kept w w' := by
  have hb := heap_at (w := w) (.cells (namesB.map Value.string).toArray 9) rfl
  by_cases hlt : c < 13
  · have hc := names_cell hb h0 hlt
    go_enter Tryd.func42, Tryd.ntmps42
    go_wp2_with (go_at_call 36; refine (split_at namesB _ _ (by decide +kernel) (by decide +kernel) hT).mono ?_; rintro e w1 ⟨rfl, rfl⟩; rw [show namesB.length = 13 from rfl])
    go_ret
    exact ⟨rfl, (Below.refl _ _).alloc (Nat.le_refl _) _⟩
  · have hge : (13 : Int) ≤ c := by omega
    have he : nameW c = [] := by
      unfold nameW
      rw [List.getD_eq_getElem?_getD, List.getElem?_eq_none (show namesL.length ≤ c.toNat by show 13 ≤ c.toNat; omega)]; rfl
    have He := Lib.hid he
    clear he hlt
    go_enter Tryd.func42, Tryd.ntmps42
    go_wp2_with (go_at_call 36; refine (split_at namesB _ _ (by decide +kernel) (by decide +kernel) hT).mono ?_; rintro e w1 ⟨rfl, rfl⟩; rw [show namesB.length = 13 from rfl])
    go_ret
    exact ⟨by rw [He.out]; rfl, (Below.refl _ _).alloc (Nat.le_refl _) _⟩
end Go.Proofs.YtfoeihbajichpaaDoor
