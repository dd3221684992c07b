
/- utf8.ValidString, by its contract of the shelf; the places of a text's characters. The two tables of unicode/utf8 are as the program lays them. -/
import Derived.Ground.NamesProg
import Derived.Shelf.Unicode.ValidAny
import Derived.Laws.RangeAny
import Derived.Lib.OthersKept
import Derived.Test.YtokijdgakphfiaaDoorSi
namespace Go.Proofs
open Go.Shelf
def YtokijdgakphfiaaDoor.laysValid_ren : Go.Shelf.Ren := ⟨fun | 196 => 23 | 259 => 29 | n => n, fun | 9 => 9 | 4 => 4 | 3 => 3 | 5 => 5 | 12 => 12 | 119 => 62 | 0 => 0 | 46 => 59 | 139 => 65 | 138 => 64 | 53 => 68 | n => n, fun | 3 => 0 | 4 => 1 | n => n⟩
theorem YtokijdgakphfiaaDoor.laysValid : Go.Proofs.Lays.n196 Tryd.prog YtokijdgakphfiaaDoor.laysValid_ren := {
  mixed := by kernel_rfl
  f196 := Tryd.func23.trans (congrArg some (by kernel_rfl))
  f259 := Tryd.func29.trans (congrArg some (by kernel_rfl))
  t0 := Tryd.underlying0
  a0 := Tryd.isAgg0
  z0 := Tryd.sizeOf0
  v0 := Tryd.zeroValue0
  t3 := Tryd.underlying3
  a3 := Tryd.isAgg3
  z3 := Tryd.sizeOf3
  v3 := Tryd.zeroValue3
  t4 := Tryd.underlying4
  a4 := Tryd.isAgg4
  z4 := Tryd.sizeOf4
  v4 := Tryd.zeroValue4
  t5 := Tryd.underlying5
  a5 := Tryd.isAgg5
  z5 := Tryd.sizeOf5
  v5 := Tryd.zeroValue5
  t9 := Tryd.underlying9
  a9 := Tryd.isAgg9
  z9 := Tryd.sizeOf9
  v9 := Tryd.zeroValue9
  t12 := Tryd.underlying12
  a12 := Tryd.isAgg12
  z12 := Tryd.sizeOf12
  v12 := Tryd.zeroValue12
  t46 := Tryd.underlying59
  a46 := Tryd.isAgg59
  z46 := Tryd.sizeOf59
  v46 := Tryd.zeroValue59
  t53 := Tryd.underlying68
  a53 := Tryd.isAgg68
  z53 := Tryd.sizeOf68
  v53 := Tryd.zeroValue68
  t119 := Tryd.underlying62
  a119 := Tryd.isAgg62
  z119 := Tryd.sizeOf62
  t138 := Tryd.underlying64
  a138 := Tryd.isAgg64
  z138 := Tryd.sizeOf64
  v138 := Tryd.zeroValue64
  t139 := Tryd.underlying65
  a139 := Tryd.isAgg65
  z139 := Tryd.sizeOf65
  v139 := Tryd.zeroValue65
  g3 := by kernel_rfl
  g4 := by kernel_rfl }
end Go.Proofs
namespace Go.Proofs.YtokijdgakphfiaaDoor
open Go.RowKit Go.Shelf Go.Lib

/-- the two tables of unicode/utf8 lie as the program lays them -/
def Tabs (w : World) : Prop := Lib.Utf8Tabs (laysValid_ren.g 3) (laysValid_ren.g 4) w
theorem Tabs.below {w w' : World} (h : Tabs w) (hb : Kept w w') : Tabs w' := Utf8Tabs_below h hb
theorem valid_any (s : ByteArray) (w : World) (hs : s.size ≤ 100000) (hT : Tabs w) :
    Calls Tryd.prog 23 #[.string s] w fun e w' => e = .returned (.bool (Lib.validD s.data.toList)) ∧ Kept w w' :=
  Any.utf8_ValidString laysValid s w (by omega) hT
theorem valid_yes {l : List Nat} (hl : ∀ n ∈ l, okN n) (w : World) (hs : (textB l).size ≤ 100000) (hT : Tabs w) :
    Calls Tryd.prog 23 #[.string (textB l)] w fun e w' => e = .returned (.bool true) ∧ Kept w w' := by
  have h := valid_any (textB l) w hs hT
  rwa [textB_list, valid_text l hl] at h

/-- where a text's character k begins -/
def posL (l : List Nat) (k : Nat) : Nat := (textL (l.take k)).length
theorem posL_zero (l : List Nat) : posL l 0 = 0 := by simp [posL, textL_nil]
theorem text_at {l : List Nat} {k x : Nat} (hx : l[k]? = some x) : textL l = textL (l.take k) ++ (encL x ++ textL (l.drop (k + 1))) := by
  rw [← textL_cons, ← textL_append, ← drop_at hx, List.take_append_drop]
theorem posL_succ {l : List Nat} {k x : Nat} (hx : l[k]? = some x) : posL l (k + 1) = posL l k + (encN x).length := by
  obtain ⟨hk, e⟩ := List.getElem?_eq_some_iff.1 hx
  unfold posL
  rw [List.take_succ_eq_append_getElem hk, e, textL_append, List.length_append, textL_cons, textL_nil, List.append_nil, encL_length]
theorem posL_lt {l : List Nat} {k x : Nat} (hx : l[k]? = some x) : posL l k < (textB l).size := by
  have h := congrArg List.length (text_at hx)
  have h2 := encN_pos x
  rw [List.length_append, List.length_append, encL_length] at h
  rw [Lib.size_eq, textB_list, h]
  unfold posL; omega
theorem posL_end {l : List Nat} {k : Nat} (hk : l.length ≤ k) : ¬ posL l k < (textB l).size := by
  unfold posL
  rw [List.take_of_length_le hk, Lib.size_eq, textB_list]; omega
theorem decode_at {l : List Nat} {k x : Nat} (hl : ∀ n ∈ l, okN n) (hx : l[k]? = some x) : Utf8.decode (textB l) (posL l k) = (x, (encN x).length) := by
  rw [← decodeL_drop, textB_list, text_at hx]
  unfold posL
  rw [List.drop_left, decode_enc (hl x (List.mem_of_getElem? hx))]
theorem next_text {l : List Nat} {k x b : Nat} {wr : World} (hl : ∀ n ∈ l, okN n) (hit : wr.heap[b]? = some (.stringIter (textB l) (posL l k))) (hx : l[k]? = some x) (ty : TypeId) :
    (Instr.next (.pointer (some ⟨b, 0, none⟩)) true ty).run Tryd.prog wr = .ok (.tuple #[.bool true, .int .i64 (posL l k : Nat), .int .i32 (x : Int)]) (wr.iterAt b (textB l) (posL l (k + 1))) := by
  have h := Lib.run_next_any_at (P := Tryd.prog) wr b (textB l) (posL l k) ty hit (posL_lt hx)
  rw [decode_at hl hx] at h
  rw [posL_succ hx]
  exact h
theorem next_done {l : List Nat} {k b : Nat} {wr : World} (hit : wr.heap[b]? = some (.stringIter (textB l) (posL l k))) (hk : l.length ≤ k) (ty : TypeId) :
    (Instr.next (.pointer (some ⟨b, 0, none⟩)) true ty).run Tryd.prog wr = .ok (.tuple #[.bool false]) wr := Lib.run_next_end_at wr b (textB l) (posL l k) ty hit (posL_end hk)
theorem heap_iter {w : World} {b : Nat} {s : ByteArray} {p q : Nat} (h : w.heap[b]? = some (.stringIter s p)) : (w.iterAt b s q).heap[b]? = some (.stringIter s q) := Lib.iterAt_heap w b s p q h
theorem size_iter (w : World) (b : Nat) (s : ByteArray) (q : Nat) : (w.iterAt b s q).heap.size = w.heap.size := by simp [World.iterAt]
theorem below_iter {B b : Nat} {w0 w : World} (h : Below B w0 w) (hb : B ≤ b) (s : ByteArray) (q : Nat) : Below B w0 (w.iterAt b s q) :=
  h.trans ⟨rfl, rfl, rfl, by rw [size_iter]; exact Nat.le_refl _, fun k hk => by simp [World.iterAt, Array.getElem?_setIfInBounds, show b ≠ k by omega]⟩
theorem heap_iter_other {w : World} {b k : Nat} {s : ByteArray} {q : Nat} {u : Obj} (h : w.heap[k]? = some u) (hne : b ≠ k) : (w.iterAt b s q).heap[k]? = some u := by
  simp [World.iterAt, Array.getElem?_setIfInBounds, hne, h]
theorem extract_at (l : List Nat) (k : Nat) : (textB l).extract 0 (posL l k) = textB (l.take k) := by
  apply bytes_ext
  rw [textB_list, ByteArray.data_extract, Array.toList_extract, textB_list]
  unfold posL
  conv => lhs; rw [show textL l = textL (l.take k) ++ textL (l.drop k) by rw [← textL_append, List.take_append_drop]]
  simp
end Go.Proofs.YtokijdgakphfiaaDoor
