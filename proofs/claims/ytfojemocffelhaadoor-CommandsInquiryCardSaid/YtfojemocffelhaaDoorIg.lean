
/- Repeat, HasSuffix, DecodeCapacity; appending a text. -/
import Derived.Test.YtfojemocffelhaaDoorChecked
import Derived.Deep.RegionHeld3
import Derived.Deep.DrawnRows
import Derived.Deep.DeepCutAuto
import Derived.Deep.LoopGhost
import Derived.Outline
import Derived.Handy
import Derived.OwnWalk
import Derived.StillTailTactics
import Derived.Lib.AppendStr
import Derived.Test.YtfojemocffelhaaDoorIe
import Derived.Test.YtfojemocffelhaaDoorIc
set_option linter.unusedVariables false
set_option linter.unusedSimpArgs false
set_option linter.unusedSectionVars false
namespace Go.Proofs.YtfojemocffelhaaDoor
open Go.RowKit Go.Shelf
attribute [local go_sem ↓] Go.wp_at_zero Go.wp_at_succ

theorem extraRepeat : Builder.Extra Tryd.prog laysRepeat_ren where
  sizeBuilder := by kernel_rfl
  liesBuilder := by kernel_rfl
  t5 := Tryd.underlying5
  a5 := Tryd.isAgg5
  z5 := Tryd.sizeOf5
  v5 := Tryd.zeroValue5
  infoByte := by kernel_rfl
  cellsByte := by kernel_rfl
  sizeByte := by kernel_rfl
  neB5 := by decide
theorem rep_any (n : Nat) (w : World) (hn : n ≤ 100) : Calls Tryd.prog 37 #[.string ⟨#[32]⟩, .int .i64 (n : Int)] w fun e w' => e = .returned (.string ⟨(List.replicate n (32 : UInt8)).toArray⟩) ∧ Kept w w' := by
  have h := Any.strings_Repeat laysRepeat extraRepeat ⟨#[32]⟩ n w (by omega) (by show 1 * n ≤ _; omega)
  rw [show (⟨#[32]⟩ : ByteArray).data.toList = [32] from rfl, repeat_32] at h
  exact h
theorem suffix_any (s : ByteArray) (w : World) (hs : s.size ≤ 100) : Calls Tryd.prog 36 #[.string s, .string ⟨#[32]⟩] w fun e w' => e = .returned (.bool (Lib.hasSuffix s.data.toList [32])) ∧ w = w' :=
  (Any.strings_HasSuffix laysSuffix s ⟨#[32]⟩ w (by omega)).mono fun _ _ ⟨h1, h2⟩ => ⟨h1, h2.symm⟩

set_option maxRecDepth 100000 in
set_option maxHeartbeats 2000000 in
theorem dcap_bad (A : Option Addr) (n c : Nat) (w : World) (hn : n ≠ 8) :
    Calls Tryd.prog 26 #[.slice A n c] w fun e w' => e = .returned (.tuple #[.agg #[.int .u32 0, .int .u32 0], .int .i64 5]) ∧ Kept w w' := by
  have hn' : ((n : Int) != 8) = true := by
    rw [bne_iff_ne]
    omega
  go_enter Tryd.func26, Tryd.ntmps26
  go_wp2_with fail
  refine bodyPost_ret (v := .tuple #[.agg #[.int .u32 0, .int .u32 0], .int .i64 5]) (by simp [results, Tryd.results26, go_sem]) rfl ?_
  exact ⟨rfl, by go_grown⟩
set_option maxRecDepth 100000 in
set_option maxHeartbeats 4000000 in
theorem dcap_ok (b off c : Nat) (l1 l2 : List UInt8) (w : World) (h1 : l1.length = 4) (h2 : l2.length = 4) (hc : 8 ≤ c) (hB : Bs w b off (l1 ++ l2)) :
    Calls Tryd.prog 26 #[.slice (some ⟨b, off, none⟩) 8 c] w fun e w' => e = .returned (.tuple #[.agg #[.int .u32 (accN l1), .int .u32 (accN l2)], .int .i64 0]) ∧ Kept w w' := by
  have hbw := hB.1
  have hn1 : ∀ W cap, Kept w W → _ := fun W cap hk => (number4 b off cap l1 W h1 (fun j x hx => (hB.kept hk).2 j x (by rw [List.getElem?_append_left (by have := (List.getElem?_eq_some_iff.1 hx).1; omega)]; exact hx)))
  have hn2 : ∀ W cap, Kept w W → _ := fun W cap hk => (number4 b (off + 4) cap l2 W h2 (fun j x hx => by
    rw [Nat.add_assoc]
    exact (hB.kept hk).2 (4 + j) x (by rw [List.getElem?_append_right (by omega), h1, Nat.add_sub_cancel_left]; exact hx)))
  have hc1 : (4 : Int) < (c : Int) := by omega
  have hc2 : (8 : Int) ≤ (c : Int) := by omega
  have hc3 : (4 : Int) ≤ (c : Int) := by omega
  have hc4 : ¬ c = 4 := by omega
  generalize accN l1 = a1 at *
  generalize accN l2 = a2 at *
  clear h1 h2 hB hc
  go_enter Tryd.func26, Tryd.ntmps26
  go_wp2_with fail
  refine wp_name (B := w.heap.size) (w0 := w) (by go_grown) (fun W hcW hfW hz hkW => ?_)
  simp only [World.size_alloc] at hz
  have c1 := hn1 W.drew c hkW.drew
  have c2 := hn2 W.drew (c - 4) hkW.drew
  clear hn1 hn2
  refine wp_region_still_tail 7 (by kernel_rfl) (by kernel_rfl) ?_
  simp only [List.take_succ_cons, List.take_zero, List.drop_succ_cons, List.drop_zero]
  still_step
  still_step
  still_call c1
  still_step
  still_step
  still_call c2
  clear c1 c2
  repeat still_step
  try refine wpStill_nil ?_
  go_wp2_with fail
  refine bodyPost_ret (v := .tuple #[.agg #[.int .u32 a1, .int .u32 a2], .int .i64 0]) (by simp [results, Tryd.results26, go_sem, hcW, hz]) rfl ?_
  exact ⟨rfl, (hkW.drew.setCell (Nat.le_refl _) _).setCell (Nat.le_refl _) _⟩

theorem str_cells (t : ByteArray) : Lib.strCells t = u8C t.data.toList := rfl
/-- a text behind the bytes that the call owns -/
theorem wp_append_str {W : World} {o : Oper} {a : Act} {K : Act → World → Prop} {Q : Exit → Act → World → Prop} (s x : Operand)
    (ho : o.op = .call { callee := .builtin .append, args := #[s, x], argTypes := #[32, 9] }) (base : Nat) (v : Value) (n : Nat) (l : List UInt8) (hs : a.eval s = v) (hown : W.ownsRow base 5 1 v n (u8C l))
    (t : ByteArray) (hx : a.eval x = .string t) (hn : n + t.size ≤ 1000) (hbase : base ≤ W.heap.size)
    (h : ∀ v' w', w'.ownsRow base 5 1 v' (n + t.size) (u8C (l ++ t.data.toList)) → Below base W w' → K (a.put o.dst v') w') : o.wp Tryd.prog a W K Q := by
  obtain ⟨i5, hi5, hz50, hz51, hz52⟩ := info_parts info5
  obtain ⟨v', w', hr, h2, h3, h4⟩ := Lib.run_append_own_string (P := Tryd.prog) W base 32 9 o.type 5 i5 Tryd.underlying32 Tryd.underlying9 hi5 hz50 hz51 hz52 v n _ hown t (by unfold maxLen; omega) (by omega) hbase
  unfold Oper.wp execOp
  simp only [ho, resolve, invoke, builtin, Sem.run_bind, Sem.run_pure, Result.andThen_ok, List.map_toArray, List.map_cons, List.map_nil, hs, hx, hr]
  refine h v' w' ?_ ((Below.refl _ _).grown h3 hbase (fun k hk => (hown.lt k hk).1))
  rw [u8C_append, ← str_cells]
  exact h2
end Go.Proofs.YtfojemocffelhaaDoor
