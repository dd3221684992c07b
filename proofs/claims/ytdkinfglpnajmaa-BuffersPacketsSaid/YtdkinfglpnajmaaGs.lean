
import Derived.Shelf.Abstract
import Derived.Shelf.RegionOpen
import Derived.WalkKit
import Derived.OwnWalkIn
import Derived.TacticsInMore
import Derived.LoopNIn
import Derived.LoopIn
import Derived.Maps.AppendAt
import Derived.Test.YtdkinfglpnajmaaChecked


/- Scatter: what its steps need; the lists that it refuses. -/
import Derived.Laws.CopyOwn
import Derived.OwnWalk
import Derived.IntWalk
import Derived.Test.YtdkinfglpnajmaaGr
import Derived.Test.YtdkinfglpnajmaaGf
set_option linter.unusedVariables false
set_option linter.unusedSimpArgs false
set_option linter.unusedSectionVars false
namespace Go.Proofs.Ytdkinfglpnajmaa
open Go.RowKit Go.Shelf

attribute [local go_sem] Oper.semAt_some

/-- bytes in memory -/
def u8T : Ty UInt8 := Ty.flat 1 (fun b : UInt8 => [.int .u8 (b.toNat : Int)]) (fun _ => True) (fun _ => rfl)
theorem u8_at {W : World} {F : Nat → Prop} {D : Option Addr} {n j : Nat} {ds : List UInt8} {x : UInt8} (h : Sl u8T W F D n ds) (hx : ds[j]? = some x) : ∃ b off, D = some ⟨b, off, none⟩ ∧ F b ∧ W.cell? ⟨b, off + j, none⟩ = some (.int .u8 (x.toNat : Int)) := by
  obtain ⟨b, off, cs, hA, hF, ⟨rfl, _⟩, hc⟩ := h.2 j x hx
  have h0 := hc 0 _ rfl
  simp only [u8T, Ty.flat, Nat.add_zero, Nat.mul_one] at h0
  exact ⟨b, off, hA, hF, h0⟩
theorem sl_u8 {W : World} {F : Nat → Prop} {D : Option Addr} {n : Nat} {ds : List UInt8} (hn : ds.length = n) (h : ∀ j x, ds[j]? = some x → ∃ b off, D = some ⟨b, off, none⟩ ∧ F b ∧ W.cell? ⟨b, off + j, none⟩ = some (.int .u8 (x.toNat : Int))) : Sl u8T W F D n ds :=
  ⟨hn, fun j x hx => by
    obtain ⟨b, off, hA, hF, hc⟩ := h j x hx
    refine ⟨b, off, [.int .u8 (x.toNat : Int)], hA, hF, ⟨rfl, trivial⟩, fun i v hv => ?_⟩
    match i, hv with
    | 0, hv =>
      cases hv
      simp only [u8T, Ty.flat, Nat.mul_one, Nat.add_zero]
      exact hc⟩
theorem u8_src {W : World} {F : Nat → Prop} {D : Option Addr} {n : Nat} {ds : List UInt8} (h : Sl u8T W F D n ds) (e : Nat) (hpos : 0 < (u8C (ds.take e)).length) :
    ∃ ad, D = some ad ∧ ∀ j v, (u8C (ds.take e))[j]? = some v → W.cell? (ad.add j) = some v := by
  have h0 : 0 < ds.length := by
    unfold u8C at hpos
    rw [List.length_map, List.length_take] at hpos
    omega
  obtain ⟨b, off, hA, _, _⟩ := u8_at h (List.getElem?_eq_getElem h0)
  refine ⟨⟨b, off, none⟩, hA, fun j v hv => ?_⟩
  unfold u8C at hv
  rw [List.getElem?_map, Option.map_eq_some_iff] at hv
  obtain ⟨x, hx, rfl⟩ := hv
  rw [List.getElem?_take] at hx
  split at hx
  · obtain ⟨b', off', hA', _, hc⟩ := u8_at h hx
    rw [hA] at hA'
    cases hA'
    rw [Addr.add_mid]
    exact hc
  · cases hx
/-- a tail of bytes -/
theorem dtail (D : Option Addr) (n c e : Nat) (he : e ≤ n) (hnc : n ≤ c) : ∃ D', (∀ W, (Instr.slice 29 (.slice D n c) (some (.int .i64 (e : Int))) none none).run Try.prog W = .ok (.slice D' (n - e) (c - e)) W ∧ (Instr.sliceAt 29 (.slice D n c) (some (.int .i64 (e : Int))) none none).run Try.prog W = .ok (.slice D' (n - e) (c - e)) W) ∧
    ∀ W F ds, Sl u8T W F D n ds → Sl u8T W F D' (n - e) (ds.drop e) := by
  have hel : Try.prog.elem 29 = 5 := by kernel_rfl
  have hs : ∀ W, (Instr.slice 29 (.slice D n c) (some (.int .i64 (e : Int))) none none).run Try.prog W = .ok (sliced D e n c 1) W := fun W => by
    rw [run_slice_l (w := W) 29 _ n c (by rw [hel]; exact Try.underlying29) .i64 (e : Int) (by omega) (by omega), hel, Try.sizeOf5]
    rfl
  refine ⟨if c = e then D else D.map fun a : Addr => a.add (e * 1), fun W => ⟨hs W, ?_⟩, fun W F ds h => ?_⟩
  · rw [run_sliceAt_slice (w := W) 29 _ _ _ _ (by rw [hel]; exact Try.underlying29), hs]
    rfl
  · have hl := h.1
    refine sl_u8 (by rw [List.length_drop, hl]) (fun j x hx => ?_)
    rw [List.getElem?_drop] at hx
    have hj := (List.getElem?_eq_some_iff.1 hx).1
    obtain ⟨b, off, hA, hF, hc⟩ := u8_at h hx
    refine ⟨b, off + e, ?_, hF, by rw [Nat.add_assoc]; exact hc⟩
    rw [if_neg (by omega), hA]
    simp [Addr.add_mid]
/-- a copy into a row that is known whole: what is laid, and that nothing else turns -/
def Copied (w w' : World) (g : Nat) (cur : List Value) (off : Nat) (cs : List Value) : Prop :=
  w'.heap[g]? = some (.cells (splice cur off cs).toArray 5 (0, 0)) ∧ (∀ k, k ≠ g → w'.heap[k]? = w.heap[k]?) ∧ w'.heap.size = w.heap.size ∧ ∀ B w0, B ≤ g → Below B w0 w → Below B w0 w'
theorem copy_run (w : World) (ty : TypeId) (dp sp : Option Addr) (dLen dCap sLen sCap g off : Nat) (cur cs : List Value) (hg : w.heap[g]? = some (.cells cur.toArray 5 (0, 0))) (hn : cs.length = Nat.min sLen dLen)
    (hpos : 0 < cs.length → dp = some ⟨g, off, none⟩ ∧ ∃ ad, sp = some ad ∧ ∀ j v, cs[j]? = some v → w.cell? (ad.add j) = some v) (hfit : off + cs.length ≤ cur.length) (h1 : ∀ v ∈ cs, v.oneCell' = true) :
    ∃ w', (Builtin.copy_ #[29, 29] ty #[.slice dp dLen dCap, .slice sp sLen sCap]).run Try.prog w = .ok (goInt cs.length) w' ∧ Copied w w' g cur off cs := by
  by_cases h0 : cs.length = 0
  · obtain rfl : cs = [] := List.eq_nil_of_length_eq_zero h0
    exact ⟨w, run_copy_none (P := Try.prog) w 29 29 ty 5 dp sp dLen dCap sLen sCap Try.underlying29 (by kernel_rfl) (by simpa using hn.symm), by simpa [splice] using hg, fun _ _ => rfl, rfl, fun _ _ _ h => h⟩
  · obtain ⟨rfl, ad, rfl, hsrc⟩ := hpos (by omega)
    refine ⟨_, run_copy_row (P := Try.prog) w 29 29 ty 5 g off dLen dCap ad sLen sCap cur.toArray 5 cs Try.underlying29 (by kernel_rfl) hg hn hsrc (by simpa using hfit) h1, ?_, fun k hk => setRow_other w g k _ hk, by simp [World.setRow], fun B w0 hB h => below_setRow h hB _⟩
    simpa [splice] using setRow_heap w g _ _ 5 _ hg
theorem step_copy_at {ops : Array Oper} {o : Oper} {a : Act} {w : World} {K : Act → World → Prop} {Q : Exit → Act → World → Prop} {E : Prop} (hgd : o.guard = none) (d s : Operand)
    (ho : o.op = .call { callee := .builtin .copy, args := #[d, s], argTypes := #[29, 29] })
    (dp sp : Option Addr) (dLen dCap sLen sCap : Nat) (hd : a.eval d = .slice dp dLen dCap) (hs : a.eval s = .slice sp sLen sCap)
    (g off : Nat) (cur : List Value) (hg : w.heap[g]? = some (.cells cur.toArray 5 (0, 0))) (cs : List Value) (hn : cs.length = Nat.min sLen dLen)
    (hpos : 0 < cs.length → dp = some ⟨g, off, none⟩ ∧ ∃ ad, sp = some ad ∧ ∀ j v, cs[j]? = some v → w.cell? (ad.add j) = some v)
    (hfit : off + cs.length ≤ cur.length) (h1 : ∀ v ∈ cs, v.oneCell' = true)
    (h : ∀ w', Copied w w' g cur off cs → K (a.put o.dst (goInt cs.length)) w') :
    if Region.wanted o (yielded ops a.tmps) = true then Oper.wp Try.prog o a w K Q else E := by
  have hw : Region.wanted o (yielded ops a.tmps) = true := by simp [Region.wanted, hgd]
  rw [if_pos hw]
  obtain ⟨w', hrun, hc⟩ := copy_run w o.type dp sp dLen dCap sLen sCap g off cur cs hg hn hpos hfit h1
  unfold Oper.wp
  simp [execOp, ho, resolve, invoke, builtin, hd, hs, hrun, Result.andThen]
  exact h _ hc
theorem wpListIn_copy_at {F : Fence} {n : Nat} {ops : Array Oper} {rest : List Oper} {o : Oper} {a : Act} {w : World} {Q : Exit → Act → World → Prop} (hgd : o.guard = none) (d s : Operand)
    (ho : o.op = .call { callee := .builtin .copy, args := #[d, s], argTypes := #[29, 29] })
    (dp sp : Option Addr) (dLen dCap sLen sCap : Nat) (hd : a.eval d = .slice dp dLen dCap) (hs : a.eval s = .slice sp sLen sCap)
    (g off : Nat) (cur : List Value) (hg : w.heap[g]? = some (.cells cur.toArray 5 (0, 0))) (cs : List Value) (hn : cs.length = Nat.min sLen dLen)
    (hpos : 0 < cs.length → dp = some ⟨g, off, none⟩ ∧ ∃ ad, sp = some ad ∧ ∀ j v, cs[j]? = some v → w.cell? (ad.add j) = some v)
    (hfit : off + cs.length ≤ cur.length) (h1 : ∀ v ∈ cs, v.oneCell' = true)
    (h : ∀ w', Copied w w' g cur off cs → wpListIn F n Try.prog ops Q rest (a.put o.dst (goInt cs.length)) w') :
    wpListIn F n Try.prog ops Q (o :: rest) a w := by
  refine wpListIn_plain hgd fun K hK => ?_
  obtain ⟨w', hrun, hc⟩ := copy_run w o.type dp sp dLen dCap sLen sCap g off cur cs hg hn hpos hfit h1
  unfold Oper.wpIn
  refine ⟨by simp [Oper.about, ho, resolve, Target.leads, Sem.run_pure], ?_⟩
  rw [Oper.semAt_plain F _ _ (by rw [ho]; intro c hc'; cases hc')]
  simp [execOp, ho, resolve, invoke, builtin, hd, hs, hrun, Result.andThen]
  exact hK _ _ (h _ hc)
theorem makeQ (T : Nat) (hT : T ≤ 100000) (W : World) : (Instr.makeSlice 29 (.int .i64 (T : Int)) (.int .i64 (T : Int))).run Try.prog W = .ok (.slice (some ⟨W.heap.size, 0, none⟩) T T) (W.alloc (.cells (List.replicate T (Value.int .u8 0)).toArray 5)) := by
  obtain ⟨i, hi, hz0, hz1, hz2⟩ := info_parts info5
  have hr := run_make (P := Try.prog) W 29 5 i _ Try.underlying29 hi hz0 .i64 .i64 T T (by omega) (by omega) (by rw [hz2]; omega) (by omega)
  rw [hr, hz1, Int.toNat_natCast, Nat.mul_one, made_len _ rfl]
  rfl
theorem u8C_splice (m xs : List UInt8) (a : Nat) : splice (u8C m) a (u8C xs) = u8C (m.take a ++ xs ++ m.drop (a + xs.length)) := by
  unfold splice u8C
  simp [List.map_take, List.map_drop]
end Go.Proofs.Ytdkinfglpnajmaa
