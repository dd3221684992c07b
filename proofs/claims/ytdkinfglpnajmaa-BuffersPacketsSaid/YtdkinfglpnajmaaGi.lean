
import Derived.Shelf.Abstract
import Derived.Shelf.RegionOpen
import Derived.WalkKit
import Derived.OwnWalkIn
import Derived.TacticsInMore
import Derived.LoopNIn
import Derived.LoopIn
import Derived.Maps.AppendAt
import Derived.Test.YtdkinfglpnajmaaChecked

/- window$1: the iterator over the parts of the pieces. -/
import Derived.Sort.LoopGhostIn
import Derived.Shelf.Abstract
import Derived.Shelf.RegionOpen
import Derived.WalkKit
import Derived.OwnWalkIn
import Derived.TacticsInMore
import Derived.LoopNIn
import Derived.LoopIn
import Derived.Maps.AppendAt
import Derived.Test.YtdkinfglpnajmaaChecked
import Derived.RangeFuncNested
import Derived.RangeFuncBound
import Derived.RangeFuncCalls
import Derived.RangeFuncLeaves
import Derived.RangeFuncBox
import Derived.Test.YtdkinfglpnajmaaGh
import Derived.Test.YtdkinfglpnajmaaBe
set_option linter.unusedVariables false
set_option linter.unusedSimpArgs false
set_option linter.unusedSectionVars false
namespace Go.Proofs.Ytdkinfglpnajmaa
open Go.RowKit Go.Shelf

attribute [local go_sem] Oper.semAt_some

def encPc (x : Pc) : Array Value := #[.agg #[.int .i64 x.pos, .int .i64 x.len]]
/-- what a round keeps: all below B0, and the two boxes of the window -/
structure KeepsW (B0 Bf Bt : Nat) (A B : World) : Prop where
  low : Below B0 A B
  f : B.heap[Bf]? = A.heap[Bf]?
  t : B.heap[Bt]? = A.heap[Bt]?
theorem KeepsW.refl (B0 Bf Bt : Nat) (W : World) : KeepsW B0 Bf Bt W W := ⟨Below.refl _ _, rfl, rfl⟩
theorem KeepsW.trans {B0 Bf Bt : Nat} {A B C : World} (h : KeepsW B0 Bf Bt A B) (k : KeepsW B0 Bf Bt B C) : KeepsW B0 Bf Bt A C := ⟨h.low.trans k.low, k.f.trans h.f, k.t.trans h.t⟩
/-- how an iterator over pieces hands them out: one after another, in their order -/
def Window (n : Nat) (lb : Array Value) (L : List Pc) (B0 Bf Bt : Nat) (w : World) : Prop :=
  ∀ (l : Nat) (J : List Pc → World → Prop) (W : World), Below w.heap.size w W → AbidesFrom W.heap.size J →
    (∀ pre x W1, J pre W1 → pre ++ [x] <+: L → YieldAt Fence.wide (n - 1) Try.prog l (encPc x) W1 fun e W' => e = .returned (.bool true) ∧ J (pre ++ [x]) W' ∧ KeepsW B0 Bf Bt W1 W') →
    J [] W → CallsIn Fence.wide n Try.prog 32 (#[.func (.yield l) #[] #[]] ++ lb) W fun e W' => (∃ v, e = .returned v) ∧ J L W'

set_option maxRecDepth 100000 in
set_option maxHeartbeats 2000000 in
theorem win1_in (n : Nat) (hn : 1 ≤ n) (lb : Nat) (A : Option Addr) (m c : Nat) (l : List Pc) (f t : Int) (Bl Bf Bt B0 : Nat) (J : List Pc → World → Prop)
    (hok : okL l) (ht : total l ≤ 65536) (hf0 : 0 ≤ f) (hf1 : f ≤ 1000000) (ht0 : 0 ≤ t) (ht1 : t ≤ 1000000) (hp : ∀ p ∈ l, p.pos + p.len ≤ 9223372036854775807) (hm : m ≤ 256)
    (hY : ∀ pre x W, J pre W → pre ++ [x] <+: win 0 f t l → YieldAt Fence.wide (n - 1) Try.prog lb (encPc x) W fun e W' => e = .returned (.bool true) ∧ J (pre ++ [x]) W' ∧ KeepsW B0 Bf Bt W W')
    (W : World) (hJ : AbidesFrom W.heap.size J) (hB0 : B0 ≤ W.heap.size) (hl : Sl pcT W (low B0) A m l)
    (hBl : W.heap[Bl]? = some (.cells #[.slice A m c] 25 (0, 0))) (hBf : W.heap[Bf]? = some (.cells #[.int .i64 f] 3 (0, 0))) (hBt : W.heap[Bt]? = some (.cells #[.int .i64 t] 3 (0, 0))) (h0 : J [] W) :
    CallsIn Fence.wide n Try.prog 32 #[.func (.yield lb) #[] #[], .pointer (some ⟨Bl, 0, none⟩), .pointer (some ⟨Bf, 0, none⟩), .pointer (some ⟨Bt, 0, none⟩)] W fun e W' => (∃ v, e = .returned v) ∧ J (win 0 f t l) W' := by
  have hln := Lib.hid hl.1
  have hcl := cell_heap (o := 0) hBl rfl
  have Hp := Lib.hid hp
  clear hp
  refine callsIn_of_wp Try.func32 rfl trivial ?_ rfl
  (simp only [Try.ntmps32, List.size_toArray, List.length_cons, List.length_nil, Nat.reduceAdd, Nat.reduceSub, Array.replicate_succ, Array.replicate_zero, List.push_toArray, List.append_toArray, List.nil_append, List.cons_append])
  gi_wp2
  gi_loopg [5, 12] m (fun gf s5 s12 wr => ∃ (k : Nat) (z : Int), k + gf = m ∧ s12 = .int .i64 (k : Int) ∧ Hid (z = total (l.take k)) ∧ s5 = .int .i64 z ∧ J (win 0 f t (l.take k)) wr ∧ Below B0 W wr ∧ wr.heap[Bf]? = some (.cells #[.int .i64 f] 3 (0, 0)) ∧ wr.heap[Bt]? = some (.cells #[.int .i64 t] 3 (0, 0)))
  case atStart => exact ⟨0, 0, by omega, rfl, Lib.hid rfl, rfl, h0, Below.refl _ _, hBf, hBt⟩
  case round =>
    obtain ⟨k, z, hk9, rfl, hz, rfl, hJs, hLr, hf, ht9⟩ := hrel
    have hb := total_take_le hok k
    rw [← hz.out] at hb
    obtain ⟨hb1, hb2⟩ := hb
    clear hBl hBf hBt hcl h0
    by_cases hlt : k < m
    · obtain ⟨p, b, off, hx, rfl, hbb, hbw, c0, c1⟩ := pc_at hl hLr hlt
      have hpm := hok p (List.mem_of_getElem? hx)
      have hpp := Hp.out p (List.mem_of_getElem? hx)
      have hp2 := (total_take_le hok (k + 1)).2
      rw [take_total hx, ← hz.out] at hp2
      obtain ⟨hp0, hp1⟩ := hpm
      have hw := win_one hx f t
      rw [← hz.out] at hw
      have hpre := win_pre l (k + 1) f t
      have htk := Lib.hid (take_total hx)
      have hlt' : (k : Int) < (m : Int) := by omega
      have hfl : Bf < wr.heap.size := heap_lt hf
      have htl : Bt < wr.heap.size := heap_lt ht9
      have hcf : wr.cell? ⟨Bf, 0, none⟩ = some (.int .i64 f) := cell_heap hf rfl
      have hct : wr.cell? ⟨Bt, 0, none⟩ = some (.int .i64 t) := cell_heap ht9 rfl
      clear hx
      replace hf := Lib.hid hf
      replace ht9 := Lib.hid ht9
      gi_wp2
      gi_region
      rw [show (if f - z < 0 then 0 else f - z) = max (f - z) 0 by omega, show (if p.len < t - z then p.len else t - z) = min (t - z) p.len by omega]
      have hM0 : 0 ≤ max (f - z) 0 := by omega
      have hM1 : max (f - z) 0 ≤ 1000000 := by omega
      have hN0 : min (t - z) p.len ≤ p.len := by omega
      have hN1 : -1000000 ≤ min (t - z) p.len := by omega
      generalize max (f - z) 0 = M at *
      generalize min (t - z) p.len = N at *
      have hg3 : wr.grownBy (wr.alloc (.cells #[.int .i64 p.pos, .int .i64 p.len] 44)).drew none := ⟨rfl, rfl, rfl, (World.grownBy_alloc wr _ none).size, (World.grownBy_alloc wr _ none).block⟩
      have hJ3 := hJ _ wr _ none hJs hg3 (fun r e => by cases e)
      have hL3 : Below B0 W (wr.alloc (.cells #[.int .i64 p.pos, .int .i64 p.len] 44)).drew := (hLr.alloc (Nat.le_trans hB0 hLr.size) _).drew
      have hf3 : (wr.alloc (.cells #[.int .i64 p.pos, .int .i64 p.len] 44)).drew.heap[Bf]? = _ := (Below.heap_alloc wr (.cells #[.int .i64 p.pos, .int .i64 p.len] 44) Bf hfl).trans hf.out
      have ht3 : (wr.alloc (.cells #[.int .i64 p.pos, .int .i64 p.len] 44)).drew.heap[Bt]? = _ := (Below.heap_alloc wr (.cells #[.int .i64 p.pos, .int .i64 p.len] 44) Bt htl).trans ht9.out
      have hp3 : (wr.alloc (.cells #[.int .i64 p.pos, .int .i64 p.len] 44)).drew.heap[wr.heap.size]? = some (.cells #[.int .i64 p.pos, .int .i64 p.len] 44 (0, 0)) := heap_at _ rfl
      clear hf ht9 hg3
      generalize (wr.alloc (.cells #[.int .i64 p.pos, .int .i64 p.len] 44)).drew = W3 at *
      have hq0 : W3.cell? ⟨wr.heap.size, 0, none⟩ = some (.int .i64 p.pos) := cell_heap hp3 rfl
      have hq1 : W3.cell? ⟨wr.heap.size, 1, none⟩ = some (.int .i64 p.len) := cell_heap hp3 rfl
      clear hp3
      by_cases hMN : M < N
      · rw [if_pos hMN] at hw
        rw [hw] at hpre
        obtain ⟨fn, tmps, assign, body, hy, hR⟩ := hY _ ⟨p.pos + M, N - M⟩ _ hJ3 hpre
        dsimp only [encPc] at hy
        have Hw := Lib.hid hw
        clear hw hpre
        gi_wp2
        refine hR.mono ?_
        rintro e W5 ⟨rfl, hJ5, hk5⟩
        gi_wp2
        go_roundg (gk - 1)
        case measure => omega
        case rel => exact ⟨k + 1, z + p.len, by omega, by go_num, Lib.hid (by rw [htk.out, hz.out]), by go_num, by rw [Hw.out]; exact hJ5, hL3.trans hk5.low, hk5.f.trans hf3, hk5.t.trans ht3⟩
      · rw [if_neg hMN, List.append_nil] at hw
        have Hw := Lib.hid hw
        clear hw hpre
        have hMN' : N ≤ M := by omega
        gi_wp2
        refine ⟨fun f e => (by cases e), ?_⟩
        gi_wp2
        go_roundg (gk - 1)
        case measure => omega
        case rel => exact ⟨k + 1, z + p.len, by omega, by go_num, Lib.hid (by rw [htk.out, hz.out]), by go_num, by rw [Hw.out]; exact hJ3, hL3, hf3, ht3⟩
    · have hkm : k = m := by omega
      have hfin := Lib.hid (show win 0 f t (l.take k) = win 0 f t l by rw [List.take_of_length_le (by have := hln.out; omega)])
      have hlt' : (m : Int) ≤ (k : Int) := by omega
      clear hkm
      gi_wp2
      go_end0
      rw [hfin.out] at hJs
      exact ⟨⟨_, rfl⟩, hJs⟩
/-- the value of a window's iterator -/
theorem win_window (n : Nat) (hn : 1 ≤ n) (A : Option Addr) (m c : Nat) (l : List Pc) (f t : Int) (Bl Bf Bt B0 : Nat) (w : World)
    (hok : okL l) (ht : total l ≤ 65536) (hf0 : 0 ≤ f) (hf1 : f ≤ 1000000) (ht0 : 0 ≤ t) (ht1 : t ≤ 1000000) (hp : ∀ p ∈ l, p.pos + p.len ≤ 9223372036854775807) (hm : m ≤ 256)
    (hB0 : B0 ≤ w.heap.size) (hl : Sl pcT w (low B0) A m l)
    (hBl : w.heap[Bl]? = some (.cells #[.slice A m c] 25 (0, 0))) (hBf : w.heap[Bf]? = some (.cells #[.int .i64 f] 3 (0, 0))) (hBt : w.heap[Bt]? = some (.cells #[.int .i64 t] 3 (0, 0))) :
    Window n #[.pointer (some ⟨Bl, 0, none⟩), .pointer (some ⟨Bf, 0, none⟩), .pointer (some ⟨Bt, 0, none⟩)] (win 0 f t l) B0 Bf Bt w := fun lb J W hW hJ hY h0 =>
  win1_in n hn lb A m c l f t Bl Bf Bt B0 J hok ht hf0 hf1 ht0 ht1 hp hm hY W hJ (Nat.le_trans hB0 hW.size) (hl.below (hW.mono hB0)) (heap_below hW hBl (heap_lt hBl)) (heap_below hW hBf (heap_lt hBf)) (heap_below hW hBt (heap_lt hBt)) h0
end Go.Proofs.Ytdkinfglpnajmaa
