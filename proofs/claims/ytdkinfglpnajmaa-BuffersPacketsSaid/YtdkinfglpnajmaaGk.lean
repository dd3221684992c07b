
import Derived.Shelf.Abstract
import Derived.Shelf.RegionOpen
import Derived.WalkKit
import Derived.OwnWalkIn
import Derived.TacticsInMore
import Derived.LoopNIn
import Derived.LoopIn
import Derived.Maps.AppendAt
import Derived.Test.YtdkinfglpnajmaaChecked

/- cut: the pieces of a window as a slice. -/
import Derived.Maps.OwnIn
import Derived.Test.YtdkinfglpnajmaaGj
import Derived.Test.YtdkinfglpnajmaaGe
set_option linter.unusedVariables false
set_option linter.unusedSimpArgs false
set_option linter.unusedSectionVars false
namespace Go.Proofs.Ytdkinfglpnajmaa
open Go.RowKit Go.Shelf

attribute [local go_sem] Oper.semAt_some

/-- pieces as cells -/
def pcC (l : List Pc) : List Value := l.flatMap fun p => [.int .i64 p.pos, .int .i64 p.len]
theorem pcC_snoc (l : List Pc) (x : Pc) : pcC (l ++ [x]) = pcC l ++ [.int .i64 x.pos, .int .i64 x.len] := by simp [pcC]
theorem pcC_len (l : List Pc) : (pcC l).length = l.length * 2 := by
  induction l with
  | nil => rfl
  | cons p r ih =>
    have e : pcC (p :: r) = [.int .i64 p.pos, .int .i64 p.len] ++ pcC r := by simp [pcC]
    rw [e, List.length_append, ih]
    simp
    omega
theorem pcC_at : ∀ {l : List Pc} {i : Nat} {x : Pc}, l[i]? = some x → ((pcC l).drop (i * 2)).take 2 = [.int .i64 x.pos, .int .i64 x.len]
  | [], i, x, h => by simp at h
  | p :: r, 0, x, h => by
    simp at h
    subst h
    simp [pcC]
  | p :: r, i + 1, x, h => by
    have ih := pcC_at (l := r) (i := i) (x := x) (by simpa using h)
    have e : pcC (p :: r) = [.int .i64 p.pos, .int .i64 p.len] ++ pcC r := by simp [pcC]
    rw [e, show (i + 1) * 2 = i * 2 + 1 + 1 by omega]
    exact ih
theorem win_le (l : List Pc) : ∀ (a f t : Int), (win a f t l).length ≤ l.length := by
  induction l with
  | nil => intro a f t; simp [win]
  | cons p r ih =>
    intro a f t
    rw [win_cons]
    have := ih (a + p.len) f t
    split
    · simp only [List.length_cons]; omega
    · simp only [List.length_cons]; omega
theorem own_of_pcs {w : World} {base : Nat} {v : Value} {l : List Pc} (h : w.ownsRow base 44 2 v l.length (pcC l)) : Own pcT 44 base w v l.length l :=
  ⟨rfl, pcC l, h, fun i x hx => ⟨by simp only [pcT, Ty.flat]; exact pcC_at hx, trivial⟩⟩
/-- the blocks that came since -/
abbrev fresh (w w' : World) : Nat → Prop := fun b => w.heap.size ≤ b ∧ b < w'.heap.size
/-- what an append to a boxed slice of pieces keeps -/
theorem keepsW_append {W w1 : World} {n₀ Bx Bf Bt : Nat} {tx : TypeId} {v v' : Value} {m k : Nat} {xs ys cf ct : List Value} {tmp : Obj} (hv : Boxed W Bx tx v) (htx : tx ≠ 44) (hrow : W.ownsRow n₀ 44 2 v m xs) (hn₀ : n₀ ≤ W.heap.size) (hB : n₀ ≤ Bx)
    (hown' : w1.ownsRow n₀ 44 2 v' k ys) (hgrow : (W.alloc tmp).grownBy w1 v.ownBlock) (hf : W.heap[Bf]? = some (.cells cf.toArray 3 (0, 0))) (ht : W.heap[Bt]? = some (.cells ct.toArray 3 (0, 0))) (hfx : Bf ≠ Bx) (htx2 : Bt ≠ Bx) :
    KeepsW n₀ Bf Bt W (w1.setCell ⟨Bx, 0, none⟩ v') := by
  obtain ⟨_, _, _, _, hb⟩ := hv.appended htx hrow hn₀ hB hown' hgrow
  have hne : ∀ {q : Nat} {cq : Array Value}, W.heap[q]? = some (.cells cq 3 (0, 0)) → some q ≠ v.ownBlock := fun {q cq} hq e => by
    rcases hrow.2 with ⟨rfl, _⟩ | ⟨g, cap, cur, rfl, _, hg, _⟩
    · cases e
    · cases e
      rw [hq] at hg
      cases hg
  have hsame : ∀ {q : Nat} {cq : Array Value}, W.heap[q]? = some (.cells cq 3 (0, 0)) → q ≠ Bx → (w1.setCell ⟨Bx, 0, none⟩ v').heap[q]? = W.heap[q]? := fun {q cq} hq hx => by
    have hlt := heap_lt hq
    rw [Below.heap_setCell w1 ⟨Bx, 0, none⟩ v' q hx, hgrow.block q (by simp; omega) (hne hq), Below.heap_alloc W tmp q hlt]
  exact ⟨hb, hsame hf hfx, hsame ht htx2⟩
/-- the invariant of a loop that appends to a boxed slice of pieces -/
def Grows (w0 : World) (n₀ Bx : Nat) (tx : TypeId) (Bf Bt : Nat) (cf ct : List Value) (f : List Pc → List Pc) (pre : List Pc) (W : World) : Prop :=
  ((∃ v, Boxed W Bx tx v ∧ W.ownsRow n₀ 44 2 v (f pre).length (pcC (f pre)) ∧ True) ∧ Below n₀ w0 W) ∧ W.heap[Bf]? = some (.cells cf.toArray 3 (0, 0)) ∧ W.heap[Bt]? = some (.cells ct.toArray 3 (0, 0))
theorem heap_own {β : Type} (B : Nat) (o : Obj) (ho : o.isCells = true) : Go.Own (fun (_ : β) W => W.heap[B]? = some o) := fun s W W' row hs hg hr => by
  refine (hg.block B (heap_lt hs) (fun e => ?_)).trans hs
  obtain ⟨o', h1, h2⟩ := hr B e.symm
  rw [show W.heap[B]? = _ from hs] at h1
  cases h1
  rw [ho] at h2
  cases h2
theorem grows_own {w0 : World} {n₀ Bx : Nat} {tx : TypeId} {Bf Bt : Nat} {cf ct : List Value} {f : List Pc → List Pc} {B : Nat} (hn : n₀ ≤ B) (hw : n₀ ≤ w0.heap.size) : OwnFrom B (Grows w0 n₀ Bx tx Bf Bt cf ct f) :=
  OwnFrom.and (OwnFrom.and (Go.Own.from (holdsRow_own n₀ Bx tx 44 2 (fun pre => (f pre).length) (fun pre => pcC (f pre)) (fun _ _ => True)) _) (ownFrom_below hw hn)) (OwnFrom.and (Go.Own.from (heap_own Bf _ rfl) _) (Go.Own.from (heap_own Bt _ rfl) _))

theorem cells_two_new (W : World) (a b : Value) (ty : TypeId) : ∀ (j : Nat) (u : Value), [a, b][j]? = some u → (W.alloc (.cells #[a, b] ty)).cell? ((⟨W.heap.size, 0, none⟩ : Addr).add j) = some u := fun j u h => by
  match j, h with
  | 0, h => exact cell_heap (heap_at _ rfl) h
  | 1, h => exact cell_heap (heap_at _ rfl) h
/-- the world behind the making of a window, whose result's box came first -/
theorem boxes_facts (w : World) (A : Option Addr) (m c : Nat) (f t : Int) (tx : TypeId) (W : World) (h : boxes (w.alloc (.cells #[.slice none 0 0] tx)) A m c f t = W) :
    Boxed W w.heap.size tx (.slice none 0 0) ∧ W.heap[w.heap.size + 1]? = some (.cells #[.slice A m c] 25 (0, 0)) ∧ W.heap[w.heap.size + 1 + 1]? = some (.cells #[.int .i64 f] 3 (0, 0)) ∧ W.heap[w.heap.size + 1 + 1 + 1]? = some (.cells #[.int .i64 t] 3 (0, 0)) ∧
    W.heap.size = w.heap.size + 1 + 1 + 1 + 1 ∧ Below w.heap.size w W := by
  subst h
  have z1 : (w.alloc (.cells #[.slice none 0 0] tx)).heap.size = w.heap.size + 1 := by simp
  have z2 : ((w.alloc (.cells #[.slice none 0 0] tx)).alloc (.cells #[.slice A m c] 25)).heap.size = w.heap.size + 1 + 1 := by simp
  have z3 : (((w.alloc (.cells #[.slice none 0 0] tx)).alloc (.cells #[.slice A m c] 25)).alloc (.cells #[.int .i64 f] 3)).heap.size = w.heap.size + 1 + 1 + 1 := by simp
  unfold boxes
  refine ⟨((((Boxed.new w tx (.slice none 0 0)).alloc _).alloc _).alloc _), ?_, ?_, ?_, by simp, ?_⟩
  · exact heap_past (heap_past (heap_at _ z1.symm))
  · exact heap_past (heap_at _ z2.symm)
  · exact heap_at _ z3.symm
  · exact ((((Below.refl _ w).alloc (Nat.le_refl _) _).alloc (by simp) _).alloc (by simp; omega) _).alloc (by simp; omega) _

set_option maxRecDepth 100000 in
set_option maxHeartbeats 2000000 in
theorem cut_any (A : Option Addr) (m c : Nat) (l : List Pc) (f t : Int) (w : World)
    (hok : okL l) (ht : total l ≤ 65536) (hf0 : 0 ≤ f) (hf1 : f ≤ 1000000) (ht0 : 0 ≤ t) (ht1 : t ≤ 1000000) (hp : ∀ p ∈ l, p.pos + p.len ≤ 9223372036854775807) (hm : m ≤ 256) (hl : Sl pcT w (low w.heap.size) A m l) :
    Calls Try.prog 29 #[.slice A m c, .int .i64 f, .int .i64 t] w fun e w' => ∃ A', e = .returned (.slice A' (win 0 f t l).length (win 0 f t l).length) ∧ Sl pcT w' (fresh w w') A' (win 0 f t l).length (win 0 f t l) ∧ Kept w w' := by
  obtain ⟨i44, hi44, hz0, hz1, hz2⟩ := info_parts info44
  refine callsIn_wide (n := 4).1 (callsIn_of_wp_marks Try.func29 rfl trivial ?_ rfl)
  (simp only [Try.ntmps29, List.size_toArray, List.length_cons, List.length_nil, Nat.reduceAdd, Nat.reduceSub, Array.replicate_succ, Array.replicate_zero, List.push_toArray, List.append_toArray, List.nil_append, List.cons_append])
  gi_wp2_with (refine ⟨trivial, ?_⟩; gi_at_call 28; refine (callsIn_wide.2 (window_any A m c f t _)).mono ?_; rintro e w1 ⟨rfl, hw1⟩)
  obtain ⟨bX, hBl, hBf, hBt, hz, hbw⟩ := boxes_facts w A m c f t 25 w1 hw1
  have hlw := hl.below hbw
  have hwin := win_window 3 (by decide) A m c l f t (w.heap.size + 1) (w.heap.size + 1 + 1) (w.heap.size + 1 + 1 + 1) w.heap.size w1 hok ht hf0 hf1 ht0 ht1 hp hm (by omega) hlw hBl hBf hBt
  have Hlen := Lib.hid (show (win 0 f t l).length ≤ 256 from by have h1 := win_le l 0 f t; have h2 := hl.1; omega)
  clear hp hlw hw1 hl ht hf0 hf1 ht0 ht1 hm hok
  generalize hL : win 0 f t l = L at hwin Hlen
  replace hL := Lib.hid hL
  refine range_win (by rfl) hwin (by omega) (by omega) (by omega) (Grows w w.heap.size w.heap.size 25 (w.heap.size + 1 + 1) (w.heap.size + 1 + 1 + 1) [.int .i64 f] [.int .i64 t] (fun pre => pre)) (grows_own (by omega) (Nat.le_refl _))
    ⟨⟨⟨_, bX, World.ownsRow_nil _ _ _ _, trivial⟩, hbw⟩, hBf, hBt⟩
    (fun x Bp => { tmps := #[.slice A m c, .int .i64 f, .int .i64 t, undef, undef, undef, .slice none 0 0, .pointer (some ⟨w.heap.size, 0, none⟩), .pointer (some ⟨Bp, 0, none⟩), .slice A m c, .int .i64 f, .int .i64 t, .func (.func 32) #[] #[.pointer (some ⟨w.heap.size + 1, 0, none⟩), .pointer (some ⟨w.heap.size + 1 + 1, 0, none⟩), .pointer (some ⟨w.heap.size + 1 + 1 + 1, 0, none⟩)], .agg #[.int .i64 x.pos, .int .i64 x.len], undef, undef, undef, undef, undef, undef, undef, undef, undef, undef], defers := [] }) ?assign ?body ?done
  case assign =>
    intro l x W K hK
    gi_wp2
    exact hK
  case body =>
    rintro l pre x W₀ W hB₀ _ ⟨⟨⟨v, hv, hrow, _⟩, hB⟩, hF, hT⟩ _ hbp hpre
    have hc := hv.cell
    have hf := hv.frozen
    have hp0 : W.cell? ⟨W₀.heap.size, 0, none⟩ = some (.int .i64 x.pos) := cell_heap hbp rfl
    have hp1 : W.cell? ⟨W₀.heap.size, 1, none⟩ = some (.int .i64 x.len) := cell_heap hbp rfl
    have hp2 := heap_lt hbp
    have hlen : pre.length ≤ 256 := by
      have h1 := hpre.length_le
      have h2 := Hlen.out
      rw [List.length_append] at h1
      omega
    clear hbp hpre
    have hpl : (0 : Int) ≤ pre.length := by omega
    replace hrow : W.ownsRow w.heap.size 44 2 v pre.length (pcC pre) := hrow
    have hBs := hB.size
    gi_wp2_with (gi_at_builtin; refine wpListIn_append_own_at _ rfl _ _ 25 rfl w.heap.size 44 i44 _ 2 16 Try.underlying25 hi44 hz0 hz1 hz2 rfl (by decide) _ _ _ rfl (hrow.alloc _) ⟨W.heap.size, 0, none⟩ 1 1 [.int .i64 x.pos, .int .i64 x.len] rfl rfl (cells_two_new _ _ _ _) (by simp [Value.oneCell']) (by unfold maxLen; omega) (by omega) (by simp; omega) ?_; intro v' w4 hown' hgrow _ hat; obtain ⟨g', cap', rfl⟩ := ownsRow_succ hown'; obtain ⟨hv1, hv2, hr2, hk2, hb2⟩ := hv.appended (by decide) hrow hBs (Nat.le_refl _) hown' hgrow; have hc1 := hv1.cell; have hf1 := hv1.frozen)
    have hkw := keepsW_append hv (by decide) hrow hBs (Nat.le_refl _) hown' hgrow hF hT (by omega) (by omega)
    refine ⟨hk2.from _, hkw, ⟨⟨⟨_, hv2, ?_, trivial⟩, hB.trans hb2⟩, hkw.f.trans hF, hkw.t.trans hT⟩⟩
    rw [pcC_snoc, List.length_append]
    exact hr2
  case done =>
    rintro D W hD ⟨⟨⟨v, hv, hrow, _⟩, hB⟩, hF, hT⟩ hK
    have hc := hv.cell
    replace hrow : W.ownsRow w.heap.size 44 2 v L.length (pcC L) := hrow
    have hfin : ∀ (A' : Option Addr) (cap : Nat), v = .slice A' L.length cap → Sl pcT (W.putObj D (.deferred none)) (fresh w (W.putObj D (.deferred none))) A' L.length L := fun A' cap e => by
      subst e
      exact (own_of_pcs (ownsRow_putObj hrow _ hK rfl)).sl_of _ (fun g h1 h2 => ⟨h1, h2⟩) (fun _ _ h => h)
    have hkk := hB.trans (belowK_b (w := w) (Nat.le_refl _) W D _ (.deferred none) (by omega) hK rfl rfl)
    rcases hrow.2 with ⟨rfl, h0⟩ | ⟨g, cap, cur, rfl, h1, h2, h3, h4, h5, h6⟩
    · gi_wp2
      refine ⟨by simp, .inl ⟨_, _, rfl, run_takeDeferred hK, ?_⟩⟩
      refine ⟨_, results_tmp rfl _ _ _, none, ?_, ?_, hkk⟩
      · rw [hL.out, h0]; rfl
      · rw [hL.out]; exact hfin none 0 (by rw [h0])
    · gi_wp2
      refine ⟨by simp, .inl ⟨_, _, rfl, run_takeDeferred hK, ?_⟩⟩
      refine ⟨_, results_tmp rfl _ _ _, some ⟨g, 0, none⟩, ?_, ?_, hkk⟩
      · rw [hL.out]; rfl
      · rw [hL.out]; exact hfin _ cap rfl
end Go.Proofs.Ytdkinfglpnajmaa
