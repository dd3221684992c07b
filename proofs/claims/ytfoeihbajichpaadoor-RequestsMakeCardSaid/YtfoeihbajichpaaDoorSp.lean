

/- Encode, and the standard library's Clip. The numbers lie in their kinds. -/
import Derived.Test.YtfoeihbajichpaaDoorChecked
import Derived.Deep.RegionHeld3
import Derived.Deep.DrawnRows
import Derived.Deep.DeepCutAuto
import Derived.Deep.LoopGhost
import Derived.Outline
import Derived.Handy
import Derived.OwnWalk
import Derived.Laws.EntriesVeiled
import Derived.Test.YtfoeihbajichpaaDoorSc
import Derived.Test.YtfoeihbajichpaaDoorOp
set_option linter.unusedVariables false
set_option linter.unusedSimpArgs false
set_option linter.unusedSectionVars false
namespace Go.Proofs.YtfoeihbajichpaaDoor
open Go.RowKit Go.Lib Go.Maps Go.WideShapes
attribute [local go_sem ↓] Go.wp_at_zero Go.wp_at_succ

def bT : Ty Int := Ty.flat 1 (fun n => [.int .u8 n]) (fun _ => True) (fun _ => rfl)
theorem infob : (Tryd.prog.info? 5).map (fun i => (i.zero, i.size, i.bytes)) = some (some (.int .u8 0), 1, 1) := by kernel_rfl
def encL (r : Rq) : List Int := [r.typ, r.code, r.val % 256, r.val / 256, r.idx % 256, r.idx / 256, r.len % 256, r.len / 256]
theorem wpList_append_slx {α : Type} {T : Ty α} {P : Program} {W : World} {ops : Array Oper} {rest : List Oper} {o : Oper} {a : Act} {Q : Exit → Act → World → Prop} (hgd : o.guard = none) (s x : Operand) (t : TypeId)
    (ho : o.op = .call { callee := .builtin .append, args := #[s, x], argTypes := #[t, t] })
    (base : Nat) (e : TypeId) (i : TypeInfo) (z : Value) (bytes : Nat) (ht : P.underlying t = some (.slice e)) (hi : P.info? e = some i) (hz : i.zero = some z)
    (hsize : i.size = T.size) (hby : i.bytes = bytes) (hzs : z.cells.size = T.size) (hsz : 0 < T.size)
    (v : Value) (n : Nat) (xs : List α) (hs : a.eval s = v) (hown : Own T e base W v n xs)
    (A : Option Addr) (m c : Nat) (ys : List α) (hx : a.eval x = .slice A m c) (hsl : Sl T W (apart W v) A m ys) (h1 : ∀ x cs, T.rel W (apart W v) x cs → ∀ u ∈ cs, u.oneCell' = true)
    (h63 : n + m ≤ maxLen) (hbytes : (n + m) * bytes ≤ 140737488355328) (hbase : base ≤ W.heap.size)
    (h : ∀ v' w', Own T e base w' v' (n + m) (xs ++ ys) → W.grownBy w' v.ownBlock → Below base W w' → (v'.ownBlock = v.ownBlock ∨ v'.ownBlock = some W.heap.size) → wpList P ops Q rest (a.put o.dst v') w') : wpList P ops Q (o :: rest) a W :=
  wpList_plain hgd fun _ hK => wp_append_sl s x t ho base e i z bytes ht hi hz hsize hby hzs hsz v n xs hs hown A m c ys hx hsl h1 h63 hbytes hbase fun v' w' a1 a2 a3 a4 => hK _ _ (h v' w' a1 a2 a3 a4)
theorem bT_ok (x : Int) (w : World) (F : Nat → Prop) : bT.rel w F x [.int .u8 x] := ⟨rfl, trivial⟩
theorem bT_one {w : World} {F : Nat → Prop} : ∀ x cs, bT.rel w F x cs → ∀ u ∈ cs, u.oneCell' = true := by
  rintro x cs ⟨rfl, _⟩ u hu
  have e : u = .int .u8 x := by simpa using hu
  rw [e]; rfl
theorem Own.two {w : World} {b base : Nat} {x y : Int} (_ : True) (h0 : base ≤ b) (h : w.heap[b]? = some (.cells #[.int .u8 x, .int .u8 y] 5 (0, 0))) : Own bT 5 base w (.slice (some ⟨b, 0, none⟩) 2 2) 2 [x, y] :=
  ⟨rfl, [.int .u8 x, .int .u8 y], ⟨by rfl, .inr ⟨b, 2, _, rfl, h0, h, Nat.le_refl _, by decide, rfl, rfl⟩⟩, fun i u hu => by
    match i, hu with
    | 0, hu => have e : x = u := by simpa using hu
               rw [← e]; exact ⟨rfl, trivial⟩
    | 1, hu => have e : y = u := by simpa using hu
               rw [← e]; exact ⟨rfl, trivial⟩
    | n + 2, hu => simp at hu⟩
theorem two_sl {w : World} {v : Value} {b : Nat} (x y : Int) (h : w.heap[b]? = some (.cells #[.int .u8 x, .int .u8 y] 5 (0, 0))) (hv : v.ownBlock ≠ some b) : Sl bT w (apart w v) (some ⟨b, 0, none⟩) 2 [x, y] :=
  ⟨rfl, fun i u hu => by
    match i, hu with
    | 0, hu => have e : x = u := by simpa using hu
               rw [← e]; exact ⟨b, 0, [.int .u8 x], rfl, ⟨heap_lt h, hv⟩, ⟨rfl, trivial⟩, range_cons (cell_heap h rfl) range_nil⟩
    | 1, hu => have e : y = u := by simpa using hu
               rw [← e]; exact ⟨b, 0, [.int .u8 y], rfl, ⟨heap_lt h, hv⟩, ⟨rfl, trivial⟩, range_cons (cell_heap h rfl) range_nil⟩
    | n + 2, hu => simp at hu⟩
theorem own_cell {w : World} {base b n cap : Nat} {xs : List Int} (h : Own bT 5 base w (.slice (some ⟨b, 0, none⟩) n cap) n xs) {i : Nat} {y : Int} (hy : xs[i]? = some y) : w.cell? ⟨b, i, none⟩ = some (.int .u8 y) := by
  obtain ⟨h1, cells, h2, h3⟩ := h
  have h4 := (h3 i y hy).1
  have h5 := congrArg (fun l => l[0]?) h4
  have h6 := h2.cells (g := b) rfl i (.int .u8 y) (by simpa [bT, Ty.flat] using h5)
  rw [Addr.add_mid] at h6
  simpa using h6
theorem clip_any (A : Option Addr) (n c : Nat) (hn : n ≤ c) (hc : c ≤ maxLen) (w : World) :
    Calls Tryd.prog 45 #[.slice A n c] w fun e w' => e = .returned (.slice A n n) ∧ w = w' := by
  unfold maxLen at hc
  go_enter Tryd.func45, Tryd.ntmps45
  go_wp2
  go_ret
  exact ⟨rfl, rfl⟩
set_option maxRecDepth 100000 in
set_option maxHeartbeats 4000000 in
theorem encode_any (t c v x l : Int) (w : World) (hok : Rq.ok ⟨t, c, v, x, l⟩) :
    Calls Tryd.prog 22 #[.agg #[.int .u8 (t), .int .u8 (c), .int .u16 (v), .int .u16 (x), .int .u16 (l)]] w fun e w' => ∃ b, e = .returned (.slice (some ⟨b, 0, none⟩) 8 8) ∧ w.heap.size ≤ b ∧ b < w'.heap.size ∧ (∀ i y, (encL ⟨t, c, v, x, l⟩)[i]? = some y → w'.cell? ⟨b, i, none⟩ = some (.int .u8 y)) ∧ Kept w w' := by
  obtain ⟨i5, hi5, hz50, hz51, hz52⟩ := info_parts infob
  obtain ⟨⟨t0, t1⟩, ⟨c0, c1⟩, ⟨v0, v1⟩, ⟨x0, x1⟩, ⟨l0, l1⟩⟩ := hok
  dsimp only at t0 t1 c0 c1 v0 v1 x0 x1 l0 l1
  go_enter Tryd.func22, Tryd.ntmps22
  go_wp2
  refine wp_at (fun W => Kept w W ∧ Own bT 5 w.heap.size W (.slice (some ⟨w.heap.size + 1, 0, none⟩) 2 2) 2 [t, c] ∧ w.heap.size + 1 < W.heap.size ∧ W.heap[w.heap.size + 1 + 1]? = some (.cells #[.int .u16 v, .int .u16 x, .int .u16 l] 23 (0, 0))) ⟨by go_grown, (Own.two trivial (Nat.le_succ _) (heap_past (heap_at _ (by simp)))), by simp, heap_at _ (by simp)⟩ (fun W hW => ?_)
  obtain ⟨hkW, hoW, hbW, hHW⟩ := hW
  generalize hH : w.heap.size + 1 + 1 = H at *
  have HHd : w.heap.size ≤ H := by omega
  have HHb : w.heap.size + 1 ≠ H := by omega
  clear hH
  go_loopg [3, 19] 3 (fun g s3 s19 wr => ∃ k cap b : Nat, k + g = 3 ∧ s19 = .int .i64 k ∧ s3 = .slice (some ⟨b, 0, none⟩) (2 + 2 * k) cap ∧ Own bT 5 w.heap.size wr s3 (2 + 2 * k) ((encL ⟨t, c, v, x, l⟩).take (2 + 2 * k)) ∧ wr.heap[H]? = some (.cells #[.int .u16 v, .int .u16 x, .int .u16 l] 23 (0, 0)) ∧ b ≠ H ∧ b < wr.heap.size ∧ w.heap.size ≤ b ∧ Kept w wr)
  case atStart => exact ⟨0, 2, w.heap.size + 1, by omega, rfl, rfl, hoW, hHW, HHb, hbW, by omega, hkW⟩
  case round =>
    clear hkW hoW hbW hHW HHb
    obtain ⟨k, cap, b, hk, rfl, rfl, hown, hHr, hbH, hbl, hwb, hkw⟩ := hrel
    have Hk := Lib.hid hk
    have Hown := Lib.hid hown
    have Hbl := Lib.hid hbl
    have hd0 := cell_heap hHr (o := 0) rfl
    have hd1 := cell_heap hHr (o := 1) rfl
    have hd2 := cell_heap hHr (o := 2) rfl
    have hHl := heap_lt hHr
    have HHr := Lib.hid hHr
    have hk3 : k ≤ 3 := by omega
    clear hk hown hbl hHr
    obtain rfl | rfl | rfl | rfl : k = 0 ∨ k = 1 ∨ k = 2 ∨ k = 3 := by omega
    · skip
      go_wp2_with (at_builtin; refine wpList_append_slx (T := bT) rfl (.tmp 23) (.tmp 29) 43 rfl w.heap.size 5 i5 _ 1 Tryd.underlying43 hi5 hz50 hz51 hz52 rfl (by decide) (.slice (some ⟨b, 0, none⟩) 2 cap) 2 _ (by rfl) (Hown.out.alloc _) (some ⟨wr.heap.size, 0, none⟩) 2 2 [v % 256, v / 256] (by rfl) (two_sl _ _ (heap_at _ rfl) (fun e => absurd (Option.some.inj e) (Nat.ne_of_lt Hbl.out))) bT_one (by decide) (by decide) (by simp only [World.size_alloc]; exact Nat.le_succ_of_le hkw.size) ?_; intro v' w' hown' hg' hb' hat'; rcases hown'.form with ⟨_, h0⟩ | ⟨g2, cap2, rfl, hg2, hl2, _, _⟩; exact absurd h0 (by omega))
      have hgH : g2 ≠ H := by
        rcases hat' with h | h
        · have h' : g2 = b := Option.some.inj h
          omega
        · have h' : g2 = wr.heap.size + 1 := (Option.some.inj h).trans (by simp)
          omega
      go_roundg (gk - 1)
      case measure => have := Hk.out; omega
      case rel => exact ⟨1, cap2, g2, by have := Hk.out; omega, rfl, rfl, hown', heap_grown hg' (heap_past HHr.out) (by simpa [Value.ownBlock] using Ne.symm hbH), hgH, hl2, hg2, (hkw.alloc hkw.size _).trans hb'⟩
    · skip
      go_wp2_with (at_builtin; refine wpList_append_slx (T := bT) rfl (.tmp 23) (.tmp 29) 43 rfl w.heap.size 5 i5 _ 1 Tryd.underlying43 hi5 hz50 hz51 hz52 rfl (by decide) (.slice (some ⟨b, 0, none⟩) 4 cap) 4 _ (by rfl) (Hown.out.alloc _) (some ⟨wr.heap.size, 0, none⟩) 2 2 [x % 256, x / 256] (by rfl) (two_sl _ _ (heap_at _ rfl) (fun e => absurd (Option.some.inj e) (Nat.ne_of_lt Hbl.out))) bT_one (by decide) (by decide) (by simp only [World.size_alloc]; exact Nat.le_succ_of_le hkw.size) ?_; intro v' w' hown' hg' hb' hat'; rcases hown'.form with ⟨_, h0⟩ | ⟨g2, cap2, rfl, hg2, hl2, _, _⟩; exact absurd h0 (by omega))
      have hgH : g2 ≠ H := by
        rcases hat' with h | h
        · have h' : g2 = b := Option.some.inj h
          omega
        · have h' : g2 = wr.heap.size + 1 := (Option.some.inj h).trans (by simp)
          omega
      go_roundg (gk - 1)
      case measure => have := Hk.out; omega
      case rel => exact ⟨2, cap2, g2, by have := Hk.out; omega, rfl, rfl, hown', heap_grown hg' (heap_past HHr.out) (by simpa [Value.ownBlock] using Ne.symm hbH), hgH, hl2, hg2, (hkw.alloc hkw.size _).trans hb'⟩
    · skip
      go_wp2_with (at_builtin; refine wpList_append_slx (T := bT) rfl (.tmp 23) (.tmp 29) 43 rfl w.heap.size 5 i5 _ 1 Tryd.underlying43 hi5 hz50 hz51 hz52 rfl (by decide) (.slice (some ⟨b, 0, none⟩) 6 cap) 6 _ (by rfl) (Hown.out.alloc _) (some ⟨wr.heap.size, 0, none⟩) 2 2 [l % 256, l / 256] (by rfl) (two_sl _ _ (heap_at _ rfl) (fun e => absurd (Option.some.inj e) (Nat.ne_of_lt Hbl.out))) bT_one (by decide) (by decide) (by simp only [World.size_alloc]; exact Nat.le_succ_of_le hkw.size) ?_; intro v' w' hown' hg' hb' hat'; rcases hown'.form with ⟨_, h0⟩ | ⟨g2, cap2, rfl, hg2, hl2, _, _⟩; exact absurd h0 (by omega))
      have hgH : g2 ≠ H := by
        rcases hat' with h | h
        · have h' : g2 = b := Option.some.inj h
          omega
        · have h' : g2 = wr.heap.size + 1 := (Option.some.inj h).trans (by simp)
          omega
      go_roundg (gk - 1)
      case measure => have := Hk.out; omega
      case rel => exact ⟨3, cap2, g2, by have := Hk.out; omega, rfl, rfl, hown', heap_grown hg' (heap_past HHr.out) (by simpa [Value.ownBlock] using Ne.symm hbH), hgH, hl2, hg2, (hkw.alloc hkw.size _).trans hb'⟩
    · skip
      obtain ⟨c8, c9⟩ : 8 ≤ cap ∧ cap ≤ maxLen := by
        obtain ⟨A, c, e, h1, h2⟩ := Hown.out.isSlice
        injection e with _ _ e
        omega
      go_wp2_with (go_at_call 45; refine (clip_any _ 8 cap c8 c9 _).mono ?_; rintro e w2 ⟨rfl, rfl⟩)
      go_ret
      exact ⟨b, rfl, hwb, Hbl.out, fun i y hy => own_cell Hown.out hy, hkw⟩
end Go.Proofs.YtfoeihbajichpaaDoor
