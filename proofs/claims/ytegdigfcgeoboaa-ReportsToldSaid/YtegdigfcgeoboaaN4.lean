/- The reader in memory; methods that set one value. -/
import Derived.DeepKeys4
import Derived.KernelRfl
import Derived.Test.YtegdigfcgeoboaaChecked
import Derived.Test.YtegdigfcgeoboaaN2
import Derived.Test.YtegdigfcgeoboaaN1
import Derived.Test.YtegdigfcgeoboaaN3
import Derived.Deep.RegionHeld3
import Derived.Deep.DrawnRows
import Derived.Deep.DeepCutAuto
import Derived.Deep.LoopGhost
import Derived.Outline
import Derived.Handy
import Derived.OwnWalk
import Derived.Test.YtegdigfcgeoboaaScK
import Derived.BigQuiet
set_option linter.unusedVariables false
set_option linter.unusedSimpArgs false
set_option linter.unusedSectionVars false
/- Keys of two bytes: how they read. No condition. -/
namespace Go.Proofs.Ytegdigfcgeoboaa
open Go.RowKit Go.Maps

theorem laidOut : laidOutB Try.prog = true := by kernel_rfl
theorem keyed90 : Keyed Try.prog 90 := Keyed.of_law (deep_law_laid laidOut (m := 100) (by decide) (k := 90) (of_decide_eq_true (by kernel_rfl)) (by kernel_rfl) (by kernel_rfl))
def pairV (a b : Int) : Value := .agg #[.int .u8 a, .int .u8 b]
theorem key_fin : ∀ a : Fin 16, ∀ b : Fin 256, (keyOf Try.prog 90 (pairV a.val b.val)).isSome = true := by decide +kernel
/-- how a pair reads as a key -/
noncomputable def kL (a b : Int) : Lit := (keyOf Try.prog 90 (pairV a b)).getD .nil
theorem key_pair {a b : Int} (ha : 0 ≤ a ∧ a < 16) (hb : u8k b) : keyOf Try.prog 90 (pairV a b) = some (kL a b) := by
  unfold u8k at hb
  obtain ⟨n, rfl⟩ := Int.eq_ofNat_of_zero_le ha.1
  obtain ⟨m, rfl⟩ := Int.eq_ofNat_of_zero_le hb.1
  have h := key_fin ⟨n, by omega⟩ ⟨m, by omega⟩
  obtain ⟨l, hl⟩ := Option.isSome_iff_exists.1 h
  unfold kL
  have hl' : keyOf Try.prog 90 (pairV (n : Int) (m : Int)) = some l := hl
  rw [hl']; rfl
set_option maxRecDepth 100000 in
theorem kL_lit {a b : Int} (ha : 0 ≤ a ∧ a < 16) (hb : u8k b) : WideAt.IsKeyLit (kL a b) := by
  have h := key_pair ha hb
  generalize kL a b = l at *
  exact Keyed.key keyed90 h
set_option maxRecDepth 100000 in
theorem kL_inj {a b c d : Int} (ha : 0 ≤ a ∧ a < 16) (hb : u8k b) (hc : 0 ≤ c ∧ c < 16) (hd : u8k d) (h : kL a b = kL c d) : a = c ∧ b = d := by
  have h1 := key_pair ha hb
  have h2 := key_pair hc hd
  rw [h] at h1
  have h3 := keyed90.inj h1 h2
  unfold pairV at h3
  injection h3 with h3
  injection h3 with h3
  injection h3 with h4 h5
  injection h5 with h5 _
  injection h4 with _ h4
  injection h5 with _ h5
  exact ⟨h4, h5⟩
set_option maxRecDepth 100000 in
theorem kL_same {a b c d : Int} (ha : 0 ≤ a ∧ a < 16) (hb : u8k b) (hc : 0 ≤ c ∧ c < 16) (hd : u8k d) : (kL a b).sameKey (kL c d) = (a == c && b == d) := by
  by_cases h : a = c ∧ b = d
  · obtain ⟨rfl, rfl⟩ := h
    have hk := kL_lit ha hb
    generalize kL a b = l at *
    rw [WideAt.sameKey_self hk]
    simp
  · rw [sameKey_ne (fun e => h (kL_inj ha hb hc hd e))]
    symm
    simp only [Bool.and_eq_false_iff, beq_eq_false_iff_ne]
    by_cases e : a = c
    · exact .inr (fun e2 => h ⟨e, e2⟩)
    · exact .inl e
end Go.Proofs.Ytegdigfcgeoboaa
/- The reader in memory: its cells, the slices that it owns, its map. No condition. -/
namespace Go.Proofs.Ytegdigfcgeoboaa
open Go.RowKit Go.Maps

def Gl.cells (g : Gl) : List Value := [.int .u32 g.page, .int .i64 g.lo, .int .i64 g.hi, .int .u32 g.size, .int .u32 g.count, .int .u32 g.report]
def glT : Ty Gl := Ty.flat 6 Gl.cells (fun _ => True) (fun _ => rfl)
def Co.cells (c : Co) : List Value := [.int .u8 c.kind, .int .u32 c.usage, .int .i64 c.parent]
def coT : Ty Co := Ty.flat 3 Co.cells (fun _ => True) (fun _ => rfl)
def Fd.cells (f : Fd) (A : Option Addr) : List Value := [.int .u8 f.kind, .int .u8 f.report, .int .i64 f.parent, .slice A f.usages.length f.usages.length, .int .i64 f.lo, .int .i64 f.hi, .int .i64 f.size, .int .i64 f.count, .int .i64 f.pos, .bool f.const, .bool f.array, .bool f.signed, .bool f.rel]
def fdT : Ty Fd :=
  ⟨13, fun w F f cs => ∃ A, cs = f.cells A ∧ f.usages.length ≤ maxLen ∧ Sl u32T w F A f.usages.length f.usages,
   fun {_ _ _ _} ⟨_, e, _⟩ => by rw [e]; rfl,
   fun {_ _ _ _ _ _} ⟨A, e, h1, h⟩ hB hk => ⟨A, e, h1, h.keep hB hk⟩⟩
/-- the same type, of which all lies in blocks of a set -/
def Ty.on {α : Type} (X : Nat → Prop) (t : Ty α) : Ty α :=
  ⟨t.size, fun w F x cs => t.rel w (fun b => F b ∧ X b) x cs, t.len, fun h hF hk => t.keep h (fun b hb => ⟨hF b hb.1, hb.2⟩) (fun b o hb => hk b o hb.1)⟩
section
variable {α : Type} {t : Ty α} {e : TypeId} {w w' : World} {base n : Nat} {v : Value} {xs : List α} {X X' : Nat → Prop}
theorem Own.widen (h : Own (t.on X) e base w v n xs) (hX : ∀ b, b < w.heap.size → X b → X' b) : Own (t.on X') e base w v n xs := by
  obtain ⟨h1, cells, h2, h3⟩ := h
  exact ⟨h1, cells, h2, fun i x hx => t.keep (h3 i x hx) (fun b hb => ⟨hb.1, hX b hb.1.1 hb.2⟩) (fun _ _ _ => rfl)⟩
theorem Own.grownX (h : Own (t.on X) e base w v n xs) {row : Option Nat} (hg : w.grownBy w' row) (hr : ∀ b, some b = row → ¬ X b) (hv : v.ownBlock = none ∨ v.ownBlock ≠ row) : Own (t.on X) e base w' v n xs := by
  obtain ⟨h1, cells, h2, h3⟩ := h
  refine ⟨h1, cells, h2.kept hg hv, fun i x hx => t.keep (h3 i x hx) (fun b hb => ⟨⟨Nat.lt_of_lt_of_le hb.1.1 hg.size, hb.1.2⟩, hb.2⟩) (fun b o hb => ?_)⟩
  exact World.cell?_of_block (a := ⟨b, o, none⟩) (hg.block b hb.1.1 (fun e => hr b e hb.2))
theorem Own.grownF (h : Own t e base w v n xs) (ht : Flat t) {row : Option Nat} (hg : w.grownBy w' row) (hv : v.ownBlock = none ∨ v.ownBlock ≠ row) : Own t e base w' v n xs := by
  obtain ⟨h1, cells, h2, h3⟩ := h
  exact ⟨h1, cells, h2.kept hg hv, fun i x hx => ht (h3 i x hx)⟩
/-- rows of different element types lie in different blocks -/
theorem rows_apart {e' : TypeId} {α' : Type} {t' : Ty α'} {v' : Value} {n' : Nat} {xs' : List α'} {base' : Nat} (h : Own t e base w v n xs) (h' : Own t' e' base' w v' n' xs') (he : e ≠ e') : v.ownBlock = none ∨ v.ownBlock ≠ v'.ownBlock := by
  obtain ⟨_, _, ⟨_, h2⟩, _⟩ := h
  obtain ⟨_, _, ⟨_, h2'⟩, _⟩ := h'
  rcases h2 with ⟨rfl, _⟩ | ⟨g, cap, cur, rfl, _, hg, _⟩
  · exact .inl rfl
  · refine .inr (fun ee => ?_)
    rcases h2' with ⟨rfl, _⟩ | ⟨g', cap', cur', rfl, _, hg', _⟩
    · cases ee
    · have : g = g' := by simpa [Value.ownBlock] using ee
      subst this
      rw [hg] at hg'
      injection hg' with hg'
      injection hg' with _ hg' _
      exact he hg'
end
theorem flat_gl : Flat glT := fun {w w' F F' x cs} h => h
theorem flat_co : Flat coT := fun {w w' F F' x cs} h => h
theorem flat_u32 : Flat u32T := fun {w w' F F' x cs} h => h
/-- what stands at a key of the map of bits -/
def bitsF (l : List Fd) (f : Lit → Option Value) : Prop := ∀ k r : Int, (1 ≤ k ∧ k ≤ 3) → u8k r → (f (kL k r)).getD (.int .i64 0) = .int .i64 (bitsS l k r)
/-- the blocks that the reader writes -/
def Busy (R m : Nat) (vs vu vf vc : Value) : Nat → Prop := fun b => b ≠ R ∧ b ≠ m ∧ vs.ownBlock ≠ some b ∧ vu.ownBlock ≠ some b ∧ vf.ownBlock ≠ some b ∧ vc.ownBlock ≠ some b
def rdC (s : RS) (m : Nat) (vs vu vf vc : Value) : Array Value := #[.int .u32 s.g.page, .int .i64 s.g.lo, .int .i64 s.g.hi, .int .u32 s.g.size, .int .u32 s.g.count, .int .u32 s.g.report, vs, vu, .int .u32 s.kept, .bool s.keeps, .int .i64 s.opn, .map (some m), vf, vc, .bool s.numbered]
structure Rd (w : World) (base R m : Nat) (vs vu vf vc : Value) (s : RS) : Prop where
  box : w.heap[R]? = some (.cells (rdC s m vs vu vf vc) 86 (0, 0))
  st : Own glT 83 base w vs s.stack.length s.stack
  us : Own u32T 27 base w vu s.usages.length s.usages
  fs : Own (fdT.on (Busy R m vs vu vf vc)) 59 base w vf s.fields.length s.fields
  cs : Own coT 68 base w vc s.colls.length s.colls
  map : ∃ f, MapIs Try.prog 90 w m s.fields.length f ∧ bitsF s.fields f
  low : R < base ∧ m < base ∧ R ≠ m
section
variable {w w' : World} {base R m : Nat} {vs vu vf vc : Value} {s : RS}
theorem Rd.kept (h : Rd w base R m vs vu vf vc s) (hk : Kept w w') : Rd w' base R m vs vu vf vc s := by
  obtain ⟨f, h1, h2⟩ := h.map
  exact ⟨heap_kept hk h.box, h.st.kept hk, h.us.kept hk, h.fs.kept hk, h.cs.kept hk, ⟨f, h1.keep hk, h2⟩, h.low⟩
/-- a store into the reader's own cells -/
theorem Rd.set (h : Rd w base R m vs vu vf vc s) (i : Nat) (u : Value) {s' : RS} (hc : (rdC s m vs vu vf vc).setIfInBounds i u = rdC s' m vs vu vf vc) (h1 : s'.stack = s.stack) (h2 : s'.usages = s.usages) (h3 : s'.fields = s.fields) (h4 : s'.colls = s.colls) : Rd (w.setCell ⟨R, i, none⟩ u) base R m vs vu vf vc s' := by
  obtain ⟨f, hm, hf⟩ := h.map
  have hg : w.grownBy (w.setCell ⟨R, i, none⟩ u) (some R) := grown_at grown_self i u
  have hown : ∀ {α : Type} {t : Ty α} {e : TypeId} {v : Value} {n : Nat} {xs : List α}, Own t e base w v n xs → v.ownBlock = none ∨ v.ownBlock ≠ some R := by
    intro α t e v n xs ho
    by_cases hv : v.ownBlock = some R
    · exact absurd (ho.lt hv).1 (by have := h.low.1; omega)
    · exact .inr hv
  refine ⟨by rw [← hc]; exact heap_store h.box u, by rw [h1]; exact h.st.grownF flat_gl hg (hown h.st), by rw [h2]; exact h.us.grownF flat_u32 hg (hown h.us), ?_, by rw [h4]; exact h.cs.grownF flat_co hg (hown h.cs), ⟨f, ?_, by rw [h3]; exact hf⟩, h.low⟩
  · rw [h3]
    exact h.fs.grownX hg (fun b e hx => by injection e with e; exact hx.1 e) (hown h.fs)
  · rw [h3]
    exact hm.kept hg (fun e => h.low.2.2 (by injection e with e; exact e.symm))
end
end Go.Proofs.Ytegdigfcgeoboaa
/- The reader's methods that set one value. The reader's memory is as told. -/
namespace Go.Proofs.Ytegdigfcgeoboaa
open Go.RowKit Go.Maps
attribute [local go_sem ↓] Go.wp_at_zero Go.wp_at_succ

/-- what a method keeps: all blocks below base but the reader's cells and its map -/
structure Fr (base R m : Nat) (w w' : World) : Prop where
  os : w'.os = w.os
  tape : w'.tape = w.tape
  output : w'.output = w.output
  size : w.heap.size ≤ w'.heap.size
  block : ∀ k, k < base → k ≠ R → k ≠ m → w'.heap[k]? = w.heap[k]?
  box : ∀ (k : Nat) (cs : Array Value), k ≠ R → k ≠ m → w.heap[k]? = some (.cells cs 29 (0, 0)) → w'.heap[k]? = some (.cells cs 29 (0, 0))
section
variable {base R m : Nat} {w w' w'' : World}
theorem Fr.refl : Fr base R m w w := ⟨rfl, rfl, rfl, Nat.le_refl _, fun _ _ _ _ => rfl, fun _ _ _ _ h => h⟩
theorem Fr.trans (h : Fr base R m w w') (k : Fr base R m w' w'') : Fr base R m w w'' := ⟨k.os.trans h.os, k.tape.trans h.tape, k.output.trans h.output, Nat.le_trans h.size k.size, fun i h1 h2 h3 => (k.block i h1 h2 h3).trans (h.block i h1 h2 h3), fun i cs h1 h2 h3 => k.box i cs h1 h2 (h.box i cs h1 h2 h3)⟩
theorem Fr.kept (h : Kept w w') (hb : base ≤ w.heap.size) : Fr base R m w w' := ⟨h.os, h.tape, h.output, h.size, fun k h1 _ _ => h.block k (by omega), fun k cs _ _ h3 => heap_kept h h3⟩
theorem Fr.set (i : Nat) (u : Value) : Fr base R m w (w.setCell ⟨R, i, none⟩ u) := ⟨rfl, rfl, rfl, by rw [World.size_setCell]; exact Nat.le_refl _, fun k _ h2 _ => Below.heap_setCell _ _ _ k h2, fun k cs h1 _ h3 => heap_other h3 h1⟩
theorem Fr.low (h : Fr base R m w w') {B : Nat} (h1 : B ≤ base) (h2 : B ≤ R) (h3 : B ≤ m) : Below B w w' := ⟨h.os, h.tape, h.output, h.size, fun k hk => h.block k (by omega) (by omega) (by omega)⟩
end
theorem wrap_i8 (n : Int) : IntKind.i8.wrap n = (n + 128) % 256 - 128 := by
  simp [IntKind.wrap, IntKind.bits, IntKind.signed]
  split <;> omega
theorem wrap_i16 (n : Int) : IntKind.i16.wrap n = (n + 32768) % 65536 - 32768 := by
  simp [IntKind.wrap, IntKind.bits, IntKind.signed]
  split <;> omega
/-- what a method has done -/
def Did (base R m : Nat) (w : World) (r : Int × RS) (e : Ending) (w' : World) : Prop :=
  e = .returned (.int .i64 r.1) ∧ Fr base R m w w' ∧ (r.1 = 0 → ∃ vs vu vf vc, Rd w' base R m vs vu vf vc r.2)
theorem did_set {w w' w1 : World} {base R m : Nat} {vs vu vf vc : Value} {s s' : RS} (h : Rd w base R m vs vu vf vc s) (hb : base ≤ w.heap.size) (i : Nat) (u : Value) (hc : (rdC s m vs vu vf vc).setIfInBounds i u = rdC s' m vs vu vf vc) (h1 : s'.stack = s.stack) (h2 : s'.usages = s.usages) (h3 : s'.fields = s.fields) (h4 : s'.colls = s.colls) (hf : Fr base R m w1 w) (hk : Kept (w.setCell ⟨R, i, none⟩ u) w') : Did base R m w1 (0, s') (.returned (.int .i64 0)) w' :=
  ⟨rfl, hf.trans ((Fr.set i u).trans (Fr.kept hk (by rw [World.size_setCell]; exact hb))), fun _ => ⟨vs, vu, vf, vc, (h.set i u hc h1 h2 h3 h4).kept hk⟩⟩
set_option maxRecDepth 100000 in
theorem signed_any (x : It) (hw : x.wide = true) (hok : x.ok) (w : World) : Calls Try.prog 61 #[itV x] w fun e w' => e = .returned (.int .i64 (signS x)) ∧ Kept w w' := by
  obtain ⟨d0, d1, d2, d3, d4, d5⟩ := data_lt hw hok
  unfold itV
  have hr := sign_range hw hok
  have hW : wrap64 (signS x) = signS x := by unfold wrap64; omega
  have hW2 : IntKind.i64.wrap (signS x) = signS x := by rw [IntKind.wrap_i64]; omega
  rcases d5 with e | e | e | e
  · have hS : signS x = 0 := by simp [signS, e]
    rw [hS, e]
    go_enter Try.func61, Try.ntmps61
    go_wp2_with fail
    go_ret
    exact ⟨rfl, by go_grown⟩
  · have hS : IntKind.i8.wrap x.data = signS x := by
      have h := d3 e
      unfold signS; rw [if_pos e, wrap_i8]
      split <;> omega
    rw [e]
    go_enter Try.func61, Try.ntmps61
    go_wp2_with fail
    go_ret
    exact ⟨rfl, by go_grown⟩
  · have hS : IntKind.i16.wrap x.data = signS x := by
      have h := d4 e
      unfold signS; rw [if_neg (by omega), if_pos e, wrap_i16]
      split <;> omega
    rw [e]
    go_enter Try.func61, Try.ntmps61
    go_wp2_with fail
    go_ret
    exact ⟨rfl, by go_grown⟩
  · have hS : IntKind.i32.wrap x.data = signS x := by
      unfold signS; rw [if_neg (by omega), if_neg (by omega), if_pos e, IntKind.wrap_i32]
      split <;> omega
    rw [e]
    go_enter Try.func61, Try.ntmps61
    go_wp2_with fail
    go_ret
    exact ⟨rfl, by go_grown⟩
set_option maxRecDepth 100000 in
theorem setPage_any {w : World} {base R m : Nat} {vs vu vf vc : Value} {s : RS} (h : Rd w base R m vs vu vf vc s) (hb : base ≤ w.heap.size) (x : It) (h1 : x.ty = 1) (h2 : x.tg = 0) :
    Calls Try.prog 44 #[.pointer (some ⟨R, 0, none⟩), itV x] w (Did base R m w (effS s x)) := by
  have hE : effS s x = if 65535 < x.data then (4, s) else (0, { s with g := { s.g with page := x.data } }) := by simp [effS, h1, h2]
  rw [hE]
  clear hE
  have c0 := cell_heap h.box (o := 0) rfl
  have f0 := frozen_heap h.box (o := 0)
  have hRl := heap_lt h.box
  unfold itV
  by_cases c : 65535 < x.data
  · rw [if_pos c]
    go_enter Try.func44, Try.ntmps44
    go_wp2_with fail
    go_ret
    exact ⟨rfl, Fr.kept (by go_grown) hb, fun e => by cases e⟩
  · rw [if_neg c]
    have c' : x.data ≤ 65535 := by omega
    go_enter Try.func44, Try.ntmps44
    go_wp2_with fail
    go_ret
    exact did_set h hb 0 (.int .u32 x.data) (s' := { s with g := { s.g with page := x.data } }) rfl rfl rfl rfl rfl Fr.refl (by go_grown)
set_option maxRecDepth 100000 in
theorem setSize_any {w : World} {base R m : Nat} {vs vu vf vc : Value} {s : RS} (h : Rd w base R m vs vu vf vc s) (hb : base ≤ w.heap.size) (x : It) (h1 : x.ty = 1) (h2 : x.tg = 7) :
    Calls Try.prog 48 #[.pointer (some ⟨R, 0, none⟩), itV x] w (Did base R m w (effS s x)) := by
  have hE : effS s x = (0, { s with g := { s.g with size := x.data } }) := by simp [effS, h1, h2]
  rw [hE]
  clear hE
  have c0 := cell_heap h.box (o := 3) rfl
  have f0 := frozen_heap h.box (o := 3)
  have hRl := heap_lt h.box
  unfold itV
  go_enter Try.func48, Try.ntmps48
  go_wp2_with fail
  go_ret
  exact did_set h hb 3 (.int .u32 x.data) (s' := { s with g := { s.g with size := x.data } }) rfl rfl rfl rfl rfl Fr.refl (by go_grown)
set_option maxRecDepth 100000 in
theorem setCount_any {w : World} {base R m : Nat} {vs vu vf vc : Value} {s : RS} (h : Rd w base R m vs vu vf vc s) (hb : base ≤ w.heap.size) (x : It) (h1 : x.ty = 1) (h2 : x.tg = 9) :
    Calls Try.prog 50 #[.pointer (some ⟨R, 0, none⟩), itV x] w (Did base R m w (effS s x)) := by
  have hE : effS s x = (0, { s with g := { s.g with count := x.data } }) := by simp [effS, h1, h2]
  rw [hE]
  clear hE
  have c0 := cell_heap h.box (o := 4) rfl
  have f0 := frozen_heap h.box (o := 4)
  have hRl := heap_lt h.box
  unfold itV
  go_enter Try.func50, Try.ntmps50
  go_wp2_with fail
  go_ret
  exact did_set h hb 4 (.int .u32 x.data) (s' := { s with g := { s.g with count := x.data } }) rfl rfl rfl rfl rfl Fr.refl (by go_grown)
set_option maxRecDepth 100000 in
theorem nothing_any {w : World} {base R m : Nat} {vs vu vf vc : Value} {s : RS} (h : Rd w base R m vs vu vf vc s) (hb : base ≤ w.heap.size) (x : It) (h1 : x.ty = 1) (h2 : x.tg = 3 ∨ x.tg = 4 ∨ x.tg = 5 ∨ x.tg = 6) :
    Calls Try.prog 47 #[.pointer (some ⟨R, 0, none⟩), itV x] w (Did base R m w (effS s x)) := by
  have hE : effS s x = (0, s) := by
    unfold effS
    rw [if_neg (by omega), if_pos h1, if_neg (by omega), if_neg (by omega), if_neg (by omega), if_pos h2]
  rw [hE]
  clear hE
  unfold itV
  go_enter Try.func47, Try.ntmps47
  go_wp2_with fail
  go_ret
  exact ⟨rfl, Fr.kept (by go_grown) hb, fun _ => ⟨vs, vu, vf, vc, h.kept (by go_grown)⟩⟩
set_option maxRecDepth 100000 in
theorem setReport_any {w : World} {base R m : Nat} {vs vu vf vc : Value} {s : RS} (h : Rd w base R m vs vu vf vc s) (hb : base ≤ w.heap.size) (x : It) (h1 : x.ty = 1) (h2 : x.tg = 8) :
    Calls Try.prog 49 #[.pointer (some ⟨R, 0, none⟩), itV x] w (Did base R m w (effS s x)) := by
  have hE : effS s x = if x.data < 1 ∨ 255 < x.data then (4, s) else (0, { s with g := { s.g with report := x.data }, numbered := true }) := by simp [effS, h1, h2]
  rw [hE]
  clear hE
  have c0 := cell_heap h.box (o := 5) rfl
  have f0 := frozen_heap h.box (o := 5)
  have c1 := cell_heap h.box (o := 14) rfl
  have f1 := frozen_heap h.box (o := 14)
  have hRl := heap_lt h.box
  unfold itV
  by_cases ca : x.data < 1
  · rw [if_pos (.inl ca)]
    go_enter Try.func49, Try.ntmps49
    go_wp2_with fail
    go_ret
    exact ⟨rfl, Fr.kept (by go_grown) hb, fun e => by cases e⟩
  · have ca' : 1 ≤ x.data := by omega
    by_cases cb : 255 < x.data
    · rw [if_pos (.inr cb)]
      go_enter Try.func49, Try.ntmps49
      go_wp2_with fail
      go_ret
      exact ⟨rfl, Fr.kept (by go_grown) hb, fun e => by cases e⟩
    · rw [if_neg (by omega)]
      have cb' : x.data ≤ 255 := by omega
      go_enter Try.func49, Try.ntmps49
      go_wp2_with fail
      go_ret
      exact did_set (h.set 5 (.int .u32 x.data) (s' := { s with g := { s.g with report := x.data } }) rfl rfl rfl rfl rfl) (by rw [World.size_setCell]; exact hb) 14 (.bool true) (s' := { s with g := { s.g with report := x.data }, numbered := true }) rfl rfl rfl rfl rfl (Fr.set 5 _) (by go_grown)
end Go.Proofs.Ytegdigfcgeoboaa
/- The reader's two limits, as methods. -/
namespace Go.Proofs.Ytegdigfcgeoboaa
open Go.RowKit Go.Maps
attribute [local go_sem ↓] Go.wp_at_zero Go.wp_at_succ
set_option maxRecDepth 100000 in
set_option maxHeartbeats 400000 in
theorem setLo_any {w : World} {base R m : Nat} {vs vu vf vc : Value} {s : RS} (h : Rd w base R m vs vu vf vc s) (hb : base ≤ w.heap.size) (x : It) (hw : x.wide = true) (hok : x.ok) (h1 : x.ty = 1) (h2 : x.tg = 1) :
    Calls Try.prog 45 #[.pointer (some ⟨R, 0, none⟩), itV x] w (Did base R m w (effS s x)) := by
  have hE : effS s x = (0, { s with g := { s.g with lo := signS x } }) := by simp [effS, h1, h2]
  rw [hE]
  clear hE
  have hsg := fun w' => signed_any x hw hok w'
  unfold itV at hsg ⊢
  rw [h1, h2] at hsg
  go_enter Try.func45, Try.ntmps45
  go_wp2_with (go_at_call 61; refine (hsg _).mono ?_; rintro e w1 ⟨rfl, hk⟩; have hk2 : Kept w w1 := (Below.trans (by go_grown) (hk.mono (by simp only [World.size_alloc]; omega))); have h' := h.kept hk2; have c0 := cell_heap h'.box (o := 1) rfl; have f0 := frozen_heap h'.box (o := 1); have hRl := heap_lt h'.box)
  go_ret
  exact did_set h' (Nat.le_trans hb hk2.size) 1 (.int .i64 (signS x)) (s' := { s with g := { s.g with lo := signS x } }) rfl rfl rfl rfl rfl (Fr.kept hk2 hb) (by go_grown)
set_option maxRecDepth 100000 in
set_option maxHeartbeats 400000 in
theorem setHi_any {w : World} {base R m : Nat} {vs vu vf vc : Value} {s : RS} (h : Rd w base R m vs vu vf vc s) (hb : base ≤ w.heap.size) (x : It) (hw : x.wide = true) (hok : x.ok) (h1 : x.ty = 1) (h2 : x.tg = 2) :
    Calls Try.prog 46 #[.pointer (some ⟨R, 0, none⟩), itV x] w (Did base R m w (effS s x)) := by
  have hE : effS s x = (0, { s with g := { s.g with hi := signS x } }) := by simp [effS, h1, h2]
  rw [hE]
  clear hE
  have hsg := fun w' => signed_any x hw hok w'
  unfold itV at hsg ⊢
  rw [h1, h2] at hsg
  go_enter Try.func46, Try.ntmps46
  go_wp2_with (go_at_call 61; refine (hsg _).mono ?_; rintro e w1 ⟨rfl, hk⟩; have hk2 : Kept w w1 := (Below.trans (by go_grown) (hk.mono (by simp only [World.size_alloc]; omega))); have h' := h.kept hk2; have c0 := cell_heap h'.box (o := 2) rfl; have f0 := frozen_heap h'.box (o := 2); have hRl := heap_lt h'.box)
  go_ret
  exact did_set h' (Nat.le_trans hb hk2.size) 2 (.int .i64 (signS x)) (s' := { s with g := { s.g with hi := signS x } }) rfl rfl rfl rfl rfl (Fr.kept hk2 hb) (by go_grown)
end Go.Proofs.Ytegdigfcgeoboaa
/- The reader's usage of an item; keeping it; a collection's end. -/
namespace Go.Proofs.Ytegdigfcgeoboaa
open Go.RowKit Go.Maps
attribute [local go_sem ↓] Go.wp_at_zero Go.wp_at_succ

theorem or_page {p d : Int} (hp : 0 ≤ p ∧ p ≤ 65535) (hd : 0 ≤ d ∧ d < 65536) : bits .or .u32 (p * 65536) d = p * 65536 + d := by
  obtain ⟨a, rfl⟩ := Int.eq_ofNat_of_zero_le hp.1
  obtain ⟨b, rfl⟩ := Int.eq_ofNat_of_zero_le hd.1
  have h := (bits_nat .u32 32 (by decide) (fun n h0 h1 => by rw [IntKind.wrap_u32]; omega) (a * 65536) b (by omega) (by omega)).2
  have e : ((a : Int) * 65536) = ((a * 65536 : Nat) : Int) := by omega
  rw [e, h]
  have := Nat.shiftLeft_add_eq_or_of_lt (i := 16) (b := b) (by omega) a
  rw [Nat.shiftLeft_eq] at this
  rw [← this]
  omega
set_option maxRecDepth 100000 in
theorem usage_any {w : World} {base R m : Nat} {vs vu vf vc : Value} {s : RS} (h : Rd w base R m vs vu vf vc s) (hs : s.Fine) (x : It) (hw : x.wide = true) (hok : x.ok) :
    Calls Try.prog 63 #[.pointer (some ⟨R, 0, none⟩), itV x] w fun e w' => e = .returned (.int .u32 (usageS s x)) ∧ Kept w w' := by
  obtain ⟨d0, d1, d2, d3, d4, d5⟩ := data_lt hw hok
  have hp := hs.page
  have c0 : w.cell? ⟨R, 0, none⟩ = some (.int .u32 s.g.page) := cell_heap h.box (o := 0) rfl
  have f0 := frozen_heap h.box (o := 0)
  have hRl := heap_lt h.box
  unfold itV
  by_cases c : x.size = 4
  · have hU : usageS s x = x.data := by simp [usageS, c]
    rw [hU]
    go_enter Try.func63, Try.ntmps63
    go_wp2_with fail
    go_ret
    exact ⟨rfl, by go_grown⟩
  · have hd : 0 ≤ x.data ∧ x.data < 65536 := by omega
    have hU : usageS s x = s.g.page * 65536 + x.data := by simp [usageS, c]
    have hO := or_page hp hd
    have hW : IntKind.u32.wrap (s.g.page * 65536) = s.g.page * 65536 := by rw [IntKind.wrap_u32]; omega
    rw [hU]
    go_enter Try.func63, Try.ntmps63
    go_wp2_with fail
    go_region
    go_wp2_with fail
    go_ret
    exact ⟨rfl, by go_grown⟩
set_option maxRecDepth 100000 in
theorem keep_any {w : World} {base R m : Nat} {vs vu vf vc : Value} {s : RS} (h : Rd w base R m vs vu vf vc s) (hb : base ≤ w.heap.size) (hs : s.Fine) (x : It) (hw : x.wide = true) (hok : x.ok) (h1 : x.ty = 2) (h2 : x.tg = 1) :
    Calls Try.prog 54 #[.pointer (some ⟨R, 0, none⟩), itV x] w (Did base R m w (effS s x)) := by
  have hE : effS s x = (0, { s with kept := usageS s x, keeps := true }) := by simp [effS, h1, h2]
  rw [hE]
  clear hE
  have hus := fun {w'} (h' : Rd w' base R m vs vu vf vc s) => usage_any h' hs x hw hok
  unfold itV at hus ⊢
  rw [h1, h2] at hus
  go_enter Try.func54, Try.ntmps54
  go_wp2_with (go_at_call 63; refine (hus (h.kept (by go_grown))).mono ?_; rintro e w1 ⟨rfl, hk⟩; have hk2 : Kept w w1 := (Below.trans (by go_grown) (hk.mono (by simp only [World.size_alloc]; omega))); have h' := h.kept hk2; have c8 := cell_heap h'.box (o := 8) rfl; have f8 := frozen_heap h'.box (o := 8); have c9 := cell_heap h'.box (o := 9) rfl; have f9 := frozen_heap h'.box (o := 9); have hRl := heap_lt h'.box)
  go_ret
  exact did_set (h'.set 8 (.int .u32 (usageS s x)) (s' := { s with kept := usageS s x }) rfl rfl rfl rfl rfl) (by rw [World.size_setCell]; exact Nat.le_trans hb hk2.size) 9 (.bool true) (s' := { s with kept := usageS s x, keeps := true }) rfl rfl rfl rfl rfl ((Fr.kept hk2 hb).trans (Fr.set 8 _)) (by go_grown)
set_option maxRecDepth 100000 in
theorem end_any {w : World} {base R m : Nat} {vs vu vf vc : Value} {s : RS} (h : Rd w base R m vs vu vf vc s) (hb : base ≤ w.heap.size) (hs : s.Fine) (x : It) (h1 : x.ty = 0) (h2 : x.tg = 12) :
    Calls Try.prog 43 #[.pointer (some ⟨R, 0, none⟩), itV x] w (Did base R m w (effS s x)) := by
  have hE : effS s x = if s.opn < 0 then (4, s) else (0, { s with opn := ((s.colls[s.opn.toNat]?).map Co.parent).getD (-1) }) := by simp [effS, h1, h2]
  rw [hE]
  clear hE
  obtain ⟨o1, o2⟩ := hs.opn
  have hcl := hs.colls.1
  have c10 : w.cell? ⟨R, 10, none⟩ = some (.int .i64 s.opn) := cell_heap h.box (o := 10) rfl
  have f10 := frozen_heap h.box (o := 10)
  have c13 : w.cell? ⟨R, 13, none⟩ = some vc := cell_heap h.box (o := 13) rfl
  have hRl := heap_lt h.box
  unfold itV
  by_cases c : s.opn < 0
  · rw [if_pos c]
    go_enter Try.func43, Try.ntmps43
    go_wp2_with fail
    go_ret
    exact ⟨rfl, Fr.kept (by go_grown) hb, fun e => by cases e⟩
  · rw [if_neg c]
    obtain ⟨A, cc, rfl, hA1, hA2⟩ := h.cs.isSlice
    have hsl := h.cs.sl
    obtain ⟨j, hj⟩ := Int.eq_ofNat_of_zero_le (by omega : 0 ≤ s.opn)
    have hjl : j < s.colls.length := by omega
    have hG : (s.colls[s.opn.toNat]?).map Co.parent = some (s.colls[j].parent) := by
      rw [hj, Int.toNat_natCast, List.getElem?_eq_getElem hjl]; rfl
    rw [hG]
    obtain ⟨y, b, off, cs, hy, rfl, hbb, ⟨rfl, _⟩, hcs⟩ := hsl.at hjl
    have hye : y = s.colls[j] := by rw [List.getElem?_eq_getElem hjl] at hy; injection hy with hy; exact hy.symm
    have cj : w.cell? ⟨b, off + j * 3 + 2, none⟩ = some (.int .i64 s.colls[j].parent) := by rw [← hye]; exact hcs 2 _ rfl
    clear hy hcs hsl hG
    rw [hj] at c10
    have hjl' : (j : Int) < (s.colls.length : Int) := by omega
    have hj0 : (0 : Int) ≤ (j : Int) := by omega
    have hbl : b < w.heap.size := hbb
    go_enter Try.func43, Try.ntmps43
    go_wp2_with fail
    go_region
    go_wp2_with fail
    go_ret
    trace_state
    exact did_set h hb 10 (.int .i64 s.colls[j].parent) (s' := { s with opn := s.colls[j].parent }) rfl rfl rfl rfl rfl Fr.refl (by go_grown)
end Go.Proofs.Ytegdigfcgeoboaa
/- The reader in memory: a slice that it owns has grown, and is stored. No condition. -/
namespace Go.Proofs.Ytegdigfcgeoboaa
open Go.RowKit Go.Maps

section
variable {α : Type} {t : Ty α} {e : TypeId} {w w' : World} {base n : Nat} {v : Value} {xs : List α} {X X' : Nat → Prop}
theorem Own.step (h : Own (t.on X) e base w v n xs) {row : Option Nat} (hg : w.grownBy w' row) (hr : ∀ b, some b = row → ¬ X b) (hv : v.ownBlock = none ∨ v.ownBlock ≠ row) (hX : ∀ b, b < w.heap.size → X b → X' b) : Own (t.on X') e base w' v n xs :=
  ((h.widen (X' := fun b => X b ∧ b < w.heap.size) (fun b h1 h2 => ⟨h2, h1⟩)).grownX hg (fun b e h => hr b e h.1) hv).widen (fun b _ h => hX b h.2 h.1)
theorem Own.take {g cap k : Nat} (h : Own t e base w (.slice (some ⟨g, 0, none⟩) n cap) n xs) (hk : k ≤ n) : Own t e base w (.slice (some ⟨g, 0, none⟩) k cap) k (xs.take k) := by
  obtain ⟨hl, cells, ⟨h1, h2⟩, h3⟩ := h
  have hle : k * t.size ≤ n * t.size := Nat.mul_le_mul_right _ hk
  refine ⟨by rw [List.length_take]; omega, cells.take (k * t.size), ⟨by rw [List.length_take]; omega, ?_⟩, fun i x hx => ?_⟩
  · rcases h2 with ⟨e, _⟩ | ⟨g', cap', cur, hv, hb, hg, hn, hm, hc, ht⟩
    · injection e with e; cases e
    · injection hv with e1 e2 e3
      injection e1 with e1
      injection e1 with e1
      subst e1 e3
      exact .inr ⟨g, cap, cur, rfl, hb, hg, by omega, hm, hc, by rw [← ht, List.take_take, Nat.min_eq_left hle]⟩
  · rw [List.getElem?_take] at hx
    split at hx
    · rename_i hik
      have h4 := h3 i x hx
      have h5 : (i + 1) * t.size ≤ k * t.size := Nat.mul_le_mul_right _ hik
      rw [Nat.succ_mul] at h5
      rw [List.drop_take, List.take_take, Nat.min_eq_left (by omega)]
      exact h4
    · cases hx
theorem Own.above (h : Own t e base w v n xs) {k : Nat} (hk : k < base) : v.ownBlock = none ∨ v.ownBlock ≠ some k := by
  by_cases hv : v.ownBlock = some k
  · exact absurd (h.lt hv).1 (by omega)
  · exact .inr hv
theorem Own.not_at (h : Own t e base w v n xs) {k : Nat} (hk : k < base) : v.ownBlock ≠ some k := fun hv => absurd (h.lt hv).1 (by omega)
end
section
variable {w w' : World} {base R m : Nat} {vs vu vf vc v' : Value} {s : RS}
theorem Rd.stackTo (h : Rd w base R m vs vu vf vc s) {l : List Gl} (hg : w.grownBy w' vs.ownBlock) (ho : Own glT 83 base w' v' l.length l) (hat : v'.ownBlock = none ∨ v'.ownBlock = vs.ownBlock ∨ v'.ownBlock = some w.heap.size) :
    Rd (w'.setCell ⟨R, 6, none⟩ v') base R m v' vu vf vc { s with stack := l } := by
  obtain ⟨f, hm, hf⟩ := h.map
  obtain ⟨l1, l2, l3⟩ := h.low
  have hg2 : w'.grownBy (w'.setCell ⟨R, 6, none⟩ v') (some R) := grown_at grown_self 6 v'
  have hbox : w'.heap[R]? = some (.cells (rdC s m vs vu vf vc) 86 (0, 0)) := (hg.block R (heap_lt h.box) (fun e => h.st.not_at l1 e.symm)).trans h.box
  have hX : ∀ b, b < w.heap.size → Busy R m vs vu vf vc b → Busy R m v' vu vf vc b := by
    rintro b hb ⟨b1, b2, b3, b4, b5, b6⟩
    have hn : v'.ownBlock ≠ some b := by
      rcases hat with e | e | e
      · rw [e]; intro e2; cases e2
      · rw [e]; exact b3
      · rw [e]; intro e2; injection e2 with e2; omega
    exact ⟨b1, b2, hn, b4, b5, b6⟩
  have hfs := h.fs.step hg (X' := Busy R m v' vu vf vc) (fun b e hx => hx.2.2.1 e.symm) (rows_apart h.fs h.st (by decide)) hX
  refine ⟨heap_store hbox v', ho.grownF flat_gl hg2 (ho.above l1), (h.us.grownF flat_u32 hg (rows_apart h.us h.st (by decide))).grownF flat_u32 hg2 (h.us.above l1), hfs.grownX hg2 (fun b e hx => by injection e with e; exact hx.1 e) (h.fs.above l1), (h.cs.grownF flat_co hg (rows_apart h.cs h.st (by decide))).grownF flat_co hg2 (h.cs.above l1), ⟨f, (hm.kept hg (fun e => h.st.not_at l2 e.symm)).kept hg2 (fun e => l3 (by injection e with e; first | exact e | exact e.symm)), hf⟩, h.low⟩
theorem Rd.usagesTo (h : Rd w base R m vs vu vf vc s) {l : List Int} (hg : w.grownBy w' vu.ownBlock) (ho : Own u32T 27 base w' v' l.length l) (hat : v'.ownBlock = none ∨ v'.ownBlock = vu.ownBlock ∨ v'.ownBlock = some w.heap.size) :
    Rd (w'.setCell ⟨R, 7, none⟩ v') base R m vs v' vf vc { s with usages := l } := by
  obtain ⟨f, hm, hf⟩ := h.map
  obtain ⟨l1, l2, l3⟩ := h.low
  have hg2 : w'.grownBy (w'.setCell ⟨R, 7, none⟩ v') (some R) := grown_at grown_self 7 v'
  have hbox : w'.heap[R]? = some (.cells (rdC s m vs vu vf vc) 86 (0, 0)) := (hg.block R (heap_lt h.box) (fun e => h.us.not_at l1 e.symm)).trans h.box
  have hX : ∀ b, b < w.heap.size → Busy R m vs vu vf vc b → Busy R m vs v' vf vc b := by
    rintro b hb ⟨b1, b2, b3, b4, b5, b6⟩
    have hn : v'.ownBlock ≠ some b := by
      rcases hat with e | e | e
      · rw [e]; intro e2; cases e2
      · rw [e]; exact b4
      · rw [e]; intro e2; injection e2 with e2; omega
    exact ⟨b1, b2, b3, hn, b5, b6⟩
  have hfs := h.fs.step hg (X' := Busy R m vs v' vf vc) (fun b e hx => hx.2.2.2.1 e.symm) (rows_apart h.fs h.us (by decide)) hX
  refine ⟨heap_store hbox v', (h.st.grownF flat_gl hg (rows_apart h.st h.us (by decide))).grownF flat_gl hg2 (h.st.above l1), ho.grownF flat_u32 hg2 (ho.above l1), hfs.grownX hg2 (fun b e hx => by injection e with e; exact hx.1 e) (h.fs.above l1), (h.cs.grownF flat_co hg (rows_apart h.cs h.us (by decide))).grownF flat_co hg2 (h.cs.above l1), ⟨f, (hm.kept hg (fun e => h.us.not_at l2 e.symm)).kept hg2 (fun e => l3 (by injection e with e; first | exact e | exact e.symm)), hf⟩, h.low⟩
theorem Rd.collsTo (h : Rd w base R m vs vu vf vc s) {l : List Co} (hg : w.grownBy w' vc.ownBlock) (ho : Own coT 68 base w' v' l.length l) (hat : v'.ownBlock = none ∨ v'.ownBlock = vc.ownBlock ∨ v'.ownBlock = some w.heap.size) :
    Rd (w'.setCell ⟨R, 13, none⟩ v') base R m vs vu vf v' { s with colls := l } := by
  obtain ⟨f, hm, hf⟩ := h.map
  obtain ⟨l1, l2, l3⟩ := h.low
  have hg2 : w'.grownBy (w'.setCell ⟨R, 13, none⟩ v') (some R) := grown_at grown_self 13 v'
  have hbox : w'.heap[R]? = some (.cells (rdC s m vs vu vf vc) 86 (0, 0)) := (hg.block R (heap_lt h.box) (fun e => h.cs.not_at l1 e.symm)).trans h.box
  have hX : ∀ b, b < w.heap.size → Busy R m vs vu vf vc b → Busy R m vs vu vf v' b := by
    rintro b hb ⟨b1, b2, b3, b4, b5, b6⟩
    have hn : v'.ownBlock ≠ some b := by
      rcases hat with e | e | e
      · rw [e]; intro e2; cases e2
      · rw [e]; exact b6
      · rw [e]; intro e2; injection e2 with e2; omega
    exact ⟨b1, b2, b3, b4, b5, hn⟩
  have hfs := h.fs.step hg (X' := Busy R m vs vu vf v') (fun b e hx => hx.2.2.2.2.2 e.symm) (rows_apart h.fs h.cs (by decide)) hX
  refine ⟨heap_store hbox v', (h.st.grownF flat_gl hg (rows_apart h.st h.cs (by decide))).grownF flat_gl hg2 (h.st.above l1), (h.us.grownF flat_u32 hg (rows_apart h.us h.cs (by decide))).grownF flat_u32 hg2 (h.us.above l1), hfs.grownX hg2 (fun b e hx => by injection e with e; exact hx.1 e) (h.fs.above l1), ho.grownF flat_co hg2 (ho.above l1), ⟨f, (hm.kept hg (fun e => h.cs.not_at l2 e.symm)).kept hg2 (fun e => l3 (by injection e with e; first | exact e | exact e.symm)), hf⟩, h.low⟩
theorem Rd.stackAdd (h : Rd w base R m vs vu vf vc s) {el : Gl} {g cap : Nat} (hg : w.grownBy w' vs.ownBlock) (ho : Own glT 83 base w' (.slice (some ⟨g, 0, none⟩) (s.stack.length + 1) cap) (s.stack.length + 1) (s.stack ++ [el])) (hat : vs.ownBlock = some g ∨ g = w.heap.size) :
    Rd (w'.setCell ⟨R, 6, none⟩ (.slice (some ⟨g, 0, none⟩) (s.stack.length + 1) cap)) base R m (.slice (some ⟨g, 0, none⟩) (s.stack.length + 1) cap) vu vf vc { s with stack := s.stack ++ [el] } :=
  h.stackTo hg (by rw [List.length_append]; exact ho) (hat.elim (fun e => .inr (.inl e.symm)) (fun e => .inr (.inr (by rw [e]; rfl))))
theorem Rd.usagesAdd (h : Rd w base R m vs vu vf vc s) {el : Int} {g cap : Nat} (hg : w.grownBy w' vu.ownBlock) (ho : Own u32T 27 base w' (.slice (some ⟨g, 0, none⟩) (s.usages.length + 1) cap) (s.usages.length + 1) (s.usages ++ [el])) (hat : vu.ownBlock = some g ∨ g = w.heap.size) :
    Rd (w'.setCell ⟨R, 7, none⟩ (.slice (some ⟨g, 0, none⟩) (s.usages.length + 1) cap)) base R m vs (.slice (some ⟨g, 0, none⟩) (s.usages.length + 1) cap) vf vc { s with usages := s.usages ++ [el] } :=
  h.usagesTo hg (by rw [List.length_append]; exact ho) (hat.elim (fun e => .inr (.inl e.symm)) (fun e => .inr (.inr (by rw [e]; rfl))))
theorem Rd.collsAdd (h : Rd w base R m vs vu vf vc s) {el : Co} {g cap : Nat} (hg : w.grownBy w' vc.ownBlock) (ho : Own coT 68 base w' (.slice (some ⟨g, 0, none⟩) (s.colls.length + 1) cap) (s.colls.length + 1) (s.colls ++ [el])) (hat : vc.ownBlock = some g ∨ g = w.heap.size) :
    Rd (w'.setCell ⟨R, 13, none⟩ (.slice (some ⟨g, 0, none⟩) (s.colls.length + 1) cap)) base R m vs vu vf (.slice (some ⟨g, 0, none⟩) (s.colls.length + 1) cap) { s with colls := s.colls ++ [el] } :=
  h.collsTo hg (by rw [List.length_append]; exact ho) (hat.elim (fun e => .inr (.inl e.symm)) (fun e => .inr (.inr (by rw [e]; rfl))))
end
end Go.Proofs.Ytegdigfcgeoboaa
