/- Memory; small functions. -/
import Derived.Shelf.Strings.OnBuilder
import Derived.Shelf.Strings.Builder1
import Derived.Shelf.Strconv.Itoa3
import Derived.Shelf.SlicesE.DeleteFunc
import Derived.Ground.NamesProg
import Derived.Ground.SlgfProg
import Derived.Test.YtjgncofhobhjdaaDoorChecked
import Derived.Deep.RegionHeld3
import Derived.Deep.DrawnRows
import Derived.Deep.DeepCutAuto
import Derived.Deep.LoopGhost
import Derived.Outline
import Derived.Handy
import Derived.OwnWalk
import Derived.BigQuiet
import Derived.Laws.MakeOwn
import Derived.Test.YtjgncofhobhjdaaDoorN1
import Derived.Test.YtjgncofhobhjdaaDoorN3
set_option linter.unusedVariables false
set_option linter.unusedSimpArgs false
set_option linter.unusedSectionVars false
/- The contracts of strings.Join, strings.Builder, strconv.Itoa and slices.DeleteFunc, laid at the program (printed by the kit's lay-plain.mjs). -/
namespace Go.Proofs
open Go.Shelf
def YtjgncofhobhjdaaDoor.laysJoin_ren : Go.Shelf.Ren := ⟨fun | 156 => 54 | 165 => 90 | 166 => 53 | 169 => 59 | 240 => 89 | 241 => 98 | 276 => 97 | 277 => 100 | n => n, fun | 31 => 65 | 9 => 9 | 3 => 3 | 4 => 4 | 0 => 0 | 20 => 20 | 72 => 109 | 76 => 114 | 70 => 107 | 37 => 34 | 75 => 113 | 127 => 152 | 164 => 158 | 5 => 5 | 80 => 120 | n => n, fun | n => n⟩
theorem YtjgncofhobhjdaaDoor.laysJoin : Go.Proofs.Lays.n156 Tryd.prog YtjgncofhobhjdaaDoor.laysJoin_ren := {
  mixed := by kernel_rfl
  f156 := Tryd.func54.trans (congrArg some (by kernel_rfl))
  f165 := Tryd.func90.trans (congrArg some (by kernel_rfl))
  f166 := Tryd.func53.trans (congrArg some (by kernel_rfl))
  f169 := Tryd.func59.trans (congrArg some (by kernel_rfl))
  f240 := Tryd.func89.trans (congrArg some (by kernel_rfl))
  f241 := Tryd.func98.trans (congrArg some (by kernel_rfl))
  f276 := Tryd.func97.trans (congrArg some (by kernel_rfl))
  f277 := Tryd.func100.trans (congrArg some (by kernel_rfl))
  t0 := Tryd.underlying0
  a0 := Tryd.isAgg0
  z0 := Tryd.sizeOf0
  v0 := Tryd.zeroValue0
  t3 := Tryd.underlying3
  a3 := Tryd.isAgg3
  z3 := Tryd.sizeOf3
  v3 := Tryd.zeroValue3
  t4 := Tryd.underlying4
  a4 := Tryd.isAgg4
  z4 := Tryd.sizeOf4
  v4 := Tryd.zeroValue4
  t9 := Tryd.underlying9
  a9 := Tryd.isAgg9
  z9 := Tryd.sizeOf9
  v9 := Tryd.zeroValue9
  t20 := Tryd.underlying20
  a20 := Tryd.isAgg20
  z20 := Tryd.sizeOf20
  v20 := Tryd.zeroValue20
  t31 := Tryd.underlying65
  a31 := Tryd.isAgg65
  z31 := Tryd.sizeOf65
  v31 := Tryd.zeroValue65
  t37 := Tryd.underlying34
  a37 := Tryd.isAgg34
  z37 := Tryd.sizeOf34
  v37 := Tryd.zeroValue34
  t70 := Tryd.underlying107
  a70 := Tryd.isAgg107
  z70 := Tryd.sizeOf107
  v70 := Tryd.zeroValue107
  t72 := Tryd.underlying109
  a72 := Tryd.isAgg109
  z72 := Tryd.sizeOf109
  v72 := Tryd.zeroValue109
  t75 := Tryd.underlying113
  a75 := Tryd.isAgg113
  z75 := Tryd.sizeOf113
  v75 := Tryd.zeroValue113
  t76 := Tryd.underlying114
  a76 := Tryd.isAgg114
  z76 := Tryd.sizeOf114
  v76 := Tryd.zeroValue114
  t127 := Tryd.underlying152
  a127 := Tryd.isAgg152
  z127 := Tryd.sizeOf152
  v127 := Tryd.zeroValue152
  t164 := Tryd.underlying158
  a164 := Tryd.isAgg158
  z164 := Tryd.sizeOf158
  v164 := Tryd.zeroValue158 }
def YtjgncofhobhjdaaDoor.laysItoa_ren : Go.Shelf.Ren := ⟨fun | 171 => 55 | 243 => 91 | 246 => 99 | 283 => 101 | 284 => 102 | 285 => 103 | 286 => 104 | 129 => 106 | 317 => 105 | 318 => 107 | 319 => 108 | 320 => 109 | 337 => 110 | 338 => 111 | n => n, fun | 3 => 3 | 9 => 9 | 2 => 2 | 4 => 4 | 171 => 162 | 0 => 0 | 53 => 163 | 37 => 34 | 5 => 5 | 173 => 166 | 212 => 170 | 51 => 171 | 20 => 20 | 213 => 172 | 46 => 156 | 232 => 176 | 233 => 177 | n => n, fun | 17 => 1 | 18 => 2 | 19 => 3 | n => n⟩
theorem YtjgncofhobhjdaaDoor.laysItoa : Go.Proofs.LaysM.n171 Tryd.prog YtjgncofhobhjdaaDoor.laysItoa_ren := {
  mixed := by kernel_rfl
  f129 := Tryd.func106.trans (congrArg some (by kernel_rfl))
  f171 := Tryd.func55.trans (congrArg some (by kernel_rfl))
  f243 := Tryd.func91.trans (congrArg some (by kernel_rfl))
  f246 := Tryd.func99.trans (congrArg some (by kernel_rfl))
  f283 := Tryd.func101.trans (congrArg some (by kernel_rfl))
  f284 := Tryd.func102.trans (congrArg some (by kernel_rfl))
  f285 := Tryd.func103.trans (congrArg some (by kernel_rfl))
  f286 := Tryd.func104.trans (congrArg some (by kernel_rfl))
  f317 := Tryd.func105.trans (congrArg some (by kernel_rfl))
  f318 := Tryd.func107.trans (congrArg some (by kernel_rfl))
  f319 := Tryd.func108.trans (congrArg some (by kernel_rfl))
  f320 := Tryd.func109.trans (congrArg some (by kernel_rfl))
  f337 := Tryd.func110.trans (congrArg some (by kernel_rfl))
  f338 := Tryd.func111.trans (congrArg some (by kernel_rfl))
  t0 := Tryd.underlying0
  a0 := Tryd.isAgg0
  z0 := Tryd.sizeOf0
  v0 := Tryd.zeroValue0
  t2 := Tryd.underlying2
  a2 := Tryd.isAgg2
  z2 := Tryd.sizeOf2
  v2 := Tryd.zeroValue2
  t3 := Tryd.underlying3
  a3 := Tryd.isAgg3
  z3 := Tryd.sizeOf3
  v3 := Tryd.zeroValue3
  t4 := Tryd.underlying4
  a4 := Tryd.isAgg4
  z4 := Tryd.sizeOf4
  v4 := Tryd.zeroValue4
  t5 := Tryd.underlying5
  a5 := Tryd.isAgg5
  z5 := Tryd.sizeOf5
  v5 := Tryd.zeroValue5
  t9 := Tryd.underlying9
  a9 := Tryd.isAgg9
  z9 := Tryd.sizeOf9
  v9 := Tryd.zeroValue9
  t20 := Tryd.underlying20
  a20 := Tryd.isAgg20
  z20 := Tryd.sizeOf20
  v20 := Tryd.zeroValue20
  t37 := Tryd.underlying34
  a37 := Tryd.isAgg34
  z37 := Tryd.sizeOf34
  v37 := Tryd.zeroValue34
  t46 := Tryd.underlying156
  a46 := Tryd.isAgg156
  z46 := Tryd.sizeOf156
  v46 := Tryd.zeroValue156
  t51 := Tryd.underlying171
  a51 := Tryd.isAgg171
  z51 := Tryd.sizeOf171
  v51 := Tryd.zeroValue171
  t53 := Tryd.underlying163
  a53 := Tryd.isAgg163
  z53 := Tryd.sizeOf163
  v53 := Tryd.zeroValue163
  t171 := Tryd.underlying162
  a171 := Tryd.isAgg162
  z171 := Tryd.sizeOf162
  v171 := Tryd.zeroValue162
  t173 := Tryd.underlying166
  a173 := Tryd.isAgg166
  z173 := Tryd.sizeOf166
  v173 := Tryd.zeroValue166
  t212 := Tryd.underlying170
  a212 := Tryd.isAgg170
  z212 := Tryd.sizeOf170
  v212 := Tryd.zeroValue170
  t213 := Tryd.underlying172
  a213 := Tryd.isAgg172
  z213 := Tryd.sizeOf172
  t232 := Tryd.underlying176
  a232 := Tryd.isAgg176
  z232 := Tryd.sizeOf176
  v232 := Tryd.zeroValue176
  t233 := Tryd.underlying177
  a233 := Tryd.isAgg177
  z233 := Tryd.sizeOf177
  v233 := Tryd.zeroValue177
  g17 := by kernel_rfl
  g18 := by kernel_rfl
  g19 := by kernel_rfl
  i0 := by kernel_rfl
  i2 := by kernel_rfl
  i3 := by kernel_rfl
  i4 := by kernel_rfl
  i5 := by kernel_rfl
  i9 := by kernel_rfl
  i20 := by kernel_rfl
  i37 := by kernel_rfl
  i46 := by kernel_rfl
  i51 := by kernel_rfl
  i53 := by kernel_rfl
  i171 := by kernel_rfl
  i173 := by kernel_rfl
  i212 := by kernel_rfl
  i232 := by kernel_rfl
  i233 := by kernel_rfl
  m17 := by kernel_rfl
  m18 := by kernel_rfl
  m19 := by kernel_rfl }
def YtjgncofhobhjdaaDoor.laysDel_ren : Go.Shelf.Ren := ⟨fun | 10 => 51 | 6 => 88 | n => n, fun | 22 => 65 | 23 => 9 | 25 => 111 | 3 => 3 | 4 => 4 | 0 => 0 | n => n, fun | n => n⟩
theorem YtjgncofhobhjdaaDoor.laysDel : Go.Proofs.SlLaysH.n10 Tryd.prog YtjgncofhobhjdaaDoor.laysDel_ren := {
  mixed := by kernel_rfl
  f6 := ⟨Tryd.f88.name, by decide, Tryd.func88.trans (congrArg some (by kernel_rfl))⟩
  f10 := ⟨Tryd.f51.name, by decide, Tryd.func51.trans (congrArg some (by kernel_rfl))⟩
  t0 := Tryd.underlying0
  a0 := Tryd.isAgg0
  z0 := Tryd.sizeOf0
  v0 := Tryd.zeroValue0
  t3 := Tryd.underlying3
  a3 := Tryd.isAgg3
  z3 := Tryd.sizeOf3
  v3 := Tryd.zeroValue3
  t4 := Tryd.underlying4
  a4 := Tryd.isAgg4
  z4 := Tryd.sizeOf4
  v4 := Tryd.zeroValue4
  t22 := Tryd.underlying65
  a22 := Tryd.isAgg65
  z22 := Tryd.sizeOf65
  v22 := Tryd.zeroValue65
  a23 := Tryd.isAgg9
  z23 := Tryd.sizeOf9
  t25 := Tryd.underlying111
  a25 := Tryd.isAgg111
  z25 := Tryd.sizeOf111
  v25 := Tryd.zeroValue111 }
end Go.Proofs
/- Configurations in memory: how cells read as data. No condition. -/
namespace Go.Proofs.YtjgncofhobhjdaaDoor
open Go.RowKit

theorem info_parts {t : TypeId} {z : Option Value} {s b : Nat} (h : (Tryd.prog.info? t).map (fun i => (i.zero, i.size, i.bytes)) = some (z, s, b)) : ∃ i, Tryd.prog.info? t = some i ∧ i.zero = z ∧ i.size = s ∧ i.bytes = b := by
  cases hi : Tryd.prog.info? t with
  | none => rw [hi] at h; cases h
  | some i => rw [hi] at h; simp at h; exact ⟨i, rfl, h.1, h.2.1, h.2.2⟩
def u8T : Ty Int := Ty.flat 1 (fun n => [.int .u8 n]) u8k (fun _ => rfl)
def EpD.cells (e : EpD) : List Value := [.int .u8 e.num, .bool e.inn, .int .u8 e.kind, .int .u16 e.max, .int .u8 e.ivl]
def epT : Ty EpD := Ty.flat 5 EpD.cells EpD.ok (fun _ => rfl)
def IfD.cells (d : IfD) : List Value := [.int .u8 d.num, .int .u8 d.alt, .int .u8 d.eps, .int .u8 d.cls, .int .u8 d.sub, .int .u8 d.proto, .int .u8 d.text]
def CfgD.cells (d : CfgD) : List Value := [.int .u16 d.total, .int .u8 d.ifs, .int .u8 d.number, .int .u8 d.text, .bool d.self, .bool d.wake, .int .u8 d.power]
/-- a setting: nine cells -/
def Alt.cells (a : Alt) (X : Option Addr) (cx : Nat) (E : Option Addr) (ce : Nat) : List Value := a.d.cells ++ [.slice X a.extra.length cx, .slice E a.eps.length ce]
def altT : Ty Alt :=
  ⟨9, fun w F a cs => ∃ X cx E ce, cs = a.cells X cx E ce ∧ a.d.ok ∧ a.extra.length ≤ cx ∧ cx ≤ maxLen ∧ a.eps.length ≤ ce ∧ ce ≤ maxLen ∧ Sl u8T w F X a.extra.length a.extra ∧ Sl epT w F E a.eps.length a.eps,
   fun {_ _ _ _} ⟨_, _, _, _, e, _⟩ => by rw [e]; rfl,
   fun {_ _ _ _ _ _} ⟨X, cx, E, ce, e, h0, h1, h2, h3, h4, h5, h6⟩ hB hk => ⟨X, cx, E, ce, e, h0, h1, h2, h3, h4, h5.keep hB hk, h6.keep hB hk⟩⟩
/-- an interface: one cell, the row of its settings -/
abbrev ifT : Ty (List Alt) := altT.slice
def Cfg.cells (c : Cfg) (A : Option Addr) (cap : Nat) : List Value := c.d.cells ++ [.slice A c.ifs.length cap]
/-- a configuration's cells read as data -/
structure CfgIs (w : World) (F : Nat → Prop) (c : Cfg) (A : Option Addr) (cap : Nat) : Prop where
  d : c.d.ok
  len : c.ifs.length ≤ cap
  cap : cap ≤ maxLen
  ifs : Sl ifT w F A c.ifs.length c.ifs
theorem CfgIs.keep {w w' : World} {F F' : Nat → Prop} {c : Cfg} {A : Option Addr} {cap : Nat} (h : CfgIs w F c A cap) (hF : ∀ b, F b → F' b) (hk : ∀ b o, F b → w'.cell? ⟨b, o, none⟩ = w.cell? ⟨b, o, none⟩) : CfgIs w' F' c A cap := ⟨h.d, h.len, h.cap, h.ifs.keep hF hk⟩
theorem CfgIs.kept {w w' : World} {c : Cfg} {A : Option Addr} {cap : Nat} (h : CfgIs w (low w.heap.size) c A cap) (hk : Kept w w') : CfgIs w' (low w'.heap.size) c A cap := ⟨h.d, h.len, h.cap, h.ifs.kept hk⟩
theorem info5 : (Tryd.prog.info? 5).map (fun i => (i.zero, i.size, i.bytes)) = some (some (.int .u8 0), 1, 1) := by kernel_rfl
theorem infoEp : (Tryd.prog.info? 59).map (fun i => (i.zero, i.size, i.bytes)) = some (some (.agg #[.int .u8 0, .bool false, .int .u8 0, .int .u16 0, .int .u8 0]), 5, 8) := by kernel_rfl
theorem by_one8 : ∀ (F : Nat → Prop) (w : World) (x : Int) (cs : List Value), u8T.rel w F x cs → ∀ u ∈ cs, u.oneCell' = true := by
  rintro F w x cs ⟨rfl, _⟩ u hu
  rw [List.mem_singleton.1 hu]
  rfl
theorem kept_grown {w w' : World} (h : w.grownBy w' none) : Kept w w' := ⟨h.os, h.tape, h.output, h.size, fun k hk => h.block k hk (by simp)⟩
/-- a literal of bytes -/
theorem sl_lit8 {w : World} {b : Nat} {l : List Int} {F : Nat → Prop} (h : w.heap[b]? = some (.cells (l.map (Value.int .u8)).toArray 5 (0, 0))) (hb : F b) (hl : ∀ z ∈ l, u8k z) : Sl u8T w F (some ⟨b, 0, none⟩) l.length l := by
  refine ⟨rfl, fun i x hx => ⟨b, 0, [.int .u8 x], rfl, hb, ⟨rfl, hl x (List.mem_of_getElem? hx)⟩, fun j v hv => ?_⟩⟩
  have hj : j = 0 := by
    cases j with
    | zero => rfl
    | succ j => simp at hv
  subst hj
  have hv' : Value.int .u8 x = v := by simpa using hv
  subst hv'
  rw [cell_of_row w b (0 + i * u8T.size + 0) _ _ _ h]
  simp [u8T, Ty.flat, hx]
theorem Sl.all8 {w : World} {F : Nat → Prop} {A : Option Addr} {n : Nat} {l : List Int} (h : Sl u8T w F A n l) : ∀ z ∈ l, u8k z := by
  intro z hz
  obtain ⟨i, hi⟩ := List.getElem?_of_mem hz
  obtain ⟨_, _, _, _, _, ⟨_, hk⟩, _⟩ := h.2 i z hi
  exact hk
end Go.Proofs.YtjgncofhobhjdaaDoor
/- The encoders of descriptors. The numbers lie in their kinds. -/
namespace Go.Proofs.YtjgncofhobhjdaaDoor
open Go.RowKit
attribute [local go_sem ↓] Go.wp_at_zero Go.wp_at_succ

theorem low_any (n : Int) (w : World) (h : u16k n) : Calls Tryd.prog 93 #[.int .u16 n] w fun e w' => e = .returned (.int .u8 (n % 256)) ∧ w' = w := by
  obtain ⟨h0, h1⟩ := h
  have hw : IntKind.u8.wrap n = n % 256 := by rw [IntKind.wrap_u8]
  go_enter Tryd.func93, Tryd.ntmps93
  go_wp2
  go_ret
  exact ⟨rfl, rfl⟩
theorem high_any (n : Int) (w : World) (h : u16k n) : Calls Tryd.prog 94 #[.int .u16 n] w fun e w' => e = .returned (.int .u8 (n / 256)) ∧ w' = w := by
  obtain ⟨h0, h1⟩ := h
  have hw : IntKind.u8.wrap (n / 256) = n / 256 := by rw [IntKind.wrap_u8]; omega
  have hw1 : IntKind.u16.wrap (n / 256) = n / 256 := by rw [IntKind.wrap_u16]; omega
  go_enter Tryd.func94, Tryd.ntmps94
  go_wp2
  go_ret
  exact ⟨rfl, rfl⟩
set_option maxRecDepth 100000 in
set_option maxHeartbeats 1000000 in
theorem join_any (k : Int) (A : Option Addr) (n c : Nat) (bs : List Int) (w : World) (hk : u8k k) (hn : n ≤ 200) (hl : Sl u8T w (low w.heap.size) A n bs) :
    Calls Tryd.prog 92 #[.int .u8 k, .slice A n c] w fun e w' => ∃ A' cap, e = .returned (.slice A' (n + 2) cap) ∧ Own u8T 5 w.heap.size w' (.slice A' (n + 2) cap) (n + 2) (((n : Int) + 2) :: k :: bs) ∧ Kept w w' := by
  obtain ⟨i5, hi5, hz0, hz1, hz2⟩ := info_parts info5
  have hw1 : IntKind.i64.wrap ((n : Int) + 2) = (n : Int) + 2 := by rw [IntKind.wrap_i64]; omega
  have hw2 : IntKind.u8.wrap ((n : Int) + 2) = (n : Int) + 2 := by rw [IntKind.wrap_u8]; omega
  obtain ⟨w1, hrun, how, hgr⟩ := run_make_own w w.heap.size 34 5 i5 _ 1 Tryd.underlying34 hi5 hz0 hz1 .i64 .i64 (n + 2) (by rw [hz2]; omega) (by unfold maxLen; omega) (Nat.le_refl _)
  rw [show ((n + 2 : Nat) : Int) = (n : Int) + 2 by omega] at hrun
  have hown : Own u8T 5 w.heap.size w1 (.slice (some ⟨w.heap.size, 0, none⟩) 0 (n + 2)) 0 [] := ⟨rfl, [], how, fun i x hx => by simp at hx⟩
  have hk1 := kept_grown hgr
  have hl1 := hl.kept hk1
  have hlt := (hown.lt (g := w.heap.size) rfl).2
  obtain ⟨k0, k1⟩ := hk
  have hlit : ∀ z ∈ [(n : Int) + 2, k], u8k z := by
    intro z hz
    simp at hz
    rcases hz with rfl | rfl
    · unfold u8k; omega
    · exact ⟨k0, k1⟩
  go_enter Tryd.func92, Tryd.ntmps92
  go_wp2_with (first
    | (at_builtin; refine wpList_append_sl (T := u8T) rfl (.tmp 8) (.tmp 14) 34 rfl w.heap.size 5 i5 _ 1 Tryd.underlying34 hi5 hz0 hz1 hz2 rfl (by decide) _ 0 [] (by rfl) (hown.alloc _) (some ⟨w1.heap.size, 0, none⟩) 2 2 [(n : Int) + 2, k] (by rfl) (sl_lit8 (l := [(n : Int) + 2, k]) (heap_at _ rfl) ⟨by simp, by simp [Value.ownBlock]; omega⟩ hlit) (by_one8 _ _) (by unfold maxLen; omega) (by omega) (by simp; omega) ?_; intro v7 w7 hown7 hg7 hb7 hat7; have hk7 : Kept w w7 := (hk1.trans ((Below.refl _ _).alloc (by omega) _)).trans hb7)
    | (at_builtin; refine wpList_append_sl (T := u8T) rfl (.tmp 15) (.tmp 16) 34 rfl w.heap.size 5 i5 _ 1 Tryd.underlying34 hi5 hz0 hz1 hz2 rfl (by decide) _ (0 + 2) ([] ++ [(n : Int) + 2, k]) (by rfl) hown7 A n c bs (by rfl) (hl.keep (fun b hb => ⟨Nat.lt_of_lt_of_le hb hk7.size, fun e => absurd (hown7.lt e).1 (by have : b < w.heap.size := hb; omega)⟩) (fun b o hb => hk7.cell (p := ⟨b, o, none⟩) hb)) (by_one8 _ _) (by unfold maxLen; omega) (by omega) (by have := hk7.size; omega) ?_; intro v8 w8 hown8 hg8 hb8 hat8))
  obtain ⟨A', cap, rfl, _, _⟩ := hown8.isSlice
  have hcnt : 0 + 2 + n = n + 2 := by omega
  rw [hcnt] at hown8 ⊢
  go_ret
  exact ⟨A', cap, rfl, hown8, hk7.trans hb8⟩
theorem low_alloc {a : Nat} {w : World} {o : Obj} (h : a ≤ w.heap.size) : a ≤ (w.alloc o).heap.size := by rw [World.size_alloc]; omega
/-- what a call has made lies behind what was there -/
theorem own_new8 {w : World} {base n c : Nat} {A : Option Addr} {l : List Int} (h : Own u8T 5 base w (.slice A n c) n l) : Sl u8T w (fun g => base ≤ g ∧ g < w.heap.size) A n l :=
  h.sl_of _ (fun g h1 h2 => ⟨h1, h2⟩) (fun _ _ hr => hr)
theorem Sl.newlow {α : Type} {t : Ty α} {w : World} {N n : Nat} {A : Option Addr} {l : List α} (h : Sl t w (fun g => N ≤ g ∧ g < w.heap.size) A n l) : Sl t w (low w.heap.size) A n l := h.keep (fun b hb => hb.2) (fun _ _ _ => rfl)
end Go.Proofs.YtjgncofhobhjdaaDoor
/- valid, Address, EncodeEndpoint. The numbers lie in their kinds. Printed by gen_sc.py. -/
namespace Go.Proofs.YtjgncofhobhjdaaDoor
open Go.RowKit
attribute [local go_sem ↓] Go.wp_at_zero Go.wp_at_succ

set_option maxRecDepth 100000 in
set_option maxHeartbeats 4000000 in
theorem validEp_any (e : EpD) (w : World) (he : e.ok) : Calls Tryd.prog 66 #[.agg e.cells.toArray] w fun r w' => r = .returned (.bool (okEp e)) ∧ Kept w w' := by
  unfold EpD.cells
  go_enter Tryd.func66, Tryd.ntmps66
  by_cases c0 : e.num < 1
  · have hr : okEp e = false := Bool.eq_false_iff.2 fun h => by have := okEp_num h; omega
    rw [hr]
    clear hr
    go_wp2_with fail
    go_ret
    exact ⟨rfl, by go_grown⟩
  by_cases c1 : 15 < e.num
  · have hr : okEp e = false := Bool.eq_false_iff.2 fun h => by have := okEp_num h; omega
    rw [hr]
    clear hr
    go_wp2_with fail
    go_ret
    exact ⟨rfl, by go_grown⟩
  by_cases c2 : e.max < 1
  · have hr : okEp e = false := Bool.eq_false_iff.2 fun h => by have := okEp_num h; omega
    rw [hr]
    clear hr
    go_wp2_with fail
    go_ret
    exact ⟨rfl, by go_grown⟩
  by_cases c3 : 1024 < e.max
  · have hr : okEp e = false := Bool.eq_false_iff.2 fun h => by have := okEp_num h; omega
    rw [hr]
    clear hr
    go_wp2_with fail
    go_ret
    exact ⟨rfl, by go_grown⟩
  have b0 : 1 ≤ e.num := by omega
  have b1 : e.num ≤ 15 := by omega
  have b2 : 1 ≤ e.max := by omega
  have b3 : e.max ≤ 1024 := by omega
  by_cases k2 : e.kind = 2
  · have k1 : ¬ e.kind = 1 := by omega
    have hr : okEp e = decide (e.ivl = 0) := by unfold okEp; rw [if_pos k2]; simp only [decide_eq_true b0, decide_eq_true b1, decide_eq_true b2, decide_eq_true b3, Bool.true_and, Bool.decide_and]
    by_cases v0 : e.ivl = 0
    · rw [decide_eq_true v0] at hr
      rw [hr]
      clear hr b0 b1 b2 b3
      go_wp2_with fail
      go_ret
      exact ⟨by first | rfl | simp [*], by go_grown⟩
    · rw [decide_eq_false v0] at hr
      rw [hr]
      clear hr b0 b1 b2 b3
      go_wp2_with fail
      go_ret
      exact ⟨by first | rfl | simp [*], by go_grown⟩
  by_cases k1 : e.kind = 1
  · have hr : okEp e = decide (1 ≤ e.ivl ∧ e.ivl ≤ 16) := by unfold okEp; rw [if_neg k2, if_pos k1]; simp only [decide_eq_true b0, decide_eq_true b1, decide_eq_true b2, decide_eq_true b3, Bool.true_and, Bool.decide_and]
    by_cases v0 : 1 ≤ e.ivl
    · by_cases v1 : e.ivl ≤ 16
      · rw [decide_eq_true ⟨v0, v1⟩] at hr
        rw [hr]
        clear hr b0 b1 b2 b3
        go_wp2_with fail
        go_ret
        exact ⟨by first | rfl | simp [*], by go_grown⟩
      · rw [decide_eq_false (fun h => v1 h.2)] at hr
        rw [hr]
        clear hr b0 b1 b2 b3
        go_wp2_with fail
        go_ret
        exact ⟨by first | rfl | simp [*], by go_grown⟩
    · rw [decide_eq_false (fun h => v0 h.1)] at hr
      rw [hr]
      clear hr b0 b1 b2 b3
      go_wp2_with fail
      go_ret
      exact ⟨by first | rfl | simp [*], by go_grown⟩
  by_cases k3 : e.kind = 3
  · have hr : okEp e = decide (1 ≤ e.ivl) := by unfold okEp; rw [if_neg k2, if_neg k1, if_pos k3]; simp only [decide_eq_true b0, decide_eq_true b1, decide_eq_true b2, decide_eq_true b3, Bool.true_and, Bool.decide_and]
    by_cases v0 : 1 ≤ e.ivl
    · rw [decide_eq_true v0] at hr
      rw [hr]
      clear hr b0 b1 b2 b3
      go_wp2_with fail
      go_ret
      exact ⟨by first | rfl | simp [*], by go_grown⟩
    · rw [decide_eq_false v0] at hr
      rw [hr]
      clear hr b0 b1 b2 b3
      go_wp2_with fail
      go_ret
      exact ⟨by first | rfl | simp [*], by go_grown⟩
  have hr : okEp e = false := Bool.eq_false_iff.2 fun h => by have := okEp_num h; omega
  rw [hr]
  clear hr b0 b1 b2 b3
  go_wp2_with fail
  go_ret
  exact ⟨by first | rfl | simp [*], by go_grown⟩
theorem and15 {n : Int} (h : u8k n) : bits BinOp.and IntKind.u8 n 15 = n % 16 := by
  have hk : ∀ k : Fin 256, bits BinOp.and IntKind.u8 (k.val : Int) 15 = (k.val : Int) % 16 := by decide +kernel
  obtain ⟨h0, h1⟩ := h
  have := hk ⟨n.toNat, by omega⟩
  rwa [show ((n.toNat : Nat) : Int) = n by omega] at this
theorem or128 {n : Int} (h : u8k n) : bits BinOp.or IntKind.u8 (n % 16) 128 = n % 16 + 128 := by
  have hk : ∀ k : Fin 256, bits BinOp.or IntKind.u8 ((k.val : Int) % 16) 128 = (k.val : Int) % 16 + 128 := by decide +kernel
  obtain ⟨h0, h1⟩ := h
  have := hk ⟨n.toNat, by omega⟩
  rwa [show ((n.toNat : Nat) : Int) = n by omega] at this
theorem addr_u8 {e : EpD} (h : e.ok) : u8k (addrS e) := by
  obtain ⟨⟨h0, h1⟩, _⟩ := h
  unfold addrS u8k
  split <;> omega
set_option maxRecDepth 100000 in
set_option maxHeartbeats 4000000 in
theorem addr_any (e : EpD) (w : World) (he : e.ok) : Calls Tryd.prog 58 #[.agg e.cells.toArray] w fun r w' => r = .returned (.int .u8 (addrS e)) ∧ Kept w w' := by
  have h1 := and15 he.1
  have h2 := or128 he.1
  unfold EpD.cells
  obtain ⟨n, i, k, m, v⟩ := e
  simp only at *
  go_enter Tryd.func58, Tryd.ntmps58
  cases i with
  | true =>
    have hr : addrS ⟨n, true, k, m, v⟩ = n % 16 + 128 := rfl
    rw [hr]
    go_wp2_with fail
    go_ret
    exact ⟨rfl, by go_grown⟩
  | false =>
    have hr : addrS ⟨n, false, k, m, v⟩ = n % 16 := by unfold addrS; simp
    rw [hr]
    go_wp2_with fail
    go_ret
    exact ⟨rfl, by go_grown⟩
set_option maxRecDepth 100000 in
set_option maxHeartbeats 4000000 in
theorem encEp_bad (e : EpD) (w : World) (he : e.ok) (ho : okEp e = false) : Calls Tryd.prog 75 #[.agg e.cells.toArray] w fun r w' => r = .returned (.tuple #[.slice none 0 0, .int .i64 1]) ∧ Kept w w' := by
  have hv := fun w => validEp_any e w he
  rw [ho] at hv
  unfold EpD.cells at hv ⊢
  go_enter Tryd.func75, Tryd.ntmps75
  go_wp2_with (go_at_call 66; refine (hv _).mono ?_; rintro r w1 ⟨rfl, hk⟩)
  refine bodyPost_ret (v := .tuple #[.slice none 0 0, .int .i64 1]) (by simp [results, Tryd.results75, go_sem]) rfl ⟨rfl, Below.trans (by go_grown) (hk.mono (by simp))⟩
set_option maxRecDepth 100000 in
set_option maxHeartbeats 4000000 in
theorem encEp_ok (e : EpD) (w : World) (he : e.ok) (ho : okEp e = true) : Calls Tryd.prog 75 #[.agg e.cells.toArray] w fun r w' => ∃ A cap, r = .returned (.tuple #[.slice A 7 cap, .int .i64 0]) ∧ Sl u8T w' (fun b => w.heap.size ≤ b ∧ b < w'.heap.size) A 7 (rawEp e) ∧ Kept w w' := by
  have hv := fun w => validEp_any e w he
  have ha := fun w => addr_any e w he
  have hau := addr_u8 he
  rw [ho] at hv
  obtain ⟨u1, u2, u3, u4⟩ := he
  unfold rawEp
  unfold EpD.cells at hv ha ⊢
  obtain ⟨a, hA⟩ : ∃ a, addrS e = a := ⟨_, rfl⟩
  rw [hA] at ha hau ⊢
  clear hA ho
  obtain ⟨n, i, k, m, v⟩ := e
  simp only at *
  have hlit : ∀ z ∈ [a, k, m % 256, m / 256, v], u8k z := by
    obtain ⟨u3a, u3b⟩ := u3
    intro z hz
    simp only [List.mem_cons, List.not_mem_nil, or_false] at hz
    rcases hz with rfl | rfl | rfl | rfl | rfl
    · exact hau
    · exact u2
    · unfold u8k; omega
    · unfold u8k; omega
    · exact u4
  go_enter Tryd.func75, Tryd.ntmps75
  go_upto_region 3 with (go_at_call 66; refine (hv _).mono ?_; rintro r w1 ⟨rfl, hk⟩)
  refine wp_at (fun W => W.heap[w.heap.size]? = some (.cells #[.int .u8 n, .bool i, .int .u8 k, .int .u16 m, .int .u8 v] 59 (0, 0)) ∧ Kept w W) ⟨heap_kept hk (heap_at _ rfl), Below.trans (by go_grown) (hk.mono (by simp))⟩ (fun W hW => ?_)
  obtain ⟨hB, hkW⟩ := hW
  have HkW := hide hkW
  have hbl := heap_lt hB
  have e0 : W.cell? ⟨w.heap.size, 0, none⟩ = some (.int .u8 n) := cell_heap hB (o := 0) rfl
  have e1 : W.cell? ⟨w.heap.size, 1, none⟩ = some (.bool i) := cell_heap hB (o := 1) rfl
  have e2 : W.cell? ⟨w.heap.size, 2, none⟩ = some (.int .u8 k) := cell_heap hB (o := 2) rfl
  have e3 : W.cell? ⟨w.heap.size, 3, none⟩ = some (.int .u16 m) := cell_heap hB (o := 3) rfl
  have e4 : W.cell? ⟨w.heap.size, 4, none⟩ = some (.int .u8 v) := cell_heap hB (o := 4) rfl
  clear hB hkW hk hv
  go_region_held3 (fun w' => (∀ b o, b < W.heap.size → w'.cell? ⟨b, o, none⟩ = W.cell? ⟨b, o, none⟩) ∧ Below W.heap.size W w') (first | assumption | exact since_start | exact since_keep (by assumption) (Nat.le_refl _) hk | exact since_alloc (by assumption) (Nat.le_refl _)) (first
    | (go_at_call 58; refine (ha _).mono ?_; rintro r w1 ⟨rfl, hk⟩)
    | (go_at_call 93; refine (low_any m _ u3).mono ?_; rintro r w1 ⟨rfl, rfl⟩)
    | (go_at_call 94; refine (high_any m _ u3).mono ?_; rintro r w1 ⟨rfl, rfl⟩)
    | (go_at_call 92; refine (join_any 5 _ 5 5 [a, k, m % 256, m / 256, v] _ ⟨by decide, by decide⟩ (by decide) (by exact sl_lit8 (l := [a, k, m % 256, m / 256, v]) (heap_at _ rfl) (by simp [low]) hlit)).mono ?_; rintro r w1 ⟨A', cap, rfl, hown, hk⟩; have hown := own_new8 (hown.lower (base' := w.heap.size) (Nat.le_trans (Nat.le_of_lt hbl) (Below.size (B := W.heap.size) (w := W) (And.right (by assumption)))))))
  go_wp2_with fail
  refine bodyPost_ret (v := .tuple #[.slice A' 7 cap, .int .i64 0]) (by simp [results, Tryd.results75, go_sem]) rfl ⟨A', cap, rfl, ?_, since_kept HkW.out (by assumption) (Nat.le_refl _)⟩
  exact hown
end Go.Proofs.YtjgncofhobhjdaaDoor
/- Text: its tools: numbers, a line's words, the builder and what a line writes. The library's table of powers is as the program lays it. -/
namespace Go.Proofs.YtjgncofhobhjdaaDoor
open Go.RowKit Go.Shelf Go.Lib
attribute [local go_sem ↓] Go.wp_at_zero Go.wp_at_succ

/-- the library's variable, as the program lays it -/
structure Tabs (W : World) : Prop where
  pow : ∃ t fr, W.heap[1]? = some (.cells (Lib.pow10Tab.map fun z => Value.int .u64 z).toArray t fr)
theorem Tabs.lt {w : World} (h : Tabs w) : 1 < w.heap.size := by
  obtain ⟨_, _, h2⟩ := h
  exact (Array.getElem?_eq_some_iff.1 h2).1
theorem Tabs.of {w w' : World} (h : Tabs w) (hk : w'.heap[1]? = w.heap[1]?) : Tabs w' := by
  obtain ⟨t, fr, h3⟩ := h
  exact ⟨t, fr, hk.trans h3⟩
theorem Tabs.below {N : Nat} {w w' : World} (h : Tabs w) (hk : Below N w w') (hN : 1 < N) : Tabs w' := h.of (hk.block 1 hN)
theorem Tabs.kept {w w' : World} (h : Tabs w) (hk : Kept w w') : Tabs w' := h.below hk h.lt
theorem Tabs.powIs {w : World} (h : Tabs w) {n : String} (hn : Tryd.prog.globalNamed n = some 1) : Lib.TabIs Tryd.prog w n .u64 Lib.pow10Tab := by
  obtain ⟨t, fr, h1⟩ := h
  unfold Lib.TabIs World.var?
  rw [hn]
  simp only [Option.bind_some, h1]
theorem laysExtra : Builder.Extra Tryd.prog laysJoin_ren where
  sizeBuilder := by kernel_rfl
  liesBuilder := by kernel_rfl
  t5 := Tryd.underlying5
  a5 := Tryd.isAgg5
  z5 := Tryd.sizeOf5
  v5 := Tryd.zeroValue5
  infoByte := by kernel_rfl
  cellsByte := by kernel_rfl
  sizeByte := by kernel_rfl
  neB5 := by decide
theorem itoa_any (n : Int) (w : World) (h0 : -9223372036854775808 ≤ n) (h1 : n ≤ 9223372036854775807) (hT : Tabs w) :
    Calls Tryd.prog 55 #[.int .i64 n] w fun e w' => e = .returned (.string (B8 (Lib.itoa n))) ∧ Kept w w' := by
  refine (Any.strconv_Itoa laysItoa n h0 h1 w (hT.powIs laysItoa.m17)).mono ?_
  rintro e w' ⟨rfl, k, os, rfl⟩
  exact ⟨rfl, below_grown w k os⟩
theorem joins_any (bk o c : Nat) (xs : List ByteArray) (w : World) (hcells : ∀ (j : Nat) x, xs[j]? = some x → w.cell? ⟨bk, o + j, none⟩ = some (.string x)) (hbk : bk < w.heap.size) (hN : xs.length ≤ 140737488355328) (hcap : xs.length ≤ c)
    (hlen : (Lib.join (xs.map (·.data.toList)) [32]).length ≤ 140737488355328) :
    Calls Tryd.prog 54 #[.slice (some ⟨bk, o, none⟩) xs.length c, .string ⟨#[32]⟩] w fun e w' => e = .returned (.string (B8 (Lib.join (xs.map (·.data.toList)) [32]))) ∧ Kept w w' :=
  Any.strings_Join laysJoin laysExtra bk o c xs (B8 [32]) w hcells hbk hN hcap hlen
/-! a builder -/
def IsB (b : Nat) (l : List UInt8) (w : World) : Prop := Lib.IsBuilder 109 5 b b (Lib.byteCells l) w
/-- the block of a builder's bytes -/
def bufOf (b : Nat) (w : World) : Option Nat := match w.heap[b]? with
  | some (.cells cs _ _) => (cs[1]?).bind Value.ownBlock
  | _ => none
theorem bufOf_at {b : Nat} {w : World} {p v : Value} {t : TypeId} {fr : Nat × Nat} (h : w.heap[b]? = some (.cells #[p, v] t fr)) : bufOf b w = v.ownBlock := by
  unfold bufOf
  rw [h]
  rfl
theorem bufOf_congr {b : Nat} {w w' : World} (h : w'.heap[b]? = w.heap[b]?) : bufOf b w' = bufOf b w := by
  unfold bufOf
  rw [h]
/-- below a bound all stays but a builder and its bytes -/
structure Adv (N b : Nat) (X Y : World) : Prop where
  os : Y.os = X.os
  tape : Y.tape = X.tape
  output : Y.output = X.output
  size : X.heap.size ≤ Y.heap.size
  block : ∀ k, k < N → k ≠ b → bufOf b X ≠ some k → Y.heap[k]? = X.heap[k]?
  buf : ∀ k, bufOf b Y = some k → bufOf b X = some k ∨ N ≤ k
section
variable {N b : Nat} {X Y Z : World}
theorem Adv.refl : Adv N b X X := ⟨rfl, rfl, rfl, Nat.le_refl _, fun _ _ _ _ => rfl, fun _ h => .inl h⟩
theorem Adv.trans (h : Adv N b X Y) (k : Adv N b Y Z) : Adv N b X Z :=
  ⟨k.os.trans h.os, k.tape.trans h.tape, k.output.trans h.output, Nat.le_trans h.size k.size,
   fun i h1 h2 h3 => (k.block i h1 h2 (fun e => (h.buf i e).elim h3 (fun h4 => by omega))).trans (h.block i h1 h2 h3),
   fun i e => (k.buf i e).elim (h.buf i) .inr⟩
theorem Adv.mono {M : Nat} (h : Adv N b X Y) (hM : M ≤ N) : Adv M b X Y := ⟨h.os, h.tape, h.output, h.size, fun k h1 h2 h3 => h.block k (by omega) h2 h3, fun k e => (h.buf k e).imp id (fun h => by omega)⟩
theorem Adv.of (h : Below N X Y) (hb : b < N) : Adv N b X Y := ⟨h.os, h.tape, h.output, h.size, fun k h1 _ _ => h.block k h1, fun k e => .inl (by rw [bufOf_congr (h.block b hb)] at e; exact e)⟩
theorem IsB.parts {l : List UInt8} (h : IsB b l X) : ∃ p v, X.heap[b]? = some (.cells #[p, v] 109 (0, 0)) ∧ X.ownsRow b 5 1 v l.length (Lib.byteCells l) ∧ v.ownBlock ≠ some b ∧ bufOf b X = v.ownBlock := by
  rcases h with ⟨_, v, h1, h2, h3⟩ | ⟨_, v, h1, h2, h3⟩
  · exact ⟨_, v, h1, by rw [Lib.byteCells_length] at h2; exact h2, h3, bufOf_at h1⟩
  · exact ⟨_, v, h1, by rw [Lib.byteCells_length] at h2; exact h2, h3, bufOf_at h1⟩
theorem IsB.lt {l : List UInt8} (h : IsB b l X) : b < X.heap.size := by
  obtain ⟨p, v, h1, _⟩ := h.parts
  exact heap_lt h1
theorem IsB.buf {l : List UInt8} (h : IsB b l X) {k : Nat} (e : bufOf b X = some k) : b ≤ k ∧ k < X.heap.size ∧ ∃ cs, X.heap[k]? = some (.cells cs 5 (0, 0)) := by
  obtain ⟨p, v, h1, h2, _, h4⟩ := h.parts
  rw [h4] at e
  obtain ⟨h5, h6⟩ := h2.lt k e
  refine ⟨h5, h6, ?_⟩
  rcases h2.2 with ⟨rfl, _⟩ | ⟨g, cap, cur, rfl, _, hg, _⟩
  · cases e
  · obtain rfl : g = k := by simpa [Value.ownBlock] using e
    exact ⟨_, hg⟩
theorem IsB.not {l : List UInt8} (h : IsB b l X) {k : Nat} {cs : Array Value} {t : TypeId} {fr : Nat × Nat} (hk : X.heap[k]? = some (.cells cs t fr)) (ht : 5 ≠ t) : bufOf b X ≠ some k := by
  intro e
  obtain ⟨_, _, c2, h1⟩ := h.buf e
  rw [hk] at h1
  injection h1 with h1
  injection h1 with _ h1
  exact ht h1.symm
theorem Adv.below {l : List UInt8} {M : Nat} (h : Adv N b X Y) (hB : IsB b l X) (h1 : M ≤ N) (h2 : M ≤ b) : Below M X Y := ⟨h.os, h.tape, h.output, h.size, fun k hk => h.block k (by omega) (by omega) (fun e => by have := (hB.buf e).1; omega)⟩
theorem IsB.kept {l : List UInt8} (h : IsB b l X) (hk : Kept X Y) : IsB b l Y := by
  have hg : X.grownBy Y none := ⟨hk.os, hk.tape, hk.output, hk.size, fun k h1 _ => hk.block k h1⟩
  have step : ∀ p, Lib.BuilderAt 109 5 b b p (Lib.byteCells l) X → Lib.BuilderAt 109 5 b b p (Lib.byteCells l) Y := fun p ⟨h0, v, h1, h2, h3⟩ =>
    ⟨h0, v, heap_kept hk h1, h2.kept hg (by cases hv : v.ownBlock <;> simp), h3⟩
  exact h.imp (step _) (step _)
/-- a new builder -/
theorem IsB.new (w : World) : IsB w.heap.size [] (w.alloc (.cells #[.pointer none, .slice none 0 0] 109)) := Lib.fresh_isBuilder 109 5 w
end
/-- where the bytes lie behind an append: where they lay, or in a new row -/
theorem str_block {P : Program} {w w' : World} (base : Nat) (t u ty e : TypeId) (i : TypeInfo) (ht : P.underlying t = some (.slice e)) (hu : P.underlying u = some .string) (hi : P.info? e = some i) (hz : i.zero = some (.int .u8 0))
    (hsize : i.size = 1) (hby : i.bytes = 1) (v v' : Value) (n : Nat) (xs : List Value) (hown : w.ownsRow base e 1 v n xs) (s : ByteArray)
    (h63 : n + s.size ≤ maxLen) (hbytes : n + s.size ≤ 140737488355328) (hr : (Builtin.append_ #[t, u] ty #[v, .string s]).run P w = .ok v' w') : v'.ownBlock = v.ownBlock ∨ v'.ownBlock = some w.heap.size := by
  have hxl : xs.length = n := by simpa using hown.1
  simp only [maxLen] at h63
  rcases hown.2 with ⟨rfl, rfl⟩ | ⟨g, cap, cur, rfl, hbg, hg, hnc, hcm, hcs, htake⟩
  · have hx : xs = [] := List.eq_nil_of_length_eq_zero hxl
    subst hx
    by_cases hm : s.size = 0
    · have hf := run_firstCells_string (P := P) w 1 s
      rw [hm] at hf
      simp [Builtin.append_, run_underlying ht, run_underlying hu, sizeOf, typeInfo, hi, hsize, Builtin.lenOf, hm, hf] at hr
      left
      rw [← hr.1]
    · have hr2 := run_append_nil_string (P := P) w t u ty e i (.int .u8 0) ht hu hi hz s (by omega) (by omega) (by rw [hby]; omega)
      rw [hr2] at hr
      injection hr with h1 _
      right
      rw [← h1]
      rfl
  · by_cases hroom : n + s.size ≤ cap
    · have hr2 := run_append_room_string (P := P) w t u ty e i ht hu hi hsize g n cap cur hg s hroom (by omega)
      rw [hr2] at hr
      injection hr with h1 _
      left
      rw [← h1]
      rfl
    · have holds : ∀ j u, xs[j]? = some u → w.cell? ((⟨g, 0, none⟩ : Addr).add j) = some u := hown.cells (g := g) rfl
      have hr2 := run_append_grow_string (P := P) w t u ty e i (.int .u8 0) ht hu hi hz ⟨g, 0, none⟩ n cap xs (by rw [hsize]; simpa using hxl) holds s (by omega) (by omega) (by rw [hby]; exact growslice_fits (by omega) (by omega))
      rw [hr2] at hr
      injection hr with h1 _
      right
      rw [← h1]
      rfl
theorem wpList_append_str {P : Program} {w : World} {ops : Array Oper} {rest : List Oper} {o : Oper} {a : Act} {Q : Exit → Act → World → Prop} (hgd : o.guard = none) (sl x : Operand) (t u : TypeId)
    (ho : o.op = .call { callee := .builtin .append, args := #[sl, x], argTypes := #[t, u] })
    (base : Nat) (e : TypeId) (i : TypeInfo) (ht : P.underlying t = some (.slice e)) (hu : P.underlying u = some .string) (hi : P.info? e = some i) (hz : i.zero = some (.int .u8 0))
    (hsize : i.size = 1) (hby : i.bytes = 1)
    (v : Value) (n : Nat) (xs : List Value) (hs : a.eval sl = v) (hown : w.ownsRow base e 1 v n xs) (s : ByteArray) (hx : a.eval x = .string s)
    (h63 : n + s.size ≤ maxLen) (hbytes : n + s.size ≤ 140737488355328) (hbase : base ≤ w.heap.size)
    (h : ∀ v' w', w'.ownsRow base e 1 v' (n + s.size) (xs ++ strCells s) → w.grownBy w' v.ownBlock → (v'.ownBlock = v.ownBlock ∨ v'.ownBlock = some w.heap.size) → wpList P ops Q rest (a.put o.dst v') w') : wpList P ops Q (o :: rest) a w := by
  refine wpList_plain hgd fun K hK => ?_
  obtain ⟨v', w', hr, h2, h3, h4⟩ := run_append_own_string (P := P) w base t u o.type e i ht hu hi hz hsize hby v n xs hown s h63 hbytes hbase
  have h5 := str_block base t u o.type e i ht hu hi hz hsize hby v v' n xs hown s h63 hbytes hr
  unfold Oper.wp execOp
  simp only [ho, resolve, invoke, builtin, Sem.run_bind, Sem.run_pure, Result.andThen_ok, List.map_toArray, List.map_cons, List.map_nil, hs, hx, hr]
  exact hK _ _ (h v' w' h2 h3 h5)
end Go.Proofs.YtjgncofhobhjdaaDoor
/- The standard library's Clip, Index, Contains, Equal on what configurations are made of; standard. Printed by gen_se.py. -/
namespace Go.Proofs.YtjgncofhobhjdaaDoor
open Go.RowKit
attribute [local go_sem ↓] Go.wp_at_zero Go.wp_at_succ

theorem clipB_any (A : Option Addr) (n c : Nat) (hn : n ≤ c) (hc : c ≤ maxLen) (w : World) : Calls Tryd.prog 62 #[.slice A n c] w fun e w' => e = .returned (.slice A n n) ∧ w = w' := by
  unfold maxLen at hc
  go_enter Tryd.func62, Tryd.ntmps62
  go_wp2
  go_ret
  exact ⟨rfl, rfl⟩
theorem clipEp_any (A : Option Addr) (n c : Nat) (hn : n ≤ c) (hc : c ≤ maxLen) (w : World) : Calls Tryd.prog 63 #[.slice A n c] w fun e w' => e = .returned (.slice A n n) ∧ w = w' := by
  unfold maxLen at hc
  go_enter Tryd.func63, Tryd.ntmps63
  go_wp2
  go_ret
  exact ⟨rfl, rfl⟩
theorem clipAlt_any (A : Option Addr) (n c : Nat) (hn : n ≤ c) (hc : c ≤ maxLen) (w : World) : Calls Tryd.prog 64 #[.slice A n c] w fun e w' => e = .returned (.slice A n n) ∧ w = w' := by
  unfold maxLen at hc
  go_enter Tryd.func64, Tryd.ntmps64
  go_wp2
  go_ret
  exact ⟨rfl, rfl⟩
theorem clipIf_any (A : Option Addr) (n c : Nat) (hn : n ≤ c) (hc : c ≤ maxLen) (w : World) : Calls Tryd.prog 65 #[.slice A n c] w fun e w' => e = .returned (.slice A n n) ∧ w = w' := by
  unfold maxLen at hc
  go_enter Tryd.func65, Tryd.ntmps65
  go_wp2
  go_ret
  exact ⟨rfl, rfl⟩
theorem clipBB_any (A : Option Addr) (n c : Nat) (hn : n ≤ c) (hc : c ≤ maxLen) (w : World) : Calls Tryd.prog 76 #[.slice A n c] w fun e w' => e = .returned (.slice A n n) ∧ w = w' := by
  unfold maxLen at hc
  go_enter Tryd.func76, Tryd.ntmps76
  go_wp2
  go_ret
  exact ⟨rfl, rfl⟩
set_option maxRecDepth 100000 in
theorem indexB_any (A : Option Addr) (n c : Nat) (l : List Int) (u : Int) (w : World) (hn : n ≤ maxLen) (hl : Sl u8T w (low w.heap.size) A n l) :
    Calls Tryd.prog 96 #[.slice A n c, .int .u8 u] w fun e w' => (∃ i, e = .returned (.int .i64 i) ∧ (0 ≤ i ↔ u ∈ l)) ∧ w = w' := by
  unfold maxLen at hn
  go_enter Tryd.func96, Tryd.ntmps96
  go_wp2_with fail
  go_loopg [8] n (fun g s8 wr => ∃ i : Nat, i + g = n ∧ s8 = .int .i64 i ∧ wr = w ∧ ∀ j, j < i → l[j]? ≠ some u)
  case atStart => exact ⟨0, by omega, rfl, rfl, fun j hj => by omega⟩
  case round =>
    obtain ⟨i, hi, rfl, rfl, hno⟩ := hrel
    have Hno := hide hno
    have Hi := hide hi
    clear hno hi
    by_cases hlt : i < n
    · obtain ⟨x, b, off, cs, hx, rfl, hbb, ⟨rfl, _⟩, hcs⟩ := hl.at hlt
      have x0 : wr.cell? ⟨b, off + i, none⟩ = some (.int .u8 x) := by have := hcs 0 _ rfl; simpa [u8T, Ty.flat] using this
      have hbl : b < wr.heap.size := hbb
      have hi0 : (0 : Int) ≤ (i : Int) := by omega
      have hlt' : (i : Int) < (n : Int) := by omega
      have Hx := hide hx
      clear hx hcs
      by_cases he : u = x
      · subst he
        go_wp2_with fail
        go_ret
        exact ⟨⟨i, rfl, ⟨fun _ => List.mem_of_getElem? Hx.out, fun _ => by omega⟩⟩, rfl⟩
      · have he1 : (u == x) = false := by simpa using he
        go_wp2_with fail
        go_roundg (gk - 1)
        case measure => have := Hi.out; omega
        case rel =>
          refine ⟨i + 1, by have := Hi.out; omega, by go_num, rfl, fun j hj => ?_⟩
          by_cases e : j = i
          · subst e
            rw [Hx.out]
            intro h
            exact he (by injection h with h; exact h.symm)
          · exact Hno.out j (by omega)
    · have hge : (n : Int) ≤ (i : Int) := by omega
      go_wp2_with fail
      go_ret
      refine ⟨⟨-1, rfl, ⟨fun h => by omega, fun hm => ?_⟩⟩, rfl⟩
      obtain ⟨j, hj, e⟩ := List.getElem_of_mem hm
      have hln := hl.1
      have hii := Hi.out
      exact absurd (by rw [List.getElem?_eq_getElem hj, e]) (Hno.out j (by omega))
theorem contB_any (A : Option Addr) (n c : Nat) (l : List Int) (u : Int) (w : World) (hn : n ≤ maxLen) (hl : Sl u8T w (low w.heap.size) A n l) :
    Calls Tryd.prog 82 #[.slice A n c, .int .u8 u] w fun e w' => e = .returned (.bool (decide (u ∈ l))) ∧ w = w' := by
  go_enter Tryd.func82, Tryd.ntmps82
  by_cases hm : u ∈ l
  · have hc : Calls Tryd.prog 96 #[.slice A n c, .int .u8 u] w fun e w' => (∃ i : Int, e = .returned (.int .i64 i) ∧ 0 ≤ i) ∧ w = w' := (indexB_any A n c l u w hn hl).mono fun e w' ⟨⟨i, h1, h2⟩, h3⟩ => ⟨⟨i, h1, h2.2 hm⟩, h3⟩
    rw [decide_eq_true hm]
    clear hm
    go_wp2_with (go_at_call 96; refine hc.mono ?_; rintro e w1 ⟨⟨i, rfl, hi⟩, rfl⟩; have hd : decide (0 ≤ i) = true := decide_eq_true hi)
    go_ret
    exact ⟨rfl, rfl⟩
  · have hc : Calls Tryd.prog 96 #[.slice A n c, .int .u8 u] w fun e w' => (∃ i : Int, e = .returned (.int .i64 i) ∧ ¬ 0 ≤ i) ∧ w = w' := (indexB_any A n c l u w hn hl).mono fun e w' ⟨⟨i, h1, h2⟩, h3⟩ => ⟨⟨i, h1, fun h => hm (h2.1 h)⟩, h3⟩
    rw [decide_eq_false hm]
    clear hm
    go_wp2_with (go_at_call 96; refine hc.mono ?_; rintro e w1 ⟨⟨i, rfl, hi⟩, rfl⟩; have hd : decide (0 ≤ i) = false := decide_eq_false hi)
    go_ret
    exact ⟨rfl, rfl⟩
theorem std_mem (k : Int) : decide (k ∈ ([1, 2, 4, 5] : List Int)) = stdS k := by
  unfold stdS
  by_cases h1 : k = 1 <;> by_cases h2 : k = 2 <;> by_cases h4 : k = 4 <;> by_cases h5 : k = 5 <;> simp [h1, h2, h4, h5]
set_option maxRecDepth 100000 in
theorem std_any (k : Int) (w : World) (hk : u8k k) : Calls Tryd.prog 36 #[.int .u8 k] w fun e w' => e = .returned (.bool (stdS k)) ∧ Kept w w' := by
  have hlit : ∀ z ∈ ([1, 2, 4, 5] : List Int), u8k z := by
    intro z hz
    simp only [List.mem_cons, List.not_mem_nil, or_false] at hz
    rcases hz with rfl | rfl | rfl | rfl <;> exact ⟨by decide, by decide⟩
  have hst : ∀ (A : Option Addr) (w' : World), Sl u8T w' (low w'.heap.size) A 4 [1, 2, 4, 5] → Calls Tryd.prog 82 #[.slice A 4 4, .int .u8 k] w' fun e w'' => e = .returned (.bool (stdS k)) ∧ w' = w'' := fun A w' h => by
    have := contB_any A 4 4 [1, 2, 4, 5] k w' (by decide) h
    rw [std_mem] at this
    exact this
  go_enter Tryd.func36, Tryd.ntmps36
  go_wp2_with (go_at_call 82; refine (hst _ _ (by exact sl_lit8 (l := [1, 2, 4, 5]) (heap_at _ rfl) (by simp [low]) hlit)).mono ?_; rintro e w1 ⟨rfl, rfl⟩)
  go_ret
  exact ⟨rfl, by go_grown⟩
theorem eqB_any (A B : Option Addr) (n c m d : Nat) (x y : List Int) (w : World) (hn : n ≤ maxLen) (hx : Sl u8T w (low w.heap.size) A n x) (hy : Sl u8T w (low w.heap.size) B m y) :
    Calls Tryd.prog 42 #[.slice A n c, .slice B m d] w fun e w' => e = .returned (.bool (decide (x = y))) ∧ Kept w w' := by
  have hxn := hx.1
  have hyn := hy.1
  unfold maxLen at hn
  obtain ⟨r, hr0⟩ : ∃ r, decide (x = y) = r := ⟨_, rfl⟩
  rw [hr0]
  have Hr := hide hr0
  clear hr0
  by_cases hnm : n = m
  · subst hnm
    go_enter Tryd.func42, Tryd.ntmps42
    go_wp2_with fail
    go_loopg [13] n (fun g s13 wr => ∃ i : Nat, i + g = n ∧ s13 = .int .i64 i ∧ Kept w wr ∧ x.take i = y.take i)
    case atStart => exact ⟨0, by omega, rfl, Below.refl _ _, rfl⟩
    case round =>
      obtain ⟨i, hi, rfl, hk, hsm⟩ := hrel
      have Hsm := hide hsm
      have Hi := hide hi
      have Hxn := hide hxn
      have Hyn := hide hyn
      clear hsm hi hxn hyn
      by_cases hlt : i < n
      · obtain ⟨u, b, off, cs, hu, rfl, hbb, ⟨rfl, _⟩, hcs⟩ := (hx.kept hk).at hlt
        obtain ⟨v, b', off', cs', hv, rfl, hbb', ⟨rfl, _⟩, hcs'⟩ := (hy.kept hk).at hlt
        have x0 : wr.cell? ⟨b, off + i, none⟩ = some (.int .u8 u) := by have := hcs 0 _ rfl; simpa [u8T, Ty.flat] using this
        have y0 : wr.cell? ⟨b', off' + i, none⟩ = some (.int .u8 v) := by have := hcs' 0 _ rfl; simpa [u8T, Ty.flat] using this
        have hbl : b < wr.heap.size := hbb
        have hbl' : b' < wr.heap.size := hbb'
        have hi0 : (0 : Int) ≤ (i : Int) := by omega
        have hlt' : (i : Int) < (n : Int) := by omega
        have Hu := hide hu
        have Hv := hide hv
        clear hu hv hcs hcs'
        by_cases he : u = v
        · subst he
          go_upto_region 6 with (fail)
          go_quiet (fail)
          go_wp2_with fail
          go_roundg (gk - 1)
          case measure => have := Hi.out; omega
          case rel =>
            refine ⟨i + 1, by have := Hi.out; omega, by go_num, below_drewN hk _, ?_⟩
            obtain ⟨h1, h2⟩ := List.getElem?_eq_some_iff.1 Hu.out
            obtain ⟨h3, h4⟩ := List.getElem?_eq_some_iff.1 Hv.out
            rw [List.take_succ_eq_append_getElem h1, List.take_succ_eq_append_getElem h3, Hsm.out, h2, h4]
        · have he1 : (u != v) = true := by simpa using he
          have he2 : (u == v) = false := by simpa using he
          have hr : r = false := Hr.out.symm.trans <| decide_eq_false fun e => by
            subst e
            have := Hu.out.symm.trans Hv.out
            injection this with this
            exact he this
          subst hr
          go_upto_region 6 with (fail)
          go_quiet (fail)
          go_wp2_with fail
          go_ret
          exact ⟨rfl, below_drewN hk _⟩
      · have hge : (n : Int) ≤ (i : Int) := by omega
        have hr : r = true := Hr.out.symm.trans <| decide_eq_true (by
          have h1 := Hsm.out
          have h2 := Hxn.out
          have h3 := Hyn.out
          rwa [List.take_of_length_le (by omega), List.take_of_length_le (by omega)] at h1)
        subst hr
        go_wp2_with fail
        go_ret
        exact ⟨rfl, hk⟩
  · have hr : r = false := Hr.out.symm.trans <| decide_eq_false fun e => hnm (by rw [← hxn, ← hyn, e])
    have hne : ((n : Int) != (m : Int)) = true := by simp; omega
    subst hr
    go_enter Tryd.func42, Tryd.ntmps42
    go_wp2_with fail
    go_ret
    exact ⟨rfl, by go_grown⟩
end Go.Proofs.YtjgncofhobhjdaaDoor
/- size: the number of bytes of a configuration. -/
namespace Go.Proofs.YtjgncofhobhjdaaDoor
open Go.RowKit
attribute [local go_sem ↓] Go.wp_at_zero Go.wp_at_succ

def sumIf (l : List Alt) : Nat := (l.map altSize).sum
def sumC (l : List (List Alt)) : Nat := (l.map sumIf).sum
theorem sizeS_eq (c : Cfg) : sizeS c = 9 + sumC c.ifs := rfl
theorem sumC_take {l : List (List Alt)} {i : Nat} {x : List Alt} (h : l[i]? = some x) : sumC (l.take (i + 1)) = sumC (l.take i) + sumIf x := by
  obtain ⟨h1, h2⟩ := List.getElem?_eq_some_iff.1 h
  rw [List.take_succ_eq_append_getElem h1, h2]
  simp [sumC]
theorem sumIf_take {l : List Alt} {i : Nat} {x : Alt} (h : l[i]? = some x) : sumIf (l.take (i + 1)) = sumIf (l.take i) + altSize x := by
  obtain ⟨h1, h2⟩ := List.getElem?_eq_some_iff.1 h
  rw [List.take_succ_eq_append_getElem h1, h2]
  simp [sumIf]
theorem sum_take_le (l : List Nat) (i : Nat) : (l.take i).sum ≤ l.sum := by
  conv => rhs; rw [← List.take_append_drop i l, List.sum_append]
  exact Nat.le_add_right _ _
theorem sumC_le (l : List (List Alt)) (i : Nat) : sumC (l.take i) ≤ sumC l := by
  unfold sumC; rw [List.map_take]; exact sum_take_le _ _
theorem sumIf_le (l : List Alt) (i : Nat) : sumIf (l.take i) ≤ sumIf l := by
  unfold sumIf; rw [List.map_take]; exact sum_take_le _ _
theorem sum_mem_le {l : List Nat} {x : Nat} (h : x ∈ l) : x ≤ l.sum := by
  induction l with
  | nil => cases h
  | cons y l ih =>
    rw [List.sum_cons]
    rcases List.mem_cons.1 h with rfl | h
    · omega
    · have := ih h; omega
theorem alt_le {a : Alt} {l : List Alt} (h : a ∈ l) : altSize a ≤ sumIf l := sum_mem_le (List.mem_map_of_mem h)
theorem if_le {x : List Alt} {l : List (List Alt)} (h : x ∈ l) : sumIf x ≤ sumC l := sum_mem_le (List.mem_map_of_mem h)
theorem len_le_sumIf (l : List Alt) : l.length ≤ sumIf l := by
  induction l with
  | nil => exact Nat.zero_le _
  | cons a l ih =>
    show l.length + 1 ≤ altSize a + sumIf l
    have : 9 ≤ altSize a := by unfold altSize; omega
    omega
/-- a round over the interfaces -/
theorem if_at {w W : World} {c : Cfg} {A : Option Addr} {cap : Nat} (h : CfgIs w (low w.heap.size) c A cap) (hk : Kept w W) {i : Nat} (hi : i < c.ifs.length) :
    ∃ x b off A' c', c.ifs[i]? = some x ∧ A = some ⟨b, off, none⟩ ∧ b < W.heap.size ∧ W.cell? ⟨b, off + i, none⟩ = some (.slice A' x.length c') ∧ x.length ≤ c' ∧ c' ≤ maxLen ∧ Sl altT w (low w.heap.size) A' x.length x := by
  obtain ⟨x, b, off, cs, hx, rfl, hb, ⟨A', c', rfl, h1, h2, hs⟩, hc⟩ := h.ifs.at hi
  have h0 := hc 0 _ rfl
  refine ⟨x, b, off, A', c', hx, rfl, Nat.lt_of_lt_of_le hb hk.size, ?_, h1, h2, hs⟩
  refine (hk.cell (p := ⟨b, off + i, none⟩) hb).trans ?_
  simpa [Ty.slice] using h0
/-- a round over the settings -/
theorem alt_at {w W : World} {x : List Alt} {A : Option Addr} {n : Nat} (h : Sl altT w (low w.heap.size) A n x) (hk : Kept w W) {j : Nat} (hj : j < n) :
    ∃ a b off X cx E ce, x[j]? = some a ∧ A = some ⟨b, off, none⟩ ∧ b < W.heap.size ∧ (∀ (o : Nat) v, (a.cells X cx E ce)[o]? = some v → W.cell? ⟨b, off + j * 9 + o, none⟩ = some v) ∧ a.d.ok ∧ a.extra.length ≤ cx ∧ cx ≤ maxLen ∧ a.eps.length ≤ ce ∧ ce ≤ maxLen ∧
      Sl u8T w (low w.heap.size) X a.extra.length a.extra ∧ Sl epT w (low w.heap.size) E a.eps.length a.eps := by
  obtain ⟨a, b, off, cs, hx, rfl, hb, ⟨X, cx, E, ce, rfl, h0, h1, h2, h3, h4, h5, h6⟩, hc⟩ := h.at hj
  exact ⟨a, b, off, X, cx, E, ce, hx, rfl, Nat.lt_of_lt_of_le hb hk.size, fun o v hv => (hk.cell (p := ⟨b, off + j * 9 + o, none⟩) hb).trans (hc o v hv), h0, h1, h2, h3, h4, h5, h6⟩
set_option maxRecDepth 100000 in
set_option maxHeartbeats 4000000 in
theorem size_any (c : Cfg) (A : Option Addr) (cap : Nat) (w : World) (hC : CfgIs w (low w.heap.size) c A cap) (hz : sizeS c ≤ 1000000) :
    Calls Tryd.prog 44 #[.agg (c.cells A cap).toArray] w fun e w' => e = .returned (.int .i64 (sizeS c : Int)) ∧ Kept w w' := by
  rw [sizeS_eq] at hz ⊢
  obtain ⟨n, hn⟩ : ∃ n, c.ifs.length = n := ⟨_, rfl⟩
  have hnc := hC.len
  have hcm := hC.cap
  rw [hn] at hnc
  unfold maxLen at hcm
  obtain ⟨⟨d0, d1, d2, d3, d4, d5, d6⟩, L⟩ := c
  unfold Cfg.cells CfgD.cells
  simp only at hn ⊢
  rw [hn]
  have HC := hide hC
  have Hn := hide hn
  simp only at hz
  clear hC hn
  go_enter Tryd.func44, Tryd.ntmps44
  go_wp2_with fail
  refine wp_at (fun W => Kept w W) (by go_grown) (fun W hkW => ?_)
  go_loopg [3, 11] n (fun g s3 s11 wr => ∃ i : Nat, i + g = n ∧ s11 = .int .i64 i ∧ s3 = .int .i64 (((9 + sumC (L.take i) : Nat)) : Int) ∧ Kept w wr)
  case atStart => exact ⟨0, by omega, rfl, rfl, hkW⟩
  case round =>
    obtain ⟨i, hi, rfl, rfl, hk⟩ := hrel
    have Hi := hide hi
    clear hi
    by_cases hlt : i < n
    · obtain ⟨x, b, off, A', c', hx, rfl, hbl, x0, hxc, hcm', hs⟩ := if_at HC.out hk (i := i) (by rw [Hn.out]; exact hlt)
      have hmem := List.mem_of_getElem? hx
      have h1 := if_le (l := L) hmem
      have h2 := sumC_take (l := L) (i := i) hx
      have h3 := sumC_le L (i + 1)
      have h4 := len_le_sumIf x
      obtain ⟨m, hm⟩ : ∃ m, x.length = m := ⟨_, rfl⟩
      rw [hm] at x0 hxc hs h4
      have hi0 : (0 : Int) ≤ (i : Int) := by omega
      have hlt' : (i : Int) < (n : Int) := by omega
      unfold maxLen at hcm'
      obtain ⟨P, hP⟩ : ∃ P, 9 + sumC (L.take i) = P := ⟨_, rfl⟩
      have hP2 : P + sumIf x ≤ 1000000 := by omega
      rw [hP]
      have HP := hide hP
      have H2 := hide h2
      have Hm := hide hm
      clear hx hmem h1 h2 h3 hP hm
      have hwi : IntKind.i64.wrap ((i : Int) + 1) = ((i + 1 : Nat) : Int) := by rw [IntKind.wrap_i64]; omega
      go_wp2_with fail
      obtain ⟨wo, rfl⟩ : ∃ wo, wo = wr := ⟨_, rfl⟩
      obtain ⟨go, rfl⟩ : ∃ go, go = gk := ⟨_, rfl⟩
      refine wp_at (fun V => Kept w V) (hk.trans' (by go_grown)) (fun V hkV => ?_)
      go_loopg [3, 18] m (fun g s3 s18 wr => ∃ j : Nat, j + g = m ∧ s18 = .int .i64 j ∧ s3 = .int .i64 ((P + sumIf (x.take j) : Nat) : Int) ∧ Kept w wr)
      case atStart => exact ⟨0, by omega, rfl, by rw [List.take_zero]; rfl, hkV⟩
      case round =>
        obtain ⟨j, hj, rfl, rfl, hk2⟩ := hrel
        have Hj := hide hj
        clear hj
        by_cases hlj : j < m
        · obtain ⟨a, b2, off2, X, cx, E, ce, ha, rfl, hbl2, hcells, hdo, q1, q2, q3, q4, q5, q6⟩ := alt_at hs hk2 hlj
          have ham := alt_le (List.mem_of_getElem? ha)
          have hst := sumIf_take ha
          have hle := sumIf_le x (j + 1)
          unfold maxLen at q2 q4
          have y0 := hcells 0 _ rfl
          rw [Nat.add_zero] at y0
          have y1 := hcells 1 _ rfl
          have y2 := hcells 2 _ rfl
          have y3 := hcells 3 _ rfl
          have y4 := hcells 4 _ rfl
          have y5 := hcells 5 _ rfl
          have y6 := hcells 6 _ rfl
          have y7 := hcells 7 _ rfl
          have y8 := hcells 8 _ rfl
          have hj0 : (0 : Int) ≤ (j : Int) := by omega
          have hlj' : (j : Int) < (m : Int) := by omega
          obtain ⟨e1, he1⟩ : ∃ e1, a.extra.length = e1 := ⟨_, rfl⟩
          obtain ⟨e2, he2⟩ : ∃ e2, a.eps.length = e2 := ⟨_, rfl⟩
          have hsz : altSize a = 9 + e1 + 7 * e2 := by unfold altSize; rw [he1, he2]
          rw [he1] at q1 y7
          rw [he2] at q3 y8
          obtain ⟨T, hT⟩ : ∃ T, P + sumIf (x.take j) = T := ⟨_, rfl⟩
          rw [hT]
          have hT2 : T + (9 + e1 + 7 * e2) ≤ 1000000 := by omega
          have Hst := hide hst
          have HT := hide hT
          have Hsz := hide hsz
          clear hcells ham hst hle hT hsz ha q5 q6 he1 he2 hP2
          have w1 : IntKind.i64.wrap (9 + (e1 : Int)) = 9 + (e1 : Int) := by rw [IntKind.wrap_i64]; omega
          have w2 : IntKind.i64.wrap (7 * (e2 : Int)) = 7 * (e2 : Int) := by rw [IntKind.wrap_i64]; omega
          have w3 : IntKind.i64.wrap (9 + (e1 : Int) + 7 * (e2 : Int)) = 9 + (e1 : Int) + 7 * (e2 : Int) := by rw [IntKind.wrap_i64]; omega
          have w4 : IntKind.i64.wrap ((T : Int) + (9 + (e1 : Int) + 7 * (e2 : Int))) = ((T + (9 + e1 + 7 * e2) : Nat) : Int) := by rw [IntKind.wrap_i64]; omega
          have w5 : IntKind.i64.wrap ((j : Int) + 1) = ((j + 1 : Nat) : Int) := by rw [IntKind.wrap_i64]; omega
          go_wp2_with fail
          go_roundg (gk - 1)
          case measure => have := Hj.out; omega
          case rel =>
            refine ⟨j + 1, by have := Hj.out; omega, rfl, ?_, hk2.trans' (by go_grown)⟩
            congr 2
            have := HT.out
            have := Hst.out
            have := Hsz.out
            omega
        · have hge : (m : Int) ≤ (j : Int) := by omega
          have htk : x.take j = x := List.take_of_length_le (by have := Hm.out; omega)
          go_wp2_with fail
          go_roundg (go - 1)
          case measure => have := Hi.out; omega
          case rel =>
            refine ⟨i + 1, by have := Hi.out; omega, rfl, ?_, hk2⟩
            congr 2
            have := HP.out
            have := H2.out
            have := congrArg sumIf htk
            omega
    · have hge : (n : Int) ≤ (i : Int) := by omega
      have htk : L.take i = L := List.take_of_length_le (by have := Hn.out; omega)
      go_wp2_with fail
      go_ret
      exact ⟨by rw [htk]; rfl, hk⟩
end Go.Proofs.YtjgncofhobhjdaaDoor
/- The law's plain data in memory; Big. -/
namespace Go.Proofs.YtjgncofhobhjdaaDoor
open Go.RowKit
attribute [local go_sem ↓] Go.wp_at_zero Go.wp_at_succ

def PE.cells (e : PE) : List Value := [.int .u8 e.kind, .int .u8 e.ivl, .int .u16 e.max]
def peT : Ty PE := Ty.flat 3 PE.cells PE.ok (fun _ => rfl)
def PA.cells (a : PA) (X : Option Addr) (cx : Nat) (E : Option Addr) (ce : Nat) : List Value := [.int .u8 a.cls, .int .u8 a.text, .slice X a.extra.length cx, .slice E a.eps.length ce]
def paT : Ty PA :=
  ⟨4, fun w F a cs => ∃ X cx E ce, cs = a.cells X cx E ce ∧ u8k a.cls ∧ u8k a.text ∧ a.extra.length ≤ cx ∧ cx ≤ maxLen ∧ a.eps.length ≤ ce ∧ ce ≤ maxLen ∧ Sl u8T w F X a.extra.length a.extra ∧ Sl peT w F E a.eps.length a.eps,
   fun {_ _ _ _} ⟨_, _, _, _, e, _⟩ => by rw [e]; rfl,
   fun {_ _ _ _ _ _} ⟨X, cx, E, ce, e, h0, h0', h1, h2, h3, h4, h5, h6⟩ hB hk => ⟨X, cx, E, ce, e, h0, h0', h1, h2, h3, h4, h5.keep hB hk, h6.keep hB hk⟩⟩
def PC.cells (x : PC) (A : Option Addr) (cap : Nat) : List Value := [.int .u8 x.number, .int .u8 x.text, .int .u8 x.power, .bool x.self, .bool x.wake, .slice A x.ifs.length cap]
/-- plain data's cells -/
structure PcIs (w : World) (x : PC) (A : Option Addr) (cap : Nat) : Prop where
  d : u8k x.number ∧ u8k x.text ∧ u8k x.power
  len : x.ifs.length ≤ cap
  cap : cap ≤ maxLen
  ifs : Sl paT.slice w (low w.heap.size) A x.ifs.length x.ifs
theorem PcIs.kept {w w' : World} {x : PC} {A : Option Addr} {cap : Nat} (h : PcIs w x A cap) (hk : Kept w w') : PcIs w' x A cap := ⟨h.d, h.len, h.cap, h.ifs.kept hk⟩
/-- how much there is to look at -/
def countP (l : List (List PA)) : Nat := (l.map fun x => 1 + x.length).sum
theorem countP_take {l : List (List PA)} {i : Nat} {x : List PA} (h : l[i]? = some x) : countP (l.take (i + 1)) = countP (l.take i) + (1 + x.length) := by
  obtain ⟨h1, h2⟩ := List.getElem?_eq_some_iff.1 h
  rw [List.take_succ_eq_append_getElem h1, h2]
  simp [countP]
theorem countP_le (l : List (List PA)) (i : Nat) : countP (l.take i) ≤ countP l := by
  unfold countP; rw [List.map_take]; exact sum_take_le _ _
theorem countP_len (l : List (List PA)) : l.length ≤ countP l := by
  induction l with
  | nil => exact Nat.zero_le _
  | cons a l ih => show l.length + 1 ≤ (1 + a.length) + countP l; omega
/-- an interface of plain data -/
theorem pif_at {w W : World} {x : PC} {A : Option Addr} {cap : Nat} (h : PcIs w x A cap) (hk : Kept w W) {i : Nat} (hi : i < x.ifs.length) :
    ∃ l b off A' c', x.ifs[i]? = some l ∧ A = some ⟨b, off, none⟩ ∧ b < W.heap.size ∧ W.cell? ⟨b, off + i, none⟩ = some (.slice A' l.length c') ∧ l.length ≤ c' ∧ c' ≤ maxLen ∧ Sl paT w (low w.heap.size) A' l.length l := by
  obtain ⟨l, b, off, cs, hx, rfl, hb, ⟨A', c', rfl, h1, h2, hs⟩, hc⟩ := h.ifs.at hi
  have h0 := hc 0 _ rfl
  refine ⟨l, b, off, A', c', hx, rfl, Nat.lt_of_lt_of_le hb hk.size, ?_, h1, h2, hs⟩
  refine (hk.cell (p := ⟨b, off + i, none⟩) hb).trans ?_
  simpa [Ty.slice] using h0
/-- a setting of plain data -/
theorem palt_at {w W : World} {x : List PA} {A : Option Addr} {n : Nat} (h : Sl paT w (low w.heap.size) A n x) (hk : Kept w W) {j : Nat} (hj : j < n) :
    ∃ a b off X cx E ce, x[j]? = some a ∧ A = some ⟨b, off, none⟩ ∧ b < W.heap.size ∧ (∀ (o : Nat) v, (a.cells X cx E ce)[o]? = some v → W.cell? ⟨b, off + j * 4 + o, none⟩ = some v) ∧ u8k a.cls ∧ u8k a.text ∧ a.extra.length ≤ cx ∧ cx ≤ maxLen ∧ a.eps.length ≤ ce ∧ ce ≤ maxLen ∧
      Sl u8T w (low w.heap.size) X a.extra.length a.extra ∧ Sl peT w (low w.heap.size) E a.eps.length a.eps := by
  obtain ⟨a, b, off, cs, hx, rfl, hb, ⟨X, cx, E, ce, rfl, h0, h0', h1, h2, h3, h4, h5, h6⟩, hc⟩ := h.at hj
  exact ⟨a, b, off, X, cx, E, ce, hx, rfl, Nat.lt_of_lt_of_le hb hk.size, fun o v hv => (hk.cell (p := ⟨b, off + j * 4 + o, none⟩) hb).trans (hc o v hv), h0, h0', h1, h2, h3, h4, h5, h6⟩
/-- what has been found to be too much -/
def bigI (l : List PA) : Bool := decide (4 < l.length) || l.any bigA
theorem bigS_eq (x : PC) : bigS x = (decide (6 < x.ifs.length) || x.ifs.any bigI) := rfl
theorem any_takeP {α : Type} (f : α → Bool) {l : List α} {i : Nat} {x : α} (h : l[i]? = some x) : (l.take (i + 1)).any f = ((l.take i).any f || f x) := by
  obtain ⟨h1, h2⟩ := List.getElem?_eq_some_iff.1 h
  rw [List.take_succ_eq_append_getElem h1, h2, List.any_append]
  simp
end Go.Proofs.YtjgncofhobhjdaaDoor
