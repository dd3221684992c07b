/- Big; the arguments; the frame. -/
import Derived.Test.YtjgncofhobhjdaaDoorChecked
import Derived.Deep.RegionHeld3
import Derived.Deep.DrawnRows
import Derived.Deep.DeepCutAuto
import Derived.Deep.LoopGhost
import Derived.Outline
import Derived.Handy
import Derived.OwnWalk
import Derived.BigQuiet
import Derived.Test.YtjgncofhobhjdaaDoorN1
import Derived.Test.YtjgncofhobhjdaaDoorN4
import Derived.Test.YtjgncofhobhjdaaDoorRows
import Derived.ProofKit
import Derived.LaidLaws
import Derived.Lib.LaidIn
import Derived.Lib.LaidU8T
import Derived.Lib.LaidTab
import Derived.Shelf.Vars
import Derived.ChangeSame
import Derived.ChangeVars
import Derived.JoinedOf
import Derived.RowKitTokens
import Derived.LaidHandle
import Derived.Stop.Joined
import Derived.PinnedBridge
import Derived.Deep.DeepHandedRow
set_option linter.unusedVariables false
set_option linter.unusedSimpArgs false
set_option linter.unusedSectionVars false
/- The arguments of the chapter's laws: plain data as it comes in, and how much of it there is. No condition. -/
namespace Go.Proofs.YtjgncofhobhjdaaDoor
open Go.RowKit Go.ChangeShapes Go.WideShapes Go.Deep Go.ChangeAt

/-- whatever reads as data of type t is some value of T, of a measure at most the data's bulk -/
def OpensB {α : Type} (P : Program) (t : TypeId) (T : Ty α) (ok : α → Prop) (m : α → Nat) : Prop :=
  ∀ {H : Type} {enc : TypeId × Value → H} {W : World} {fuel : Nat} {cs : List Value} {x : DataW H × List MemPlace}, DataW.trod enc P W 0 (fun _ => true) true fuel t cs = some x → ∃ a : α, T.rel W (low W.heap.size) a cs ∧ ok a ∧ m a ≤ Rows.uptoBulk x.1
theorem bulk_one {H : Type} (d : DataW H) : 1 ≤ Rows.uptoBulk d := by
  cases d with
  | lit l => cases l <;> simp [Rows.uptoBulk]
  | nil => simp [Rows.uptoBulk]
  | ptr d => simp [Rows.uptoBulk]
  | slice elems spare => simp [Rows.uptoBulk]
  | agg parts => simp [Rows.uptoBulk]
  | iface t d => simp [Rows.uptoBulk]
  | map entries => simp [Rows.uptoBulk]
  | held h => simp [Rows.uptoBulk]
theorem bulk_part {H : Type} {d : DataW H} {l : List (DataW H)} (h : d ∈ l) : Rows.uptoBulk d ≤ Rows.uptoBulkAll l := by
  induction l with
  | nil => cases h
  | cons x r ih =>
    simp only [Rows.uptoBulkAll]
    cases List.mem_cons.1 h with
    | inl e => subst e; omega
    | inr e => have := ih e; omega
theorem bulk_sum {α H : Type} (m : α → Nat) : ∀ (xs : List α) (ds : List (DataW H)), xs.length = ds.length → (∀ (i : Nat) y d, xs[i]? = some y → ds[i]? = some d → m y ≤ Rows.uptoBulk d) → (xs.map m).sum ≤ Rows.uptoBulkAll ds
  | [], _, _, _ => by simp
  | x :: xs, [], h, _ => by simp at h
  | x :: xs, d :: ds, h, hm => by
    have h1 := hm 0 x d rfl rfl
    have h2 := bulk_sum m xs ds (by simpa using h) (fun i y d h1 h2 => hm (i + 1) y d (by simpa using h1) (by simpa using h2))
    simp only [List.map_cons, List.sum_cons, Rows.uptoBulkAll]
    omega
theorem opensB_slice {α : Type} {P : Program} {t e : TypeId} {T : Ty α} {ok : α → Prop} {ms : α → Nat} (ht : P.underlying t = some (.slice e)) (hC : P.cellsOf e = T.size) (h0 : 0 < T.size) (h : OpensB P e T ok ms) :
    OpensB P t T.slice (fun xs => ∀ x ∈ xs, ok x) (fun xs => 1 + (xs.map ms).sum) := by
  intro H enc W fuel cs x hx
  rcases open_slice ht hx with ⟨rfl, rfl⟩ | ⟨a, len, cap, m, n, D, Pl, rfl, _, hl, hm, hmm, rfl, hi⟩
  · exact ⟨[], ⟨none, 0, rfl, Nat.le_refl _, by decide, Sl.nil _ _ _ _⟩, fun x h => absurd h List.not_mem_nil, show (1 : Nat) + 0 ≤ 1 from Nat.le_refl _⟩
  · simp only [if_true] at hmm
    subst hmm
    have hq : ∀ i, i < len → ∃ y : α, (∃ b off cs, a = ⟨b, off, none⟩ ∧ b < W.heap.size ∧ T.rel W (low W.heap.size) y cs ∧ W.rangeAt b (off + i * T.size) cs) ∧ ok y ∧ ms y ≤ Rows.uptoBulk (D i) := by
      intro i hil
      obtain ⟨cs', hc, ht'⟩ := hi i (by omega)
      rw [hC] at hc
      obtain ⟨_, hcl, hat⟩ := World.cells?_some hc
      obtain ⟨y, hy, hok, hms⟩ := h ht'
      have h1 := hat 0 h0
      have e1 : cs'[0]? = some (cs'[0]'(by omega)) := List.getElem?_eq_getElem (by omega)
      rw [e1] at h1
      have hsp := World.cell?_spot h1
      have hlt := World.block_lt_of_cell? W _ h1
      obtain ⟨b, off, spot⟩ := a
      have hs0 : spot = none := by
        obtain ⟨cs0, hc0, _⟩ := hi 0 (by omega)
        rw [hC] at hc0
        obtain ⟨_, hcl0, hat0⟩ := World.cells?_some hc0
        have h2 := hat0 0 h0
        rw [List.getElem?_eq_getElem (by omega)] at h2
        simpa [Addr.add] using World.cell?_spot h2
      subst hs0
      rw [Addr.add_mid, Addr.add_mid] at hlt
      refine ⟨y, ⟨b, off, cs', rfl, hlt, hy, fun j v hv => ?_⟩, hok, hms⟩
      have hj : j < T.size := by rw [← hcl]; exact (List.getElem?_eq_some_iff.1 hv).1
      have h3 := hat j hj
      rw [Addr.add_mid, Addr.add_mid] at h3
      rw [h3, hv]
    obtain ⟨xs, hxl, hxq⟩ := list_of (Q := fun i y => (∃ b off cs, a = ⟨b, off, none⟩ ∧ b < W.heap.size ∧ T.rel W (low W.heap.size) y cs ∧ W.rangeAt b (off + i * T.size) cs) ∧ ok y ∧ ms y ≤ Rows.uptoBulk (D i)) len hq
    refine ⟨xs, ⟨some a, m, by rw [hxl], by omega, hm, rfl, fun i y hy => ?_⟩, fun y hy => ?_, ?_⟩
    · obtain ⟨⟨b, off, cs, e, hb, hr, hc⟩, _⟩ := hxq i y hy
      exact ⟨b, off, cs, by rw [e], hb, hr, hc⟩
    · obtain ⟨i, hi', e⟩ := List.getElem_of_mem hy
      exact (hxq i y (by rw [List.getElem?_eq_getElem hi', e])).2.1
    · have hs := bulk_sum ms xs ((List.range len).map D) (by simp [hxl]) (fun i y d h1 h2 => by
        have h3 := (hxq i y h1).2.2
        rw [List.getElem?_map] at h2
        obtain ⟨k, hk, rfl⟩ := Option.map_eq_some_iff.1 h2
        obtain ⟨hk1, hk2⟩ := List.getElem?_eq_some_iff.1 hk
        have : k = i := by rw [← hk2]; simp
        rw [this]
        exact h3)
      simp only [Rows.uptoBulk]
      omega
theorem field_bool {H : Type} {enc : TypeId × Value → H} {P : Program} {W : World} {base : Nat} {sp : Nat → Bool} {hd : Bool} {fuel : Nat} {t : TypeId} {cs : List Value} {x : DataW H × List MemPlace} {fs : Array Field}
    (ht : P.underlying t = some (.struct fs)) (h : DataW.trod enc P W base sp hd fuel t cs = some x) (i : Nat) (f : Field) (hf : fs[i]? = some f) (hk : P.underlying f.type = some .bool) (h1 : P.cellsOf f.type = 1) :
    ∃ b : Bool, cs[f.offset]? = some (.bool b) := by
  obtain ⟨xs, n, _, _, _, hl, hg⟩ := DataW.trod_struct ht h
  have hi : i < fs.size := (Array.getElem?_eq_some_iff.1 hf).1
  have h2 := hg i f hf
  rw [h1, List.getElem?_eq_getElem (by omega)] at h2
  obtain ⟨s, hm, _⟩ := DataW.trod_bool hk h2
  refine ⟨s, ?_⟩
  have h3 := congrArg (fun l => l[0]?) hm
  simpa using h3
/-- a field that is opened, and its bulk -/
theorem field_opensB {α : Type} {H : Type} {enc : TypeId × Value → H} {P : Program} {W : World} {fuel : Nat} {t : TypeId} {cs : List Value} {x : DataW H × List MemPlace} {fs : Array Field} {T : Ty α} {ok : α → Prop} {m : α → Nat}
    (ht : P.underlying t = some (.struct fs)) (h : DataW.trod enc P W 0 (fun _ => true) true fuel t cs = some x) (i : Nat) (f : Field) (hf : fs[i]? = some f) (h1 : P.cellsOf f.type = 1) (hs : T.size = 1) (ho : OpensB P f.type T ok m) :
    ∃ v a, cs[f.offset]? = some v ∧ T.rel W (low W.heap.size) a [v] ∧ ok a ∧ m a ≤ Rows.uptoBulk x.1 := by
  obtain ⟨xs, n, _, rfl, _, hl, hg⟩ := DataW.trod_struct ht h
  have hi : i < fs.size := (Array.getElem?_eq_some_iff.1 hf).1
  have h2 := hg i f hf
  have hxi : xs[i]? = some (xs[i]'(by omega)) := List.getElem?_eq_getElem (by omega)
  rw [h1, hxi] at h2
  obtain ⟨a, hr, hok, hm⟩ := ho h2
  have hb : Rows.uptoBulk (xs[i]'(by omega)).1 ≤ Rows.uptoBulkAll (xs.map (·.1)) := bulk_part (List.mem_map_of_mem (List.getElem_mem _))
  have hlen := T.len hr
  cases hc : cs[f.offset]? with
  | none =>
    rw [List.getElem?_eq_none_iff] at hc
    rw [List.drop_of_length_le hc] at hr
    have hT := (T.len hr).trans hs
    simp at hT
  | some v =>
    have hd : (cs.drop f.offset).take 1 = [v] := by
      obtain ⟨g1, g2⟩ := List.getElem?_eq_some_iff.1 hc
      rw [List.drop_eq_getElem_cons g1, g2]
      rfl
    rw [hd] at hr
    exact ⟨v, a, rfl, hr, hok, by simp only [Rows.uptoBulk]; omega⟩
theorem cells_u8 : Tryd.prog.cellsOf 5 = 1 := by kernel_rfl
theorem cells_u16 : Tryd.prog.cellsOf 27 = 1 := by kernel_rfl
theorem cells_bool : Tryd.prog.cellsOf 4 = 1 := by kernel_rfl
theorem cells_PE : Tryd.prog.cellsOf 81 = 3 := by kernel_rfl
theorem cells_PA : Tryd.prog.cellsOf 79 = 4 := by kernel_rfl
theorem cells_PC : Tryd.prog.cellsOf 24 = 6 := by kernel_rfl
theorem cells_B : Tryd.prog.cellsOf 34 = 1 := by kernel_rfl
theorem cells_PES : Tryd.prog.cellsOf 77 = 1 := by kernel_rfl
theorem cells_PA1 : Tryd.prog.cellsOf 76 = 1 := by kernel_rfl
theorem cells_PAA : Tryd.prog.cellsOf 22 = 1 := by kernel_rfl
theorem opens_u8 : OpensB Tryd.prog 5 u8T u8k (fun _ => 1) := by
  intro H enc W fuel cs x hx
  obtain ⟨m, hm, _, hw⟩ := DataW.trod_int Tryd.underlying5 hx
  exact ⟨m, ⟨hm, u8_of hw⟩, u8_of hw, bulk_one _⟩
set_option maxRecDepth 100000 in
theorem opens_PE : OpensB Tryd.prog 81 peT PE.ok (fun _ => 1) := by
  intro H enc W fuel cs x hx
  obtain ⟨n0, e0, w0⟩ := field_int Tryd.underlying81 hx 0 _ rfl Tryd.underlying5 cells_u8
  obtain ⟨n1, e1, w1⟩ := field_int Tryd.underlying81 hx 1 _ rfl Tryd.underlying5 cells_u8
  obtain ⟨n2, e2, w2⟩ := field_int Tryd.underlying81 hx 2 _ rfl Tryd.underlying27 cells_u16
  obtain ⟨xs, n, _, _, hl, _, _⟩ := DataW.trod_struct Tryd.underlying81 hx
  rw [cells_PE] at hl
  match cs, hl with
  | [c0, c1, c2], _ =>
    have a0 : c0 = .int .u8 n0 := by simpa using e0
    have a1 : c1 = .int .u8 n1 := by simpa using e1
    have a2 : c2 = .int .u16 n2 := by simpa using e2
    subst a0 a1 a2
    exact ⟨⟨n0, n1, n2⟩, ⟨rfl, u8_of w0, u8_of w1, u16_of w2⟩, ⟨u8_of w0, u8_of w1, u16_of w2⟩, bulk_one _⟩
theorem opens_B : OpensB Tryd.prog 34 u8T.slice (fun xs => ∀ x ∈ xs, u8k x) (fun xs => 1 + (xs.map (fun _ => 1)).sum) := opensB_slice Tryd.underlying34 cells_u8 (by decide) opens_u8
theorem opens_PES : OpensB Tryd.prog 77 peT.slice (fun xs => ∀ x ∈ xs, x.ok) (fun xs => 1 + (xs.map (fun _ => 1)).sum) := opensB_slice Tryd.underlying77 cells_PE (by decide) opens_PE
set_option maxRecDepth 100000 in
theorem opens_PA : OpensB Tryd.prog 79 paT PA.ok (fun _ => 1) := by
  intro H enc W fuel cs x hx
  obtain ⟨n0, e0, w0⟩ := field_int Tryd.underlying79 hx 0 _ rfl Tryd.underlying5 cells_u8
  obtain ⟨n1, e1, w1⟩ := field_int Tryd.underlying79 hx 1 _ rfl Tryd.underlying5 cells_u8
  obtain ⟨v2, l2, e2, ⟨X, cx, r2, q1, q2, q5⟩, k2, _⟩ := field_opensB Tryd.underlying79 hx 2 _ rfl cells_B rfl opens_B
  obtain ⟨v3, l3, e3, ⟨E, ce, r3, q3, q4, q6⟩, k3, _⟩ := field_opensB Tryd.underlying79 hx 3 _ rfl cells_PES rfl opens_PES
  obtain ⟨xs, n, _, _, hl, _, _⟩ := DataW.trod_struct Tryd.underlying79 hx
  rw [cells_PA] at hl
  injection r2 with r2 _
  injection r3 with r3 _
  subst r2 r3
  match cs, hl with
  | [c0, c1, c2, c3], _ =>
    have a0 : c0 = .int .u8 n0 := by simpa using e0
    have a1 : c1 = .int .u8 n1 := by simpa using e1
    have a2 : c2 = .slice X l2.length cx := by simpa using e2
    have a3 : c3 = .slice E l3.length ce := by simpa using e3
    subst a0 a1 a2 a3
    exact ⟨⟨n0, n1, l2, l3⟩, ⟨X, cx, E, ce, rfl, u8_of w0, u8_of w1, q1, q2, q3, q4, q5, q6⟩, ⟨u8_of w0, u8_of w1, k2, k3⟩, bulk_one _⟩
theorem opens_PA1 : OpensB Tryd.prog 76 paT.slice (fun xs => ∀ x ∈ xs, x.ok) (fun xs => 1 + (xs.map (fun _ => 1)).sum) := opensB_slice Tryd.underlying76 cells_PA (by decide) opens_PA
theorem opens_PAA : OpensB Tryd.prog 22 paT.slice.slice (fun xs => ∀ x ∈ xs, ∀ y ∈ x, y.ok) (fun xs => 1 + (xs.map (fun x => 1 + (x.map fun _ => 1).sum)).sum) := opensB_slice Tryd.underlying22 cells_PA1 (by decide) opens_PA1
theorem countP_bulk (l : List (List PA)) : countP l ≤ 1 + (l.map fun x => 1 + (x.map fun _ => 1).sum).sum := by
  unfold countP
  have : ∀ x : List PA, (x.map fun _ => 1).sum = x.length := fun x => by
    induction x with
    | nil => rfl
    | cons a x ih => simp only [List.map_cons, List.sum_cons, ih, List.length_cons]; omega
  simp only [this]
  omega
set_option maxRecDepth 100000 in
/-- plain data that comes in -/
theorem arg_pc {H : Type} {enc : TypeId × Value → H} {W : World} {B : Nat} {v : Value} {d : DataW H} {p : List MemPlace}
    (hv : Value.okWide Tryd.prog W .any B 24 v) (h : DataW.Trod enc Tryd.prog W 0 (fun _ => true) true 24 v d p) :
    ∃ (x : PC) (A : Option Addr) (cap : Nat), v = .agg (x.cells A cap).toArray ∧ PcIs W x A cap ∧ x.ok ∧ countP x.ifs ≤ Rows.uptoBulk d := by
  obtain ⟨c0, rfl, hs0⟩ := okWide_struct Tryd.underlying24 hv
  obtain ⟨fuel, hx⟩ := h
  obtain ⟨n0, e0, w0⟩ := field_int Tryd.underlying24 hx 0 _ rfl Tryd.underlying5 cells_u8
  obtain ⟨n1, e1, w1⟩ := field_int Tryd.underlying24 hx 1 _ rfl Tryd.underlying5 cells_u8
  obtain ⟨n2, e2, w2⟩ := field_int Tryd.underlying24 hx 2 _ rfl Tryd.underlying5 cells_u8
  obtain ⟨n3, e3⟩ := field_bool Tryd.underlying24 hx 3 _ rfl Tryd.underlying4 cells_bool
  obtain ⟨n4, e4⟩ := field_bool Tryd.underlying24 hx 4 _ rfl Tryd.underlying4 cells_bool
  obtain ⟨v5, l5, e5, ⟨A, cap, r5, q1, q2, q3⟩, k5, m5⟩ := field_opensB Tryd.underlying24 hx 5 _ rfl cells_PAA rfl opens_PAA
  injection r5 with r5 _
  subst r5
  rw [cells_PC] at hs0
  obtain ⟨l⟩ := c0
  match l, hs0 with
  | [y0, y1, y2, y3, y4, y5], _ =>
    have a0 : y0 = .int .u8 n0 := by simpa [Value.cells] using e0
    have a1 : y1 = .int .u8 n1 := by simpa [Value.cells] using e1
    have a2 : y2 = .int .u8 n2 := by simpa [Value.cells] using e2
    have a3 : y3 = .bool n3 := by simpa [Value.cells] using e3
    have a4 : y4 = .bool n4 := by simpa [Value.cells] using e4
    have a5 : y5 = .slice A l5.length cap := by simpa [Value.cells] using e5
    subst a0 a1 a2 a3 a4 a5
    exact ⟨⟨n0, n1, n2, n3, n4, l5⟩, A, cap, rfl, ⟨⟨u8_of w0, u8_of w1, u8_of w2⟩, q1, q2, q3⟩, ⟨u8_of w0, u8_of w1, u8_of w2, k5⟩, Nat.le_trans (countP_bulk l5) m5⟩
end Go.Proofs.YtjgncofhobhjdaaDoor
/- The frame of the chapter's laws: the library's table from the rows' condition; a world that meets it. -/
namespace Go.Proofs.YtjgncofhobhjdaaDoor
open Go.ChangeShapes Go.WideShapes Go.ChangeAt Go.RowKit Go.Shelf Go.Lib

theorem heap_of_var {W : World} {n : String} {g : Nat} {cs : Array Value} (hg : Tryd.prog.globalNamed n = some g) (h : W.var? Tryd.prog n = some cs) : ∃ t fr, W.heap[g]? = some (.cells cs t fr) := by
  unfold World.var? at h
  rw [hg] at h
  simp only [Option.bind_some] at h
  split at h
  · rename_i cs' t fr e
    injection h with h
    subst h
    exact ⟨t, fr, e⟩
  · cases h
set_option maxRecDepth 100000 in
theorem pow_reads {W : World} {n : String} (e : Tryd.prog.globalNamed n = some 1) (h : Lib.VarReads Tryd.prog W n Rows.laid_internal_strconv_uint64pow10) : ∃ t fr, W.heap[1]? = some (.cells (Lib.pow10Tab.map fun z => Value.int .u64 z).toArray t fr) := by
  obtain ⟨g, t, cs, fuel, p, hg, hty, hvar, hd⟩ := h
  obtain rfl := Option.some.inj (e.symm.trans hg)
  obtain rfl := Option.some.inj ((show _ = some 170 by kernel_rfl).symm.trans hty)
  obtain ⟨t', fr, hh⟩ := heap_of_var hg hvar
  have hcs : cs.toList = Lib.pow10Tab.map fun z => Value.int .u64 z := Lib.cells_of_tab Tryd.underlying170 Tryd.underlying163 (by kernel_rfl) (by kernel_rfl) hd
  refine ⟨t', fr, ?_⟩
  rw [hh, ← hcs]
theorem tabs_of {W : World} (h : laidMetH Tryd.prog Rows.configurationsBackUptoRow.laid W) : Tabs W := by
  have hL : laidMet Tryd.prog Rows.configurationsBackUptoRow.laid W := h
  have m2 : (Rows.configurationsBackUptoRow.laid[2]'(by decide)) ∈ Rows.configurationsBackUptoRow.laid := List.getElem_mem _
  exact ⟨pow_reads (by kernel_rfl) (Lib.laidMet.reads hL m2)⟩
theorem own : ownKnob Tryd.prog.godebug = none := by kernel_rfl
theorem laidOut : laidOutB Tryd.prog = true := by kernel_rfl
def litsOf : DataW Unit → List Value
  | .agg ds => ds.map fun | .lit l => l.value | _ => .bool false
  | _ => []
/-- a world in which the tables lie -/
noncomputable def laidWorld (os : Os) : World :=
  let w0 := World.holding Tryd.prog os ⟨#[], #[], []⟩
  let put (h : Array Obj) (g : Nat) (cs : Array Value) : Array Obj := h.modify g fun
    | .cells _ t frozen => .cells cs t frozen
    | o => o
  let h1 := put w0.heap 1 (litsOf Rows.laid_internal_strconv_uint64pow10).toArray
  let h2 := put h1 2 (litsOf Rows.laid_math_bits_deBruijn32tab).toArray
  let h3 := put h2 3 (litsOf Rows.laid_math_bits_deBruijn64tab).toArray
  { w0 with heap := h3 }
theorem laid_met (os : Os) (args : Array Value) : laidMetH Tryd.prog Rows.configurationsBackUptoRow.laid ((laidWorld os).forCall (fun _ _ => 0) ⟨#[], args, []⟩).memory :=
  (LaidIn.of_run (l := Rows.configurationsBackUptoRow.laid) [1, 2, 3] 8 (by kernel_rfl) (by kernel_rfl) (by kernel_rfl) (by kernel_rfl)).met
theorem bound {H : Type} {l : List (DataW H)} (hk : Rows.uptoSmall H l = true) : Rows.uptoBulkAll l ≤ 1048576 := of_decide_eq_true hk
end Go.Proofs.YtjgncofhobhjdaaDoor
/- Big: whether plain data are too much. -/
namespace Go.Proofs.YtjgncofhobhjdaaDoor
open Go.RowKit
attribute [local go_sem ↓] Go.wp_at_zero Go.wp_at_succ

set_option maxRecDepth 100000 in
set_option maxHeartbeats 8000000 in
theorem big_any (x : PC) (A : Option Addr) (cap : Nat) (w : World) (hC : PcIs w x A cap) (hz : countP x.ifs ≤ 2000000) :
    Calls Tryd.prog 12 #[.agg (x.cells A cap).toArray] w fun e w' => (∃ k : Int, e = .returned (.int .i64 k) ∧ decide (0 < k) = bigS x) ∧ Kept w w' := by
  obtain ⟨nu, te, po, se, wa, L⟩ := x
  have hnc := hC.len
  have hcm := hC.cap
  unfold maxLen at hcm
  obtain ⟨n, hn⟩ : ∃ n, L.length = n := ⟨_, rfl⟩
  have hln := countP_len L
  unfold PC.cells
  simp only [hn] at hnc hln hz ⊢
  have HC := hide hC
  have Hn := hide hn
  have hbe : bigS ⟨nu, te, po, se, wa, L⟩ = (decide (6 < n) || L.any bigI) := by rw [bigS_eq, ← hn]
  have Hbe := hide hbe
  clear hC hn hbe
  go_enter Tryd.func12, Tryd.ntmps12
  go_upto_region 2 with (fail)
  refine wp_at (fun W => W.heap[w.heap.size]? = some (.cells #[.int .u8 nu, .int .u8 te, .int .u8 po, .bool se, .bool wa, .slice A n cap] 24 (0, 0)) ∧ Kept w W) ⟨heap_at _ rfl, by go_grown⟩ (fun W hW => ?_)
  obtain ⟨hB, hkW⟩ := hW
  obtain ⟨B, hBd⟩ : ∃ B, w.heap.size = B := ⟨_, rfl⟩
  rw [hBd] at hB
  simp only [hBd]
  have e5 := cell_heap hB (o := 5) rfl
  have lB := heap_lt hB
  have HkW := hide hkW
  clear hB hkW hBd
  obtain ⟨k0, hk0⟩ : ∃ k0 : Int, k0 = (if 6 < n then 1 else 0) := ⟨_, rfl⟩
  have hk0b : 0 ≤ k0 ∧ k0 ≤ 1 ∧ (decide (0 < k0)) = decide (6 < n) := by
    rw [hk0]
    by_cases h : 6 < n
    · rw [if_pos h]; simp [h]
    · rw [if_neg h]; simp [h]
  obtain ⟨hk01, hk02, hk03⟩ := hk0b
  go_upto_region 2 with (fail)
  go_upto_if 9 with (fail)
  go_cut [3] (fun s3 wc => wc = W ∧ s3 = .int .i64 k0)
  case first =>
    by_cases h6 : 6 < n
    · have h6' : (6 : Int) < (n : Int) := by omega
      rw [if_pos h6] at hk0
      have Hk0 := hide hk0
      clear hk0
      go_wp2_with fail
      go_meet
      exact ⟨rfl, by rw [Hk0.out]⟩
    · have h6' : ¬ (6 : Int) < (n : Int) := by omega
      rw [if_neg h6] at hk0
      have Hk0 := hide hk0
      clear hk0
      go_wp2_with fail
      go_meet
      exact ⟨rfl, by rw [Hk0.out]⟩
  case rest =>
    obtain ⟨hwc, rfl⟩ := hcut
    subst hwc
    rename World => W
    clear hk0
    go_wp2_with fail
    go_loopg [3, 4] n (fun g s3 s4 wr => ∃ (i : Nat) (k : Int), i + g = n ∧ s3 = .int .i64 k ∧ s4 = .int .i64 i ∧ wr = W ∧ 0 ≤ k ∧ k ≤ 1 + countP (L.take i) ∧ decide (0 < k) = (decide (6 < n) || (L.take i).any bigI))
    case atStart => exact ⟨0, k0, by omega, rfl, rfl, rfl, hk01, by simp [countP]; omega, by rw [hk03]; simp⟩
    case round =>
      obtain ⟨i, k, hi, rfl, rfl, hwr, hk1, hk2, hk3⟩ := hrel
      subst hwr
      have Hi := hide hi
      clear hi
      by_cases hlt : i < n
      case neg =>
        have hge : (n : Int) ≤ (i : Int) := by omega
        have htk : L.take i = L := List.take_of_length_le (by have := Hn.out; omega)
        rw [htk, ← Hbe.out] at hk3
        have Hk3 := hide hk3
        clear hk3 htk hk2
        go_wp2_with fail
        go_ret
        exact ⟨⟨k, rfl, Hk3.out⟩, HkW.out⟩
      case pos =>
      obtain ⟨l, b, off, A', c', hx, rfl, hbl, x0, hxc, hcm', hs⟩ := pif_at HC.out HkW.out (i := i) (by show i < L.length; rw [Hn.out]; exact hlt)
      have h2 := countP_take (l := L) (i := i) hx
      have h3 := countP_le L (i + 1)
      have hany := any_takeP bigI (l := L) hx
      obtain ⟨m, hm⟩ : ∃ m, l.length = m := ⟨_, rfl⟩
      rw [hm] at x0 hxc hs h2
      have hi0 : (0 : Int) ≤ (i : Int) := by omega
      have hlt' : (i : Int) < (n : Int) := by omega
      have hwi : IntKind.i64.wrap ((i : Int) + 1) = ((i + 1 : Nat) : Int) := by rw [IntKind.wrap_i64]; omega
      have hwk : IntKind.i64.wrap (k + 1) = k + 1 := by rw [IntKind.wrap_i64]; omega
      unfold maxLen at hcm'
      obtain ⟨Q, hQ⟩ : ∃ Q, (decide (6 < n) || (L.take i).any bigI) = Q := ⟨_, rfl⟩
      rw [hQ] at hk3
      obtain ⟨P, hP⟩ : ∃ P, countP (L.take i) = P := ⟨_, rfl⟩
      rw [hP] at hk2 h2
      have hPm : P + (1 + m) ≤ 2000000 := by omega
      obtain ⟨k1, hk1d⟩ : ∃ k1 : Int, k1 = (if 4 < m then k + 1 else k) := ⟨_, rfl⟩
      have hk1b : 0 ≤ k1 ∧ k1 ≤ P + 2 ∧ decide (0 < k1) = (Q || decide (4 < m)) := by
        rw [hk1d]
        by_cases h : 4 < m
        · rw [if_pos h]
          refine ⟨by omega, by omega, ?_⟩
          rw [decide_eq_true h, Bool.or_true]
          exact decide_eq_true (by omega)
        · rw [if_neg h]
          refine ⟨by omega, by omega, ?_⟩
          rw [decide_eq_false h, Bool.or_false]
          exact hk3
      obtain ⟨hk11, hk12, hk13⟩ := hk1b
      have Hm := hide hm
      have H2 := hide h2
      have HQ := hide hQ
      have HP := hide hP
      have Hany := hide hany
      have Hk13 := hide hk13
      clear hx hm h2 hQ hP hany hk3 hk13
      go_upto_if 25 with (fail)
      go_cut [3] (fun s3 wc => wc = wr ∧ s3 = .int .i64 k1)
      case first =>
        by_cases h4 : 4 < m
        · have h4' : (4 : Int) < (m : Int) := by omega
          rw [if_pos h4] at hk1d
          have Hk1 := hide hk1d
          clear hk1d
          go_wp2_with fail
          go_meet
          exact ⟨rfl, by rw [Hk1.out]⟩
        · have h4' : ¬ (4 : Int) < (m : Int) := by omega
          rw [if_neg h4] at hk1d
          have Hk1 := hide hk1d
          clear hk1d
          go_wp2_with fail
          go_meet
          exact ⟨rfl, by rw [Hk1.out]⟩
      case rest =>
        obtain ⟨hwc, rfl⟩ := hcut
        subst hwc
        rename World => W
        clear hk1d hwk
        go_wp2_with fail
        obtain ⟨go, rfl⟩ : ∃ go, go = gk := ⟨_, rfl⟩
        go_loopg [3, 5] m (fun g s3 s5 wr => ∃ (j : Nat) (k : Int), j + g = m ∧ s3 = .int .i64 k ∧ s5 = .int .i64 j ∧ wr = W ∧ 0 ≤ k ∧ k ≤ P + 2 + j ∧ decide (0 < k) = (Q || decide (4 < m) || (l.take j).any bigA))
        case atStart => exact ⟨0, k1, by omega, rfl, rfl, rfl, hk11, by omega, by rw [Hk13.out]; simp⟩
        case round =>
          obtain ⟨j, k', hj, rfl, rfl, hwr, hj1, hj2, hj3⟩ := hrel
          subst hwr
          have Hj := hide hj
          clear hj
          by_cases hlj : j < m
          case neg =>
            have hge : (m : Int) ≤ (j : Int) := by omega
            have htk : l.take j = l := List.take_of_length_le (by have := Hm.out; omega)
            have hjm : j = m := by have := Hj.out; omega
            rw [htk] at hj3
            have Hj3 := hide hj3
            have Hj2 := hide hj2
            have Hjm := hide hjm
            clear hj3 htk hj2 hjm
            go_wp2_with fail
            go_roundg (go - 1)
            case measure => have := Hi.out; omega
            case rel =>
              refine ⟨i + 1, k', by have := Hi.out; omega, rfl, by first | rfl | go_num, rfl, hj1, ?_, ?_⟩
              · have h1 := H2.out
                have h2 := Hj2.out
                have h3 := Hjm.out
                have h4 := HP.out
                omega
              · have h1 := Hj3.out
                have h2 := Hm.out
                rw [Hany.out, ← Bool.or_assoc, HQ.out, h1]
                unfold bigI
                rw [h2, Bool.or_assoc]
          case pos =>
          obtain ⟨a, b2, off2, X, cx, E, ce, ha, rfl, hbl2, hcells, _, _, q1, q2, q3, q4, _, _⟩ := palt_at hs HkW.out hlj
          have hany2 := any_takeP bigA ha
          have y2 := hcells 2 _ rfl
          have y3 := hcells 3 _ rfl
          have hj0 : (0 : Int) ≤ (j : Int) := by omega
          have hlj' : (j : Int) < (m : Int) := by omega
          have hwj : IntKind.i64.wrap ((j : Int) + 1) = ((j + 1 : Nat) : Int) := by rw [IntKind.wrap_i64]; omega
          have hwk : IntKind.i64.wrap (k' + 1) = k' + 1 := by rw [IntKind.wrap_i64]; omega
          unfold maxLen at q2 q4
          obtain ⟨ne, hne⟩ : ∃ ne, a.eps.length = ne := ⟨_, rfl⟩
          obtain ⟨nx, hnx⟩ : ∃ nx, a.extra.length = nx := ⟨_, rfl⟩
          have hbA : bigA a = (decide (4 < ne) || decide (3 < nx)) := by unfold bigA; rw [hne, hnx]
          rw [hne] at y3 q3
          rw [hnx] at y2 q1
          obtain ⟨k2, hk2d⟩ : ∃ k2 : Int, k2 = (if 4 < ne ∨ 3 < nx then k' + 1 else k') := ⟨_, rfl⟩
          have hk2b : 0 ≤ k2 ∧ k2 ≤ P + 2 + j + 1 ∧ decide (0 < k2) = (Q || decide (4 < m) || (l.take (j + 1)).any bigA) := by
            rw [hk2d, hany2, ← Bool.or_assoc, ← hj3, hbA]
            by_cases h : 4 < ne ∨ 3 < nx
            · rw [if_pos h]
              refine ⟨by omega, by omega, ?_⟩
              have h2 : (decide (4 < ne) || decide (3 < nx)) = true := by simpa using h
              rw [h2, Bool.or_true]
              exact decide_eq_true (by omega)
            · rw [if_neg h]
              refine ⟨by omega, by omega, ?_⟩
              have h2 : (decide (4 < ne) || decide (3 < nx)) = false := by simpa using h
              rw [h2, Bool.or_false]
          obtain ⟨hk21, hk22, hk23⟩ := hk2b
          have Hk23 := hide hk23
          clear hcells ha hany2 hbA hne hnx hk23 hj3
          by_cases h4 : 4 < ne
          · have h4' : (4 : Int) < (ne : Int) := by omega
            rw [if_pos (.inl h4)] at hk2d
            have Hk2 := hide hk2d
            clear hk2d
            go_wp2_with fail
            go_roundg (gk - 1)
            case measure => have := Hj.out; omega
            case rel => exact ⟨j + 1, k2, by have := Hj.out; omega, by rw [Hk2.out], by first | rfl | go_num, rfl, hk21, by omega, Hk23.out⟩
          · have h4' : ¬ (4 : Int) < (ne : Int) := by omega
            by_cases h3 : 3 < nx
            · have h3' : (3 : Int) < (nx : Int) := by omega
              rw [if_pos (.inr h3)] at hk2d
              have Hk2 := hide hk2d
              clear hk2d
              go_wp2_with fail
              go_roundg (gk - 1)
              case measure => have := Hj.out; omega
              case rel => exact ⟨j + 1, k2, by have := Hj.out; omega, by rw [Hk2.out], by first | rfl | go_num, rfl, hk21, by omega, Hk23.out⟩
            · have h3' : ¬ (3 : Int) < (nx : Int) := by omega
              rw [if_neg (fun h => h.elim h4 h3)] at hk2d
              have Hk2 := hide hk2d
              clear hk2d
              go_wp2_with fail
              go_roundg (gk - 1)
              case measure => have := Hj.out; omega
              case rel => exact ⟨j + 1, k2, by have := Hj.out; omega, by rw [Hk2.out], by first | rfl | go_num, rfl, hk21, by omega, Hk23.out⟩
end Go.Proofs.YtjgncofhobhjdaaDoor
