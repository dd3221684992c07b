


/- DriversCheck: the registries that are none. The world holds the device. -/
import Derived.Test.YtgkhenplbljbbaaChecked
import Derived.Deep.RegionHeld3
import Derived.Deep.DrawnRows
import Derived.Deep.DeepCutAuto
import Derived.Deep.LoopGhost
import Derived.Outline
import Derived.Handy
import Derived.Deep.RegionLaw
import Derived.OwnWalk
import Derived.Test.YtgkhenplbljbbaaFb
import Derived.Test.YtgkhenplbljbbaaWi
set_option linter.unusedVariables false
set_option linter.unusedSimpArgs false
set_option linter.unusedSectionVars false
namespace Go.Proofs.Ytgkhenplbljbbaa
open Go.RowKit Go.Maps
attribute [local go_sem ↓] Go.wp_at_zero Go.wp_at_succ
/-- the code from a region on -/
def fromR (k : Nat) : Code → Option Code
  | .seq (.region i o b) c => if i = k then some (.seq (.region i o b) c) else fromR k c
  | .seq _ c => fromR k c
  | .block _ c => fromR k c
  | .scope c => fromR k c
  | _ => none
def headC : Code → Code
  | .seq a _ => a
  | c => c
def restC : Code → Code
  | .seq _ b => b
  | _ => .skip
noncomputable def codeN : Code := (Try.f8.body.bind (fromR 30)).getD .skip
theorem run_load_row {P : Program} {o : Oper} {a : Act} {w : World} (ty : TypeId) (x : Operand) (ho : o.op = .load ty x)
    (g : Nat) (hx : a.eval x = .pointer (some ⟨g, 0, none⟩)) (t : TypeId) (cs : Array Value) (fr : Nat × Nat) (d : TypeDesc) (hg : w.heap[g]? = some (.cells cs t fr))
    (hu : P.underlying ty = some d) (hd : (match d with | .struct _ | .array _ _ => true | _ => false) = true) (hi : (P.info? ty).map (·.size) = some cs.size) : (execOp a.eval o).run P w = .ok (.value (.agg cs)) w := by
  unfold execOp
  simp only [ho, hx, Instr.loadAt, Instr.sureAddr, Sem.run_bind, Sem.run_pure, Result.andThen_ok, run_loadVar_row w g t ty cs fr d hg hu hd hi]
set_option maxRecDepth 1000000 in
set_option maxHeartbeats 8000000 in
theorem dchkN {u0 u1 u2 u3 u4 u5 u6 u7 u8 u9 u10 u11 u12 u13 u15 u16 u17 u18 u19 u20 u21 u22 u23 u24 u25 u26 u27 u28 u29 u30 u31 u32 u33 u34 u35 u36 u37 u38 u39 u40 u41 u42 u43 u44 u45 u46 u47 u48 u49 u50 u51 u52 u53 u54 u55 u56 u57 u58 u59 u60 u61 u62 u63 u64 u65 u66 u67 u68 u69 u70 u71 u72 u73 u74 u75 u76 u77 u78 u79 u80 u81 u82 u83 u84 u85 u86 u87 u88 u89 u90 u91 u92 u93 u94 u95 u96 u97 u98 u99 u100 u101 u102 u103 u104 u105 u106 u107 u108 u109 u110 u111 u112 u113 u114 u115 u116 u117 u118 u119 u120 u121 u122 u123 u124 u125 u126 u127 u128 u129 u130 u131 u132 u133 u134 u135 u136 u137 u138 u139 u140 u141 u142 u143 u144 u145 u146 u147 u148 u149 u150 u151 u152 u153 u154 u155 u156 u157 u158 u159 u160 u161 u162 u163 u164 u165 u166 u167 u168 u169 u170 u171 u172 u173 u174 u175 u176 u177 u178 u179 u180 u181 u182 u183 u184 u185 : Value} (F : Nat) (a v p : Int) (A2 : Option Addr) (m c2 : Nat) (w W : World) (HF : W.heap[F]? = some (.cells #[.int .u8 (a), .slice none 0 0, .int .u8 0, .int .u8 0, .int .u8 0, .int .u16 0, .int .u8 0, .int .u8 0, .int .u8 0, .int .u8 0, .int .u16 (v), .int .u16 (p), .int .u16 0, .int .u8 0, .int .u8 0, .int .u8 0, .int .u8 0, .slice A2 m c2] 34 (0, 0))) (hkW : Kept w W)
    (K : Act → World → Prop) (hK : ∀ a w', Code.wp Try.prog (restC codeN) (bodyPost Try.prog Try.f8 fun e w' => e = .returned (.bool true) ∧ Kept w w') a w' → K a w') :
    Code.wp Try.prog (headC codeN) (Exit.then K (bodyPost Try.prog Try.f8 fun e w' => e = .returned (.bool true) ∧ Kept w w')) ⟨#[u0, u1, u2, u3, u4, u5, u6, u7, u8, u9, u10, u11, u12, u13, .pointer (some ⟨F, 0, none⟩), u15, u16, u17, u18, u19, u20, u21, u22, u23, u24, u25, u26, u27, u28, u29, u30, u31, u32, u33, u34, u35, u36, u37, u38, u39, u40, u41, u42, u43, u44, u45, u46, u47, u48, u49, u50, u51, u52, u53, u54, u55, u56, u57, u58, u59, u60, u61, u62, u63, u64, u65, u66, u67, u68, u69, u70, u71, u72, u73, u74, u75, u76, u77, u78, u79, u80, u81, u82, u83, u84, u85, u86, u87, u88, u89, u90, u91, u92, u93, u94, u95, u96, u97, u98, u99, u100, u101, u102, u103, u104, u105, u106, u107, u108, u109, u110, u111, u112, u113, u114, u115, u116, u117, u118, u119, u120, u121, u122, u123, u124, u125, u126, u127, u128, u129, u130, u131, u132, u133, u134, u135, u136, u137, u138, u139, u140, u141, u142, u143, u144, u145, u146, u147, u148, u149, u150, u151, u152, u153, u154, u155, u156, u157, u158, u159, u160, u161, u162, u163, u164, u165, u166, u167, u168, u169, u170, u171, u172, u173, u174, u175, u176, u177, u178, u179, u180, u181, u182, u183, u184, u185], []⟩ W := by
  conv => arg 2; whnf
  conv at hK => enter [a, w', 1, 2]; whnf
  go_upto_region 32 with (fail)
  refine wp_at (fun W2 => W2.heap[W.heap.size]? = some (.cells #[.slice none 0 0, .map none] 89 (0, 0)) ∧ W2.heap[W.heap.size + 1]? = some (.cells #[.pointer none, .pointer (some ⟨W.heap.size, 0, none⟩)] 69 (0, 0)) ∧ Kept W W2)
    ⟨heap_past (heap_at _ rfl), heap_at _ (by simp), by go_grown⟩ (fun W2 hW2 => ?_)
  obtain ⟨HZ, HG, hk2⟩ := hW2
  have HF2 := hide (heap_kept hk2 HF)
  clear HF
  have HG2 := hide HG
  have Hno : ∀ k : Nat, k < 2 → ∃ x, W2.cell? ⟨W.heap.size + 1, k, none⟩ = some x ∧ NoReg W2 x := by
    intro k hk
    rcases (by omega : k = 0 ∨ k = 1) with rfl | rfl
    · exact ⟨_, cell_heap HG rfl, .inl rfl⟩
    · exact ⟨_, cell_heap HG rfl, .inr ⟨_, rfl, cell_heap HZ rfl⟩⟩
  have hgl := heap_lt HG
  clear HZ HG
  generalize W.heap.size + 1 = G at *
  have hkw2 : Kept w W2 := hkW.trans' hk2
  clear hk2 hkW
  go_wp2_with fail
  go_loopg [21] 2 (fun g s21 wr => ∃ k : Nat, k + g = 2 ∧ s21 = .int .i64 k ∧ Kept W2 wr)
  case atStart => exact ⟨0, rfl, rfl, Below.refl _ _⟩
  case round =>
    obtain ⟨k, hk, rfl, hkr⟩ := hrel
    have Hk := hide hk
    clear hk
    have hGr : G < wr.heap.size := Nat.lt_of_lt_of_le hgl hkr.size
    have hkw3 := hide (hkw2.trans' hkr)
    have HF3 := hide (heap_kept hkr HF2.out)
    by_cases hlt : k < 2
    · obtain ⟨x, hx0, hno0⟩ := Hno k hlt
      have hx : wr.cell? ⟨G, k, none⟩ = some x := (hkr.cell (p := ⟨G, k, none⟩) hgl).trans hx0
      have hno := hide (hno0.kept hkr)
      clear hx0 hno0
      have hlt' : (k : Int) < 2 := by omega
      have hk0 : (0 : Int) ≤ (k : Int) := by omega
      have hFl := heap_lt HF3.out
      go_upto_region 35 with (fail)
      refine wp_region_held_drew (S := fun w' => (∀ b o, b < wr.heap.size → w'.cell? ⟨b, o, none⟩ = wr.cell? ⟨b, o, none⟩) ∧ Below wr.heap.size wr w') (by kernel_rfl) since_start (fun hS => ?_)
      refine wpAnyH_take (i := 0) (v := ?_) rfl (by kernel_rfl) (by kernel_rfl) (by kernel_rfl) (fun _ _ _ h => h) (Or.inl ⟨by kernel_rfl, ?_⟩) hS ?_
      rotate_left
      · intro w' hS'
        have hq := hS'.1
        have hq2 := hS'.2
        clear hS'
        first | (go_simp; done) | (go_simp; with_reducible rfl)
      try simp only [Act.put, List.getElem_toArray, List.getElem_cons_zero, List.getElem_cons_succ, List.setIfInBounds_toArray, List.set_cons_zero, List.set_cons_succ]
      refine wpAnyH_take (i := 1) (v := ?_) rfl (by kernel_rfl) (by kernel_rfl) (by kernel_rfl) (fun _ _ _ h => h) (Or.inl ⟨by kernel_rfl, ?_⟩) hS ?_
      rotate_left
      · intro w' hS'
        have hq := hS'.1
        have hq2 := hS'.2
        clear hS'
        first | (go_simp; done) | (go_simp; with_reducible rfl)
      try simp only [Act.put, List.getElem_toArray, List.getElem_cons_zero, List.getElem_cons_succ, List.setIfInBounds_toArray, List.set_cons_zero, List.set_cons_succ]
      refine wpAnyH_take (i := 2) (v := ?_) rfl (by kernel_rfl) (by kernel_rfl) (by kernel_rfl) (fun _ _ _ h => h) (Or.inl ⟨by kernel_rfl, ?_⟩) hS ?_
      rotate_left
      · intro w' hS'
        have hq := hS'.1
        have hq2 := hS'.2
        clear hS'
        first | (go_simp; done) | (go_simp; with_reducible rfl)
      try simp only [Act.put, List.getElem_toArray, List.getElem_cons_zero, List.getElem_cons_succ, List.setIfInBounds_toArray, List.set_cons_zero, List.set_cons_succ]
      refine wpAnyH_take (i := 3) (v := ?_) rfl (by kernel_rfl) (by kernel_rfl) (by kernel_rfl) (fun _ _ _ h => h) (Or.inl ⟨by kernel_rfl, ?_⟩) hS ?_
      rotate_left
      · intro w' hS'
        have hq := hS'.1
        have hq2 := hS'.2
        clear hS'
        first | (go_simp; done) | (go_simp; with_reducible rfl)
      try simp only [Act.put, List.getElem_toArray, List.getElem_cons_zero, List.getElem_cons_succ, List.setIfInBounds_toArray, List.set_cons_zero, List.set_cons_succ]
      refine wpAnyH_take (i := 4) (v := ?_) rfl (by kernel_rfl) (by kernel_rfl) (by kernel_rfl) (fun _ _ _ h => h) (Or.inl ⟨by kernel_rfl, ?_⟩) hS ?_
      rotate_left
      · intro w' hS'
        refine run_load_row 34 (.tmp 14) ?_ F ?_ 34 _ (0, 0) _ (heap_below hS'.2 HF3.out hFl) Try.underlying34 rfl (by kernel_rfl)
        · rfl
        · rfl
      try simp only [Act.put, List.getElem_toArray, List.getElem_cons_zero, List.getElem_cons_succ, List.setIfInBounds_toArray, List.set_cons_zero, List.set_cons_succ]
      refine wpAnyH_ready (rs := [5, 9]) (by kernel_rfl) (by simp) ?_
      refine AllReadyH.cons rfl (fun K hK => ?_) (AllReadyH.cons rfl (fun K hK => ?_) AllReadyH.nil)
      · go_simp
        go_at_call 25
        refine (attach_none _ _ _ _ _ _ _ _ _ (hno.out.kept hS.2)).mono ?_
        rintro e w5 ⟨rfl, hk5⟩
        try dsimp only
        have k5 := since_keep hS (Nat.le_refl _) hk5
        refine hK.out _ _ ?_ (fun hS => ?_)
        · exact k5
        have hk5r : wr.heap.size ≤ w5.heap.size := k5.2.size
        clear hK K k5
        try simp only [Act.put, List.getElem_toArray, List.getElem_cons_zero, List.getElem_cons_succ, List.setIfInBounds_toArray, List.set_cons_zero, List.set_cons_succ]
        refine wpAnyH_take (i := 6) (v := ?_) rfl (by kernel_rfl) (by kernel_rfl) (by kernel_rfl) (fun _ _ _ h => h) (Or.inl ⟨by kernel_rfl, ?_⟩) hS ?_
        rotate_left
        · intro w' hS'
          have hq := hS'.1
          have hq2 := hS'.2
          clear hS'
          first | (go_simp; done) | (go_simp; with_reducible rfl)
        try simp only [Act.put, List.getElem_toArray, List.getElem_cons_zero, List.getElem_cons_succ, List.setIfInBounds_toArray, List.set_cons_zero, List.set_cons_succ]
        refine wpAnyH_take (i := 7) (v := ?_) rfl (by kernel_rfl) (by kernel_rfl) (by kernel_rfl) (fun _ _ _ h => h) (Or.inl ⟨by kernel_rfl, ?_⟩) hS ?_
        rotate_left
        · intro w' hS'
          have hq := hS'.1
          have hq2 := hS'.2
          clear hS'
          first | (go_simp; done) | (go_simp; with_reducible rfl)
        try simp only [Act.put, List.getElem_toArray, List.getElem_cons_zero, List.getElem_cons_succ, List.setIfInBounds_toArray, List.set_cons_zero, List.set_cons_succ]
        refine wpAnyH_take (i := 8) (v := ?_) rfl (by kernel_rfl) (by kernel_rfl) (by kernel_rfl) (fun _ _ _ h => h) (Or.inl ⟨by kernel_rfl, ?_⟩) hS ?_
        rotate_left
        · intro w' hS'
          have hq := hS'.1
          have hq2 := hS'.2
          clear hS'
          first | (go_simp; done) | (go_simp; with_reducible rfl)
        try simp only [Act.put, List.getElem_toArray, List.getElem_cons_zero, List.getElem_cons_succ, List.setIfInBounds_toArray, List.set_cons_zero, List.set_cons_succ]
        refine wpAnyH_ready (rs := [9]) (by kernel_rfl) (by simp) ?_
        refine AllReadyH.cons rfl (fun K hK => ?_) AllReadyH.nil
        go_simp
        refine hK.out _ _ ?_ (fun hS => ?_)
        · exact since_alloc hS (Nat.le_refl _)
        clear hK K
        try simp only [Act.put, List.getElem_toArray, List.getElem_cons_zero, List.getElem_cons_succ, List.setIfInBounds_toArray, List.set_cons_zero, List.set_cons_succ]
        obtain ⟨T, hT⟩ : ∃ T, T = w5.heap.size := ⟨_, rfl⟩
        have HT : (w5.alloc (.cells #[.int .u8 0, .slice none 0 0] 63)).heap[T]? = some (.cells #[.int .u8 0, .slice none 0 0] 63 (0, 0)) := heap_at _ hT
        have hTr : wr.heap.size ≤ T := by rw [hT]; first | exact hk5r | exact Nat.le_refl _
        generalize (w5.alloc (.cells #[.int .u8 0, .slice none 0 0] 63)) = w6 at *
        rw [← hT]
        clear hT
        have q0 := cell_heap HT (o := 0) rfl
        have q1 := cell_heap HT (o := 1) rfl
        have z0 := frozen_heap HT (o := 0)
        have z1 := frozen_heap HT (o := 1)
        have hTl := heap_lt HT
        refine wpAnyH_ready (rs := [10]) (by kernel_rfl) (by simp) ?_
        refine AllReadyH.cons rfl (fun K hK => ?_) AllReadyH.nil
        go_simp
        have hS7 := since_below hS (((Below.refl wr.heap.size w6).setCell hTr (p := ⟨T, 0, none⟩) (Value.int .u8 0)).setCell hTr (p := ⟨T, 1, none⟩) (Value.slice none 0 0))
        generalize ((w6.setCell ⟨T, 0, none⟩ (Value.int .u8 0)).setCell ⟨T, 1, none⟩ (Value.slice none 0 0)) = w7 at *
        refine hK.out _ _ ?_ (fun hS => ?_)
        · exact hS7
        clear hK K hS7 q0 q1 z0 z1 hTl HT hTr
        try simp only [Act.put, List.getElem_toArray, List.getElem_cons_zero, List.getElem_cons_succ, List.setIfInBounds_toArray, List.set_cons_zero, List.set_cons_succ]
        refine wpAnyH_take (i := 11) (v := ?_) rfl (by kernel_rfl) (by kernel_rfl) (by kernel_rfl) (fun _ _ _ h => h) (Or.inl ⟨by kernel_rfl, ?_⟩) hS ?_
        rotate_left
        · intro w' hS'
          have hq := hS'.1
          have hq2 := hS'.2
          clear hS'
          first | (go_simp; done) | (go_simp; with_reducible rfl)
        try simp only [Act.put, List.getElem_toArray, List.getElem_cons_zero, List.getElem_cons_succ, List.setIfInBounds_toArray, List.set_cons_zero, List.set_cons_succ]
        refine wpAnyH_done (by kernel_rfl) ?_ _
        have hk7 := hS.2
        have hno7 := hide (hno.out.kept hk7)
        have hx7 := (hk7.cell (p := ⟨G, k, none⟩) hGr).trans hx
        have hG7 := Nat.lt_of_lt_of_le hGr hk7.size
        clear hS hx hGr hFl
        go_upto_region 37 with (go_at_call 23; refine (detach_none _ _ _ hno7.out).mono ?_; rintro e w8 ⟨rfl, rfl⟩)
        go_region_held3 (fun w' => (∀ b o, b < w7.heap.size → w'.cell? ⟨b, o, none⟩ = w7.cell? ⟨b, o, none⟩) ∧ Below w7.heap.size w7 w') (first | assumption | exact since_start) (first
          | (go_at_call 26; refine (bound_none _ _ _ (hno7.out.kept (Below.refl _ _).drew)).mono ?_; rintro e w8 ⟨rfl, rfl⟩)
          | (go_at_call 27; refine (of_none _ _ _ (hno7.out.kept (Below.refl _ _).drew)).mono ?_; rintro e w8 ⟨rfl, rfl⟩))
        go_wp2_with fail
        have hk7 : Kept wr w7.drew := hk7.drew
        go_roundg (gk - 1)
        case measure => have := Hk.out; omega
        case rel => exact ⟨k + 1, by have := Hk.out; omega, by go_num, hkr.trans' hk7⟩
      · go_simp
        refine hK.out _ _ ?_ (fun hS => ?_)
        · exact since_alloc hS (Nat.le_refl _)
        clear hK K
        try simp only [Act.put, List.getElem_toArray, List.getElem_cons_zero, List.getElem_cons_succ, List.setIfInBounds_toArray, List.set_cons_zero, List.set_cons_succ]
        have HT0 : (wr.alloc (.cells #[.int .u8 0, .slice none 0 0] 63)).heap[wr.heap.size]? = some (.cells #[.int .u8 0, .slice none 0 0] 63 (0, 0)) := heap_at _ rfl
        have hTr : wr.heap.size ≤ wr.heap.size := Nat.le_refl _
        generalize (wr.alloc (.cells #[.int .u8 0, .slice none 0 0] 63)) = w6 at *
        refine wpAnyH_ready (rs := [5]) (by kernel_rfl) (by simp) ?_
        refine AllReadyH.cons rfl (fun K hK => ?_) AllReadyH.nil
        go_simp
        go_at_call 25
        refine (attach_none _ _ _ _ _ _ _ _ _ (hno.out.kept hS.2)).mono ?_
        rintro e w5 ⟨rfl, hk5⟩
        try dsimp only
        have k5 := since_keep hS (Nat.le_refl _) hk5
        have HT := heap_kept hk5 (heap_drew HT0)
        refine hK.out _ _ ?_ (fun hS => ?_)
        · exact k5
        clear hK K k5 HT0
        try simp only [Act.put, List.getElem_toArray, List.getElem_cons_zero, List.getElem_cons_succ, List.setIfInBounds_toArray, List.set_cons_zero, List.set_cons_succ]
        refine wpAnyH_take (i := 6) (v := ?_) rfl (by kernel_rfl) (by kernel_rfl) (by kernel_rfl) (fun _ _ _ h => h) (Or.inl ⟨by kernel_rfl, ?_⟩) hS ?_
        rotate_left
        · intro w' hS'
          have hq := hS'.1
          have hq2 := hS'.2
          clear hS'
          first | (go_simp; done) | (go_simp; with_reducible rfl)
        try simp only [Act.put, List.getElem_toArray, List.getElem_cons_zero, List.getElem_cons_succ, List.setIfInBounds_toArray, List.set_cons_zero, List.set_cons_succ]
        refine wpAnyH_take (i := 7) (v := ?_) rfl (by kernel_rfl) (by kernel_rfl) (by kernel_rfl) (fun _ _ _ h => h) (Or.inl ⟨by kernel_rfl, ?_⟩) hS ?_
        rotate_left
        · intro w' hS'
          have hq := hS'.1
          have hq2 := hS'.2
          clear hS'
          first | (go_simp; done) | (go_simp; with_reducible rfl)
        try simp only [Act.put, List.getElem_toArray, List.getElem_cons_zero, List.getElem_cons_succ, List.setIfInBounds_toArray, List.set_cons_zero, List.set_cons_succ]
        refine wpAnyH_take (i := 8) (v := ?_) rfl (by kernel_rfl) (by kernel_rfl) (by kernel_rfl) (fun _ _ _ h => h) (Or.inl ⟨by kernel_rfl, ?_⟩) hS ?_
        rotate_left
        · intro w' hS'
          have hq := hS'.1
          have hq2 := hS'.2
          clear hS'
          first | (go_simp; done) | (go_simp; with_reducible rfl)
        try simp only [Act.put, List.getElem_toArray, List.getElem_cons_zero, List.getElem_cons_succ, List.setIfInBounds_toArray, List.set_cons_zero, List.set_cons_succ]
        have q0 := cell_heap HT (o := 0) rfl
        have q1 := cell_heap HT (o := 1) rfl
        have z0 := frozen_heap HT (o := 0)
        have z1 := frozen_heap HT (o := 1)
        have hTl := heap_lt HT
        refine wpAnyH_ready (rs := [10]) (by kernel_rfl) (by simp) ?_
        refine AllReadyH.cons rfl (fun K hK => ?_) AllReadyH.nil
        go_simp
        have hS7 := since_below hS (((Below.refl wr.heap.size w5).setCell hTr (p := ⟨wr.heap.size, 0, none⟩) (Value.int .u8 0)).setCell hTr (p := ⟨wr.heap.size, 1, none⟩) (Value.slice none 0 0))
        generalize ((w5.setCell ⟨wr.heap.size, 0, none⟩ (Value.int .u8 0)).setCell ⟨wr.heap.size, 1, none⟩ (Value.slice none 0 0)) = w7 at *
        refine hK.out _ _ ?_ (fun hS => ?_)
        · exact hS7
        clear hK K hS7 q0 q1 z0 z1 hTl HT hTr
        try simp only [Act.put, List.getElem_toArray, List.getElem_cons_zero, List.getElem_cons_succ, List.setIfInBounds_toArray, List.set_cons_zero, List.set_cons_succ]
        refine wpAnyH_take (i := 11) (v := ?_) rfl (by kernel_rfl) (by kernel_rfl) (by kernel_rfl) (fun _ _ _ h => h) (Or.inl ⟨by kernel_rfl, ?_⟩) hS ?_
        rotate_left
        · intro w' hS'
          have hq := hS'.1
          have hq2 := hS'.2
          clear hS'
          first | (go_simp; done) | (go_simp; with_reducible rfl)
        try simp only [Act.put, List.getElem_toArray, List.getElem_cons_zero, List.getElem_cons_succ, List.setIfInBounds_toArray, List.set_cons_zero, List.set_cons_succ]
        refine wpAnyH_done (by kernel_rfl) ?_ _
        have hk7 := hS.2
        have hno7 := hide (hno.out.kept hk7)
        have hx7 := (hk7.cell (p := ⟨G, k, none⟩) hGr).trans hx
        have hG7 := Nat.lt_of_lt_of_le hGr hk7.size
        clear hS hx hGr hFl
        go_upto_region 37 with (go_at_call 23; refine (detach_none _ _ _ hno7.out).mono ?_; rintro e w8 ⟨rfl, rfl⟩)
        go_region_held3 (fun w' => (∀ b o, b < w7.heap.size → w'.cell? ⟨b, o, none⟩ = w7.cell? ⟨b, o, none⟩) ∧ Below w7.heap.size w7 w') (first | assumption | exact since_start) (first
          | (go_at_call 26; refine (bound_none _ _ _ (hno7.out.kept (Below.refl _ _).drew)).mono ?_; rintro e w8 ⟨rfl, rfl⟩)
          | (go_at_call 27; refine (of_none _ _ _ (hno7.out.kept (Below.refl _ _).drew)).mono ?_; rintro e w8 ⟨rfl, rfl⟩))
        go_wp2_with fail
        have hk7 : Kept wr w7.drew := hk7.drew
        go_roundg (gk - 1)
        case measure => have := Hk.out; omega
        case rel => exact ⟨k + 1, by have := Hk.out; omega, by go_num, hkr.trans' hk7⟩
    · have hk2 : k = 2 := by have := Hk.out; omega
      have hlt' : (2 : Int) ≤ (k : Int) := by omega
      clear hk2
      go_wp2_with (first | (go_at_call 17; refine (lives_any _).mono ?_; rintro e w9 ⟨rfl, hk9⟩))
      go_ret
      exact ⟨rfl, hkw3.out.trans' hk9⟩
end Go.Proofs.Ytgkhenplbljbbaa
