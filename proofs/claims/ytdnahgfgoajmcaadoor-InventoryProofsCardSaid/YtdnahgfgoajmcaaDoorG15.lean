/-
  InventoryProofs, InventoryRoots: lists of records as slices; own, invalid, Root.
  Conditions: the package variables hold what they hold at the start.
  InventoryProofs, InventoryRoots: Reverse; Prove.
  Conditions: the package variables hold what they hold at the start.
  InventoryProofs, InventoryRoots: Prove.
  Conditions: the package variables hold what they hold at the start.
  InventoryProofs: the plain law: a proof is accepted, and not at another length.
  Conditions: as each theorem states.
  InventoryProofs: the walk.
  Conditions: the package variables hold what they hold at the start.
  InventoryVerifies: a proof as an argument.
  Conditions: the argument can be read as data.
  InventoryProofs, InventoryRoots: a list of records as an argument.
  Conditions: the argument can be read as data.
-/
import Derived.Test.YtdnahgfgoajmcaaDoorG14
namespace Go.Proofs.YtdnahgfgoajmcaaDoor
open Go Go.Abs
attribute [local congr] thenV_congr
/-- The cells of a list of records. -/
def recsC (P : List RecD) : List Value := P.flatMap recC
theorem recsC_len : ∀ {P : List RecD}, (∀ p ∈ P, RecD.Wf p) → (recsC P).length = P.length * 39
  | [], _ => rfl
  | p :: P, h => by
    have ih := recsC_len (P := P) fun q hq => h q (List.mem_cons_of_mem _ hq)
    have hp := (rec_cells (h p List.mem_cons_self)).1
    unfold recsC at ih ⊢
    rw [List.flatMap_cons, List.length_append, ih, hp, List.length_cons]
    omega
theorem recsC_get : ∀ {P : List RecD}, (∀ p ∈ P, RecD.Wf p) → ∀ {j : Nat}, j < P.length → ((recsC P).drop (j * 39)).take 39 = recC (P.getD j RecD.z)
  | [], _, j, hj => absurd hj (Nat.not_lt_zero j)
  | p :: P, h, j, hj => by
    have hp := (rec_cells (h p List.mem_cons_self)).1
    cases j with
    | zero =>
      unfold recsC
      rw [List.flatMap_cons, Nat.zero_mul, List.drop_zero, ← hp, List.take_left]
      rfl
    | succ j =>
      have ih := recsC_get (P := P) (fun q hq => h q (List.mem_cons_of_mem _ hq)) (j := j) (by rw [List.length_cons] at hj; omega)
      unfold recsC at ih ⊢
      rw [List.flatMap_cons, show (j + 1) * 39 = 39 + j * 39 by omega, ← List.drop_drop, List.drop_left' hp, List.getD_cons_succ, ih]
theorem recsC_ok : ∀ {P : List RecD}, (∀ p ∈ P, RecD.Wf p) → Abs.noHoles (recsC P) = true ∧ oneCells (recsC P) = true
  | [], _ => ⟨rfl, rfl⟩
  | p :: P, h => by
    have ih := recsC_ok (P := P) fun q hq => h q (List.mem_cons_of_mem _ hq)
    have hp := rec_cells (h p List.mem_cons_self)
    unfold recsC at ih ⊢
    unfold Abs.noHoles oneCells at *
    rw [List.flatMap_cons, List.all_append, List.all_append, ih.1, ih.2, hp.2.1, hp.2.2]
    exact ⟨rfl, rfl⟩
/-- A slice of records, its cells in one block. -/
def RcS (h : Heap) (v : Value) (P : List RecD) : Prop := (∀ p ∈ P, RecD.Wf p) ∧ SlN h recK v P.length (recsC P)
theorem RcS.rsl {h : Heap} {v : Value} {P : List RecD} (x : RcS h v P) : RSl h v P := by
  obtain ⟨hd, a, c, rfl, _, _, h0⟩ := x
  refine ⟨⟨_, _, rfl⟩, hd, fun j hj => ?_⟩
  obtain ⟨b, off, s, k, rfl, hk, hlen, hcs⟩ := h0 (by omega)
  rw [show recK.length = 39 from rfl] at hlen hcs
  have hm := mul_le (z := 39) hj
  have e : (k.drop (off + j * 39)).take 39 = recC (P.getD j RecD.z) := by
    rw [← recsC_get hd hj, ← hcs]
    rw [List.drop_take, List.take_take, List.drop_drop, Nat.min_eq_left (by omega)]
  refine ⟨b, off + j * 39, ?_, h.lt_of_get hk, fun g hg => ?_⟩
  · unfold idxS i64n
    simp only
    rw [if_pos (by omega), Int.toNat_natCast]
  · have dp : RecD.Wf (P.getD j RecD.z) := hd _ (by
      rw [List.getD_eq_getElem?_getD, List.getElem?_eq_getElem hj]
      exact List.getElem_mem hj)
    have := ldN_at (o := off + j * 39) (n := 39) (hg.trans hk) (by omega) (by rw [e]; exact (rec_cells dp).2.1)
    rw [e] at this
    exact this
theorem RcS.mono {h h' : Heap} {v : Value} {P : List RecD} (x : RcS h v P) (o : Old h h') : RcS h' v P := by
  obtain ⟨hd, a, c, rfl, hn, ht, h0⟩ := x
  refine ⟨hd, a, c, rfl, hn, ht, fun hp => ?_⟩
  obtain ⟨b, off, s, k, rfl, hk, hlen, hcs⟩ := h0 hp
  exact ⟨b, off, s, k, rfl, Old.get o hk, hlen, hcs⟩
/-- append([]Record{}, P...): a copy. -/
theorem app_recs {g : Heap} {v : Value} {P : List RecD} (x : RcS g v P) (hl : P.length ≤ 1000000) :
    ∃ v' g', appendA 39 88 (.slice (some ⟨g.next, 0, none⟩) 0 0) v (g.alloc []) = some (v', g') ∧ Old g g' ∧ RSl g' v' P ∧ gR v' := by
  have o1 : Old g (g.alloc []) := Kept.alloc _ _ _
  obtain ⟨hd, a, c, rfl, hn, ht, h0⟩ := x
  by_cases hz : P.length = 0
  · have hP : P = [] := List.length_eq_zero_iff.1 hz
    subst hP
    refine ⟨.slice (some ⟨g.next, 0, none⟩) 0 0, g.alloc [], ?_, o1, ⟨⟨_, _, rfl⟩, hd, fun j hj => absurd hj (Nat.not_lt_zero j)⟩, ⟨_, _, _, rfl, Nat.le_refl _, fun h => absurd h (Nat.lt_irrefl 0)⟩⟩
    cases a with
    | none => rfl
    | some a => obtain ⟨b, off, s⟩ := a; rfl
  · obtain ⟨b, off, s, k, rfl, hk, hlen, hcs⟩ := h0 (by omega)
    rw [show recK.length = 39 from rfl] at hlen hcs
    have hl' := recsC_len hd
    have hk1 : (g.alloc []).get b = some k := Old.get o1 hk
    have hf : firstA 39 P.length (.slice (some ⟨b, off, s⟩) P.length c) (g.alloc []) = some (recsC P) := by
      unfold firstA
      simp only
      rw [if_neg (by omega), hk1]
      simp only
      rw [hcs, if_pos ⟨hlen, (recsC_ok hd).1⟩]
    have o2 : Old (g.alloc []) ((g.alloc []).alloc (recsC P)) := Kept.alloc _ _ _
    have D2 : RcS ((g.alloc []).alloc (recsC P)) (.slice (some ⟨(g.alloc []).next, 0, some 39⟩) P.length P.length) P := by
      refine ⟨hd, _, _, rfl, fun h => (by cases h), ht, fun _ => ⟨_, _, _, recsC P, rfl, by rw [Heap.get_alloc, if_pos rfl], ?_, ?_⟩⟩
      · rw [show recK.length = 39 from rfl, hl', Nat.zero_add]
        exact Nat.le_refl _
      · rw [show recK.length = 39 from rfl, List.drop_zero, ← hl', List.take_length]
    refine ⟨.slice (some ⟨(g.alloc []).next, 0, some 39⟩) P.length P.length, (g.alloc []).alloc (recsC P), ?_, o1.trans o2, D2.rsl, ⟨_, _, _, rfl, Nat.le_refl _, fun _ b o s e => by cases e; rfl⟩⟩
    have hf0 : firstA 39 0 (.slice (some ⟨g.next, 0, none⟩) 0 0) (g.alloc []) = some [] := rfl
    unfold appendA
    simp only [lenA, hf, hf0]
    rw [if_neg (by
      simp only [(recsC_ok hd).2, hl', Bool.not_true, Bool.false_or, Bool.or_eq_true, Bool.not_eq_true', decide_eq_false_iff_not, decide_eq_true_eq, Nat.zero_add]
      omega), if_neg (by omega)]
    simp only [List.nil_append, Nat.zero_add, List.length_nil, Nat.zero_mul]
    rw [if_neg (by simp)]

theorem is26 : IsFn Tryd.prog 26 Tryd.f26 := ⟨by kernel_rfl, by kernel_rfl, by kernel_rfl, by kernel_rfl⟩
theorem is60 : IsFn Tryd.prog 60 Tryd.f60 := ⟨by kernel_rfl, by kernel_rfl, by kernel_rfl, by kernel_rfl⟩
theorem is81 : IsFn Tryd.prog 81 Tryd.f81 := ⟨by kernel_rfl, by kernel_rfl, by kernel_rfl, by kernel_rfl⟩
theorem is38 : IsFn Tryd.prog 38 Tryd.f38 := ⟨by kernel_rfl, by kernel_rfl, by kernel_rfl, by kernel_rfl⟩
theorem is113 : IsFn Tryd.prog 113 Tryd.f113 := ⟨by kernel_rfl, by kernel_rfl, by kernel_rfl, by kernel_rfl⟩
theorem is124 : IsFn Tryd.prog 124 Tryd.f124 := ⟨by kernel_rfl, by kernel_rfl, by kernel_rfl, by kernel_rfl⟩
theorem results113 : Tryd.f113.results.toList = [.tmp 4] := by kernel_rfl
theorem results38 : Tryd.f38.results.toList = [.cell 2 35, .tmp 3] := by kernel_rfl
theorem RcS.old {h h' : Heap} {v : Value} {P : List RecD} (x : RcS h v P) (o : Old h h') : RcS h' v P := x.mono o
/-- own -/
theorem r26 {h : Heap} (hG : 4 ≤ h.n0) {v : Value} {L : List RecD} (x : RcS h v L) (hl : L.length ≤ 1000000) : ∃ v' h', CW 26 [v] h = some (v', h') ∧ Old h h' ∧ RSl h' v' L ∧ gR v' := by
  obtain ⟨v', h', e, o, r, g⟩ := app_recs x hl
  have b0 : bslR 39 (.agg #[(.int .u8 0), (.int .u8 0), (.int .u8 0), (.int .u8 0), (.int .u8 0), (.int .u8 0), (.int .u8 0), (.int .u8 0), (.int .u8 0), (.int .u8 0), (.int .u8 0), (.int .u8 0), (.int .u8 0), (.int .u8 0), (.int .u8 0), (.int .u8 0), (.int .u8 0), (.int .u8 0), (.int .u8 0), (.int .u8 0), (.int .u8 0), (.int .u8 0), (.int .u8 0), (.int .u8 0), (.int .u8 0), (.int .u8 0), (.int .u8 0), (.int .u8 0), (.int .u8 0), (.int .u8 0), (.int .u8 0), (.int .u8 0), (.int .u8 0), (.int .i64 0), (.int .u64 0), (.int .u64 0), (.bool false), (.int .i64 0), (.int .i64 0)]) 0 [] h = some (.slice (some ⟨h.next, 0, none⟩) 0 0, h.alloc []) := rfl
  refine ⟨v', h', CW_body is26 hG rfl ((t26_eq _ _ _).trans ?_), o, r, g⟩
  unfold t26
  simp -implicitDefEqProofs only [b0, e, thenV_some, pu_some]
set_option maxRecDepth 100000 in
/-- IndexFunc -/
theorem r113 {h : Heap} (hG : 4 ≤ h.n0) {v fv : Value} {L : List RecD} (hv : RSl h v L) (hl : L.length ≤ 1000000) (p : RecD → Bool) (hp : ∀ r ∈ L, r.Wf → ∀ g, Old h g → ∃ g', callA Tryd.prog CW fv [.agg (recC r).toArray] g = some (.bool (p r), g') ∧ Old g g') :
    ∃ (k : Int) (h' : Heap), CW 113 [v, fv] h = some (.int .i64 k, h') ∧ Old h h' ∧ decide (k ≥ 0) = L.any p := by
  have hll := hv.len
  have key : ∃ o : Out, t113 CW v fv h = o ∧ ∃ (k : Int) (h' : Heap), o = some (.int .i64 k, h') ∧ Old h h' ∧ decide (k ≥ 0) = L.any p := by
    refine ⟨_, rfl, ?_⟩
    unfold t113
    simp -implicitDefEqProofs only [hll, thenV_some, pu_some]
    refine endL_fin (n := 19) (fin := fun ex y g => Old h g ∧ ((ex = .exit 0 ∧ L.any p = false) ∨ (ex = .ret ∧ L.any p = true ∧ ∃ i : Nat, y 4 = i64n i))) (Q := fun o : Out => ∃ (k : Int) (h' : Heap), o = some (.int .i64 k, h') ∧ Old h h' ∧ decide (k ≥ 0) = L.any p)
      (loop_fin (t113l113_1010_eq CW) (Inv := fun k y g => ∃ i, i + k = L.length ∧ y 0 = v ∧ y 1 = fv ∧ y 7 = i64n L.length ∧ y 8 = i64n i ∧ Old h g ∧ L.any p = (L.drop i).any p) ?_ L.length (by have : rounds = 18446744073709551616 := rfl; omega) ⟨0, by omega, rfl, rfl, rfl, rfl, Kept.refl _ _, by rw [List.drop_zero]⟩) ?_
    · rintro k y g ⟨i, hik, y0, y1, y7, y8, O, ha⟩
      unfold t113l113_1010
      simp -implicitDefEqProofs only [y7, y8, lss3, thenV_some, pu_some]
      by_cases hi : i < L.length
      · obtain ⟨b, o, ix, wr, mr, lp⟩ := hv.at hi
        have hd : L.drop i = L.getD i RecD.z :: L.drop (i + 1) := by
          rw [List.drop_eq_getElem_cons hi, List.getD_eq_getElem?_getD, List.getElem?_eq_getElem hi]
          rfl
        rw [hd, List.any_cons] at ha
        generalize L.getD i RecD.z = r at *
        have L1 := lp g O
        obtain ⟨g', e', o'⟩ := hp r mr wr g O
        cases hpr : p r with
        | true =>
          rw [hpr] at e'
          rw [hpr, Bool.true_or] at ha
          simp -implicitDefEqProofs only [decide_eq_true hi, y0, y1, ix, L1, e', thenV_some, pu_some]
          exact Rnd.ret ⟨O.trans o', .inr ⟨rfl, ha, i, rfl⟩⟩
        | false =>
          rw [hpr] at e'
          rw [hpr, Bool.false_or] at ha
          have a8 : bin Tryd.prog .add 3 (i64n i) (.int .i64 1) = some (i64n (i + 1)) := add31 (by omega)
          simp -implicitDefEqProofs only [decide_eq_true hi, y0, y1, y8, ix, L1, e', a8, thenV_some, pu_some]
          exact Rnd.next (k - 1) (by omega) ⟨i + 1, by omega, y0, y1, y7, rfl, O.trans o', ha⟩
      · have hiE : i = L.length := by omega
        rw [hiE, List.drop_length] at ha
        simp -implicitDefEqProofs only [decide_eq_false hi, thenV_some, pu_some]
        exact Rnd.out 0 ⟨O, .inl ⟨rfl, ha⟩⟩
    · rintro ex z g ⟨O, ⟨rfl, ha⟩ | ⟨rfl, ha, i, z4⟩⟩
      · simp -implicitDefEqProofs only [endL_exit, b113_3, if_true, t113k113_1_eq]
        unfold t113k113_1
        exact ⟨-1, g, rfl, O, by rw [ha]; rfl⟩
      · rw [endL_ret, res_one results113 (by decide), z4]
        refine ⟨i, g, rfl, O, ?_⟩
        rw [ha, decide_eq_true (by omega)]
  obtain ⟨o9, e, k, h', e', q⟩ := key
  exact ⟨k, h', CW_body is113 hG rfl ((t113_eq _ _ _ _).trans (e.trans e')), q⟩
/-- ContainsFunc -/
theorem r60 {h : Heap} (hG : 4 ≤ h.n0) {v fv : Value} {L : List RecD} (hv : RSl h v L) (hl : L.length ≤ 1000000) (p : RecD → Bool) (hp : ∀ r ∈ L, r.Wf → ∀ g, Old h g → ∃ g', callA Tryd.prog CW fv [.agg (recC r).toArray] g = some (.bool (p r), g') ∧ Old g g') :
    ∃ h', CW 60 [v, fv] h = some (.bool (L.any p), h') ∧ Old h h' := by
  obtain ⟨k, h', e, o, q⟩ := r113 hG hv hl p hp
  have ge : bin Tryd.prog .geq 3 (.int .i64 k) (.int .i64 0) = some (.bool (L.any p)) := by rw [bin_geq, q]
  refine ⟨h', CW_body is60 hG rfl ((t60_eq _ _ _ _).trans ?_), o⟩
  unfold t60
  simp -implicitDefEqProofs only [e, ge, thenV_some, pu_some]
theorem fs_124 : Nat.ble 125 Tryd.prog.funcs.size = true := by kernel_rfl
theorem call124 (args : List Value) (h : Heap) : callA Tryd.prog CW (.func (.func 124) #[] #[]) args h = CW 124 args h := by
  have hf := Nat.le_of_ble_eq_true fs_124
  unfold callA
  simp only
  generalize Tryd.prog.funcs.size = n at *
  rw [if_pos (show (124 : Nat) < n by omega), List.nil_append, List.append_nil]
/-- The closure of invalid. -/
theorem r124 {h : Heap} (hG : 4 ≤ h.n0) {r : RecD} (w : r.Wf) : ∃ h', CW 124 [.agg (recC r).toArray] h = some (.bool (!(recB r)), h') ∧ Old h h' := by
  obtain ⟨h1, b1, o1, g1, n1⟩ := rec_box2 h w
  have L1 := ldN_all g1 (rec_cells w).1 (rec_cells w).2.1
  obtain ⟨h2, e2, o2⟩ := r42 (h := h1) (by rw [o1.n0]; exact hG) w
  refine ⟨h2, CW_body is124 hG rfl ((t124_eq _ _ _).trans ?_), o1.trans o2⟩
  unfold t124
  simp -implicitDefEqProofs only [b1, L1, e2, unA_not, thenV_some, pu_some]
/-- Whether a record of the list is not valid. -/
def invB (L : List RecD) : Bool := L.any fun r => !(recB r)
theorem invB_false {L : List RecD} (h : invB L = false) : ∀ r ∈ L, recB r = true := by
  intro r hr
  unfold invB at h
  rw [List.any_eq_false] at h
  have := h r hr
  simpa using this
/-- invalid -/
theorem r81 {h : Heap} (hG : 4 ≤ h.n0) {v : Value} {L : List RecD} (hv : RSl h v L) (hl : L.length ≤ 1000000) : ∃ h', CW 81 [v] h = some (.bool (invB L), h') ∧ Old h h' := by
  obtain ⟨h', e, o⟩ := r60 hG (fv := .func (.func 124) #[] #[]) hv hl (fun r => !(recB r)) (fun r _ w g og => by
    rw [call124]
    exact r124 (by rw [og.n0]; exact hG) w)
  refine ⟨h', CW_body is81 hG rfl ((t81_eq _ _ _).trans ?_), o⟩
  unfold t81
  have e : CW 60 [v, .func (.func 124) #[] #[]] h = some (.bool (invB L), h') := e
  simp -implicitDefEqProofs only [e, thenV_some, pu_some]
/-- What Root returns. -/
def rootV (L : List RecD) : List Nat := if invB L then z32 else treeV L
def rootE (L : List RecD) : Int := if invB L then 2 else 0
theorem rootV_ok (L : List RecD) : D32 (rootV L) := by
  unfold rootV
  split
  · exact z32_ok
  · exact treeV_ok L
theorem bld32 : bldR (List.replicate 32 (.int .u8 0)) [] = some (.agg (u8s z32).toArray) := rfl
set_option maxRecDepth 100000 in
/-- Root -/
theorem r38 {h : Heap} (hG : 4 ≤ h.n0) (hz : h.get 3 = some roundsL) {v : Value} {L : List RecD} (hv : RSl h v L) (hl : L.length ≤ 1000000) :
    ∃ h', CW 38 [v] h = some (.tuple #[.agg (u8s (rootV L)).toArray, .int .i64 (rootE L)], h') ∧ Old h h' := by
  obtain ⟨h1, z1, o1, g1, n1⟩ := fresh (List.replicate 32 (.int .u8 0)) h
  obtain ⟨h2, e2, o2⟩ := r81 (h := h1) (by rw [o1.n0]; exact hG) (hv.mono o1) hl
  have O2 := o1.trans o2
  cases hb : invB L with
  | true =>
    rw [hb] at e2
    have ev : rootV L = z32 := by unfold rootV; rw [hb]; rfl
    have ee : rootE L = 2 := by unfold rootE; rw [hb]; rfl
    rw [ev, ee]
    have dz := dig_cells z32_ok
    obtain ⟨h3, e3, k3, g3, _, n3⟩ := stored_all (n := 32) (k' := u8s z32) (Old.get o2 g1) (by rw [O2.n0]; exact h.n0_le_next) rfl dz.1 dz.2.2
    have L3 := ldN_all g3 dz.1 dz.2.1
    refine ⟨h3, CW_body is38 hG rfl ((t38_eq _ _ _).trans ?_), Old.of_new O2 k3 (Nat.le_refl _)⟩
    unfold t38
    simp -implicitDefEqProofs only [z1, e2, bld32, e3, thenV_some, pu_some]
    exact res_cell_tmp results38 agg35 size32 (by decide) (by decide) _ L3
  | false =>
    rw [hb] at e2
    have ev : rootV L = treeV L := by unfold rootV; rw [hb]; rfl
    have ee : rootE L = 0 := by unfold rootE; rw [hb]; rfl
    rw [ev, ee]
    obtain ⟨h3, e3, o3⟩ := r54 (h := h2) (by rw [O2.n0]; exact hG) (Old.get O2 hz) (hv.mono O2) (invB_false hb) hl
    have O3 := O2.trans o3
    have dz := dig_cells (treeV_ok L)
    obtain ⟨h4, e4, k4, g4, _, n4⟩ := stored_all (n := 32) (k' := u8s (treeV L)) (Old.get (o2.trans o3) g1) (by rw [O3.n0]; exact h.n0_le_next) rfl dz.1 dz.2.2
    have L4 := ldN_all g4 dz.1 dz.2.1
    refine ⟨h4, CW_body is38 hG rfl ((t38_eq _ _ _).trans ?_), Old.of_new O3 k4 (Nat.le_refl _)⟩
    unfold t38
    simp -implicitDefEqProofs only [z1, e2, e3, e4, thenV_some, pu_some]
    exact res_cell_tmp results38 agg35 size32 (by decide) (by decide) _ L4
end Go.Proofs.YtdnahgfgoajmcaaDoor

namespace Go.Proofs.YtdnahgfgoajmcaaDoor
open Go Go.Abs
attribute [local congr] thenV_congr
theorem getD_set {T : List (List Nat)} {j i : Nat} {p : List Nat} (hj : j < T.length) : (T.set j p).getD i [] = if i = j then p else T.getD i [] := by
  rw [List.getD_eq_getElem?_getD, List.getElem?_set]
  by_cases c : j = i
  · subst c
    rw [if_pos rfl, if_pos hj, if_pos rfl]
    rfl
  · rw [if_neg c, if_neg (fun e => c e.symm), List.getD_eq_getElem?_getD]
theorem digsC_set {T : List (List Nat)} {p : List Nat} (hd : ∀ t ∈ T, D32 t) (dp : D32 p) {j : Nat} (hj : j < T.length) (X : List Value) : splice (digsC T ++ X) (j * 32) (u8s p) = digsC (T.set j p) ++ X := by
  have e1 : T = T.take j ++ T.getD j [] :: T.drop (j + 1) := by
    rw [List.getD_eq_getElem?_getD, List.getElem?_eq_getElem hj, Option.getD_some, ← List.drop_eq_getElem_cons hj, List.take_append_drop]
  have e2 : T.set j p = T.take j ++ p :: T.drop (j + 1) := by rw [List.set_eq_take_append_cons_drop, if_pos hj]
  have dt : D32 (T.getD j []) := hd _ (by
    rw [List.getD_eq_getElem?_getD, List.getElem?_eq_getElem hj]
    exact List.getElem_mem hj)
  have l1 : (digsC (T.take j)).length = j * 32 := by
    rw [digsC_len (fun t ht => hd t (List.mem_of_mem_take ht)), List.length_take, Nat.min_eq_left (by omega)]
  rw [e2]
  conv => lhs; rw [e1]
  rw [digsC_app, digsC_app, show digsC (T.getD j [] :: T.drop (j + 1)) = u8s (T.getD j []) ++ digsC (T.drop (j + 1)) from List.flatMap_cons, show digsC (p :: T.drop (j + 1)) = u8s p ++ digsC (T.drop (j + 1)) from List.flatMap_cons, List.append_assoc, List.append_assoc, List.append_assoc, List.append_assoc]
  exact splice_app l1 (dig_cells dt).1 (dig_cells dp).1
theorem Stk.set {h : Heap} {N : Nat} {v : Value} {T : List (List Nat)} {p : List Nat} {j : Nat} (x : Stk h N v T) (h0 : h.n0 ≤ N) (dp : D32 p) (hj : j < T.length) :
    ∃ b o h', idxS 32 v (i64n j) = some (ptr b o) ∧ stN 32 (ptr b o) (.agg (u8s p).toArray) h = some (undef, h') ∧ Stk h' N v (T.set j p) ∧ Kept h h' (fun b => stB v = some b) := by
  rcases x.form with ⟨e, _⟩ | ⟨b, m, X, rfl, h1, h2, h3, h4, h5, h6⟩
  · rw [e] at hj; exact absurd hj (Nat.not_lt_zero j)
  · have cp := dig_cells dp
    have hl := digsC_len x.dig
    have hm := mul_le (z := 32) hj
    have dT : ∀ t ∈ T.set j p, D32 t := fun t ht => by
      rcases List.mem_or_eq_of_mem_set ht with h | h
      · exact x.dig t h
      · rw [h]; exact dp
    refine ⟨b, 0 + j * 32, h.set b (digsC (T.set j p) ++ X), ?_, ?_, ⟨dT, .inr ⟨b, m, X, by rw [List.length_set], h1, by rw [List.length_set]; exact h2, Heap.get_set_same (by omega) h3 _, by rw [List.length_set]; exact h4, h5, h6⟩⟩, Kept.set (by omega) h3 (.inr rfl)⟩
    · unfold idxS i64n
      simp only
      rw [if_pos (by omega), Int.toNat_natCast]
    · have e1 : (Value.agg (u8s p).toArray).cells = (u8s p).toArray := rfl
      unfold stN ptr
      simp only [e1, List.size_toArray, cp.1, if_true]
      unfold stL
      rw [h3]
      simp only
      rw [if_pos (by
        rw [cp.2.2, decide_eq_true (show h.n0 ≤ b by omega), decide_eq_true (by rw [List.length_append, cp.1, hl]; omega)]
        rfl), Nat.zero_add, digsC_set x.dig dp hj X]
      rfl
theorem is84 : IsFn Tryd.prog 84 Tryd.f84 := ⟨by kernel_rfl, by kernel_rfl, by kernel_rfl, by kernel_rfl⟩
theorem results84 : Tryd.f84.results.toList = [] := by kernel_rfl
theorem list_ext_getD {A B : List (List Nat)} (hl : A.length = B.length) (h : ∀ j, j < A.length → A.getD j [] = B.getD j []) : A = B := by
  refine List.ext_getElem hl fun j h1 h2 => ?_
  have := h j h1
  rw [List.getD_eq_getElem?_getD, List.getD_eq_getElem?_getD, List.getElem?_eq_getElem h1, List.getElem?_eq_getElem h2] at this
  exact this
theorem getD_rev {T : List (List Nat)} {j : Nat} (hj : j < T.length) : T.reverse.getD j [] = T.getD (T.length - 1 - j) [] := by
  rw [List.getD_eq_getElem?_getD, List.getElem?_reverse hj, List.getD_eq_getElem?_getD]
set_option maxRecDepth 100000 in
/-- Reverse -/
theorem r84 {h : Heap} (hG : 4 ≤ h.n0) {N : Nat} (hN : h.n0 ≤ N) {v : Value} {T : List (List Nat)} (x : Stk h N v T) (hl : T.length ≤ 1000000) :
    ∃ h', CW 84 [v] h = some (.tuple #[], h') ∧ Stk h' N v T.reverse ∧ Kept h h' (fun b => stB v = some b) := by
  have hll := x.len
  have key : ∃ o : Out, t84 CW v h = o ∧ ∃ h', o = some (.tuple #[], h') ∧ Stk h' N v T.reverse ∧ Kept h h' (fun b => stB v = some b) := by
    refine ⟨_, rfl, ?_⟩
    unfold t84
    have sb : bin Tryd.prog .sub 3 (i64n T.length) (.int .i64 1) = some (.int .i64 ((T.length : Int) - 1)) := by
      unfold i64n
      rw [bin_sub, wrap_i64 (by omega) (by omega)]
    simp -implicitDefEqProofs only [hll, sb, thenV_some, pu_some]
    refine endL_fin (n := 28) (fin := fun ex y g => ex = .exit 0 ∧ Stk g N v T.reverse ∧ Kept h g (fun b => stB v = some b)) (Q := fun o : Out => ∃ h', o = some (.tuple #[], h') ∧ Stk h' N v T.reverse ∧ Kept h h' (fun b => stB v = some b))
      (loop_fin (t84l84_10_eq CW) (Inv := fun k y g => ∃ i T', i + k = T.length ∧ 2 * i ≤ T.length + 1 ∧ y 0 = v ∧ y 2 = i64n i ∧ y 3 = .int .i64 ((T.length : Int) - 1 - i) ∧ Stk g N v T' ∧ Kept h g (fun b => stB v = some b) ∧ T'.length = T.length ∧ ∀ j, j < T.length → T'.getD j [] = if j < i ∨ T.length - i ≤ j then T.getD (T.length - 1 - j) [] else T.getD j []) ?_ T.length (by have : rounds = 18446744073709551616 := rfl; omega) ⟨0, T, by omega, by omega, rfl, rfl, by show Value.int .i64 _ = _; congr 1; omega, x, Kept.refl _ _, rfl, fun j hj => by rw [if_neg (by omega)]⟩) ?_
    · rintro k y g ⟨i, T', hik, hi2, y0, y2, y3, sk, K, hT', hget⟩
      have ls : bin Tryd.prog .lss 3 (i64n i) (.int .i64 ((T.length : Int) - 1 - i)) = some (.bool (decide (i + i + 1 < T.length))) := by
        unfold i64n
        rw [bin_lss]
        congr 2
        rw [decide_eq_decide]
        omega
      unfold t84l84_10
      simp -implicitDefEqProofs only [y0, y2, y3, ls, thenV_some, pu_some]
      by_cases c : i + i + 1 < T.length
      · obtain ⟨jN, hjN⟩ : ∃ j : Nat, j = T.length - 1 - i := ⟨_, rfl⟩
        have ej : ((T.length : Int) - 1 - i) = (jN : Int) := by omega
        rw [ej]
        obtain ⟨P, _⟩ := sk.pr
        obtain ⟨b1, o1, ix1, _, lp1⟩ := P.2.2 jN (by omega)
        obtain ⟨b2, o2, ix2, _, lp2⟩ := P.2.2 i (by omega)
        have L1 := lp1 g rfl
        have L2 := lp2 g rfl
        have d1 : D32 (T'.getD jN []) := sk.dig _ (by
          rw [List.getD_eq_getElem?_getD, List.getElem?_eq_getElem (by omega)]
          exact List.getElem_mem _)
        have d2 : D32 (T'.getD i []) := sk.dig _ (by
          rw [List.getD_eq_getElem?_getD, List.getElem?_eq_getElem (by omega)]
          exact List.getElem_mem _)
        have n0 : g.n0 ≤ N := by rw [K.n0]; exact hN
        have w1 := hget jN (by omega)
        have w2 := hget i (by omega)
        rw [if_neg (by omega)] at w1 w2
        rw [w1] at L1 d1
        rw [w2] at L2 d2
        obtain ⟨b3, o3, g3, ix3, e3, sk3, k3⟩ := sk.set (j := i) (p := T.getD jN []) n0 d1 (by omega)
        obtain ⟨b4, o4, g4, ix4, e4, sk4, k4⟩ := sk3.set (j := jN) (p := T.getD i []) (by rw [k3.n0]; exact n0) d2 (by rw [List.length_set]; omega)
        have ix1' : idxS 32 v (.int .i64 (jN : Int)) = some (ptr b1 o1) := ix1
        have ix4' : idxS 32 v (.int .i64 (jN : Int)) = some (ptr b4 o4) := ix4
        have a2 : bin Tryd.prog .add 3 (i64n i) (.int .i64 1) = some (i64n (i + 1)) := add31 (by omega)
        have s3 : bin Tryd.prog .sub 3 (.int .i64 (jN : Int)) (.int .i64 1) = some (.int .i64 ((T.length : Int) - 1 - (i + 1 : Nat))) := by
          rw [bin_sub, wrap_i64 (by omega) (by omega)]
          congr 2
          omega
        have q1 : ptr b1 o1 = ptr b4 o4 := Option.some.inj (ix1'.symm.trans ix4')
        have q2 : ptr b2 o2 = ptr b3 o3 := Option.some.inj (ix2.symm.trans ix3)
        rw [← q1] at e4
        rw [← q2] at e3
        simp -implicitDefEqProofs only [decide_eq_true c, ix1', ix2, L1, L2, e3, e4, a2, s3, thenV_some, pu_some]
        refine Rnd.next (k - 1) (by omega) ⟨i + 1, (T'.set i (T.getD jN [])).set jN (T.getD i []), by omega, by omega, y0, rfl, rfl, sk4, (K.trans k3).trans k4, by rw [List.length_set, List.length_set]; exact hT', fun j hj => ?_⟩
        rw [getD_set (by rw [List.length_set]; omega), getD_set (by omega)]
        by_cases c1 : j = jN
        · subst c1
          rw [if_pos rfl, if_pos (by omega), show T.length - 1 - j = i by omega]
        · rw [if_neg c1]
          by_cases c2 : j = i
          · subst c2
            rw [if_pos rfl, if_pos (by omega), hjN]
          · rw [if_neg c2, hget j hj]
            by_cases c3 : j < i ∨ T.length - i ≤ j
            · rw [if_pos c3, if_pos (by omega)]
            · rw [if_neg c3, if_neg (by omega)]
      · simp -implicitDefEqProofs only [decide_eq_false c, thenV_some, pu_some]
        have e : T' = T.reverse := by
          refine list_ext_getD (by rw [hT', List.length_reverse]) fun j hj => ?_
          rw [hT'] at hj
          rw [hget j hj, getD_rev hj]
          by_cases c3 : j < i ∨ T.length - i ≤ j
          · rw [if_pos c3]
          · rw [if_neg c3, show T.length - 1 - j = j by omega]
        rw [e] at sk
        exact Rnd.out 0 ⟨rfl, sk, K⟩
    · rintro ex z g ⟨rfl, s, K⟩
      simp -implicitDefEqProofs only [endL_exit, b84_1, if_true]
      rw [results84]
      exact ⟨g, rfl, s, K⟩
  obtain ⟨o9, e, h', e', q⟩ := key
  exact ⟨h', CW_body is84 hG rfl ((t84_eq _ _ _).trans (e.trans e')), q⟩
end Go.Proofs.YtdnahgfgoajmcaaDoor

namespace Go.Proofs.YtdnahgfgoajmcaaDoor
open Go Go.Abs
attribute [local congr] thenV_congr
/-- The hashes beside the way to a record, from the root down. -/
def pathG : Nat → List RecD → Nat → List (List Nat)
  | 0, _, _ => []
  | f + 1, M, i => if M.length ≤ 1 then [] else if i < halfN M.length then treeV (M.drop (halfN M.length)) :: pathG f (M.take (halfN M.length)) i else treeV (M.take (halfN M.length)) :: pathG f (M.drop (halfN M.length)) (i - halfN M.length)
theorem pathG_s (f : Nat) (M : List RecD) (i : Nat) : pathG (f + 1) M i = if M.length ≤ 1 then [] else if i < halfN M.length then treeV (M.drop (halfN M.length)) :: pathG f (M.take (halfN M.length)) i else treeV (M.take (halfN M.length)) :: pathG f (M.drop (halfN M.length)) (i - halfN M.length) := rfl
theorem pathG_one (f : Nat) {M : List RecD} (i : Nat) (h : M.length ≤ 1) : pathG f M i = [] := by
  cases f with
  | zero => rfl
  | succ f => rw [pathG_s, if_pos h]
theorem pathG_len : ∀ (f : Nat) (M : List RecD) (i : Nat), (pathG f M i).length ≤ f
  | 0, _, _ => Nat.le_refl _
  | f + 1, M, i => by
    rw [pathG_s]
    split
    · exact Nat.zero_le _
    · split
      · rw [List.length_cons]
        exact Nat.succ_le_succ (pathG_len f _ _)
      · rw [List.length_cons]
        exact Nat.succ_le_succ (pathG_len f _ _)
theorem is40 : IsFn Tryd.prog 40 Tryd.f40 := ⟨by kernel_rfl, by kernel_rfl, by kernel_rfl, by kernel_rfl⟩
set_option maxRecDepth 100000 in
/-- The loop of Prove. -/
theorem prv1 {h : Heap} (hG : 4 ≤ h.n0) (hz : h.get 3 = some roundsL) {N : Nat} (hN : N = h.next) {L : List RecD} {i : Nat} {v : Value} (hv : RSl h v L) (hg : gR v) (hval : ∀ r ∈ L, recB r = true) (hi : i < L.length) (hl : L.length ≤ 128)
    {x : Nat → Value} (x1 : x 1 = i64n i) (x6 : x 6 = .slice none 0 0) (x7 : x 7 = v) :
    Fin 57 (fun ex y g => ex = .exit 0 ∧ Old h g ∧ Stk g N (y 6) (pathG L.length L i)) (iter (codeA Tryd.prog CW (partOf Tryd.f40 [1, 1, 1, 0, 1, 0, 0])) rounds (mkF 57 x) h) := by
  refine loop_fin (t40l40_111010_eq CW) (Inv := fun k y g => ∃ i' M w Q, y 1 = i64n i' ∧ y 6 = Q.1 ∧ y 7 = w ∧ i' < M.length ∧ M.length ≤ k ∧ k ≤ L.length ∧ Q.2.length + k = L.length ∧ Old h g ∧ RSl h w M ∧ gR w ∧ (∀ r ∈ M, recB r = true) ∧ Stk g N Q.1 Q.2 ∧ Q.2 ++ pathG k M i' = pathG L.length L i) ?_ L.length (by have : rounds = 18446744073709551616 := rfl; omega) ⟨i, L, v, (.slice none 0 0, []), x1, x6, x7, hi, Nat.le_refl _, Nat.le_refl _, by rw [List.length_nil]; omega, Kept.refl _ _, hv, hg, hval, Stk.nil h N, rfl⟩
  rintro k y g ⟨i', M, w, ⟨vs, Q⟩, y1, y6, y7, hi', hM, hk, hQ, O, rs, gr, hva, sk, hp⟩
  have hll := rs.len
  have gt : bin Tryd.prog .gtr 3 (i64n M.length) (.int .i64 1) = some (.bool (decide (1 < M.length))) := by
    unfold i64n
    rw [bin_gtr]
    congr 2
    rw [decide_eq_decide]
    omega
  unfold t40l40_111010
  simp -implicitDefEqProofs only [y7, hll, gt, thenV_some, pu_some]
  by_cases c : 1 < M.length
  · have e83 := r83 (h := g) (n := M.length) (by rw [O.n0]; exact hG) (by omega) (by omega)
    have hh1 := half_pos M.length
    have hh2 := half_lt (n := M.length) (by omega)
    have q2 : bin Tryd.prog .lss 3 (i64n i') (i64n (halfN M.length)) = some (.bool (decide (i' < halfN M.length))) := lss3 ..
    obtain ⟨wt, et, rt, gt'⟩ := rs.take gr hh2
    obtain ⟨wd, ed, rd, gd⟩ := rs.drop gr hh2
    have lt : (M.take (halfN M.length)).length = halfN M.length := by rw [List.length_take]; omega
    have ld : (M.drop (halfN M.length)).length = M.length - halfN M.length := List.length_drop
    have ht : ∀ r ∈ M.take (halfN M.length), recB r = true := fun r hr => hva r (List.mem_of_mem_take hr)
    have hd : ∀ r ∈ M.drop (halfN M.length), recB r = true := fun r hr => hva r (List.mem_of_mem_drop hr)
    cases k with
    | zero => omega
    | succ k =>
      rw [pathG_s, if_neg (by omega)] at hp
      have sk := sk
      have hQl : Q.length ≤ 1000000 := by have : Q.length + (k + 1) = L.length := hQ; omega
      by_cases c2 : i' < halfN M.length
      · rw [decide_eq_true c2] at q2
        rw [if_pos c2] at hp
        obtain ⟨g2, e2, o2⟩ := r54 (h := g) (by rw [O.n0]; exact hG) (Old.get O hz) (rd.mono O) hd (by omega)
        have dt := treeV_ok (M.drop (halfN M.length))
        have O2 := O.trans o2
        have b3 := bsl_dig g2 dt
        have o3 : Old g2 (g2.alloc (u8s (treeV (M.drop (halfN M.length))))) := Kept.alloc _ _ _
        have q3 : (g2.alloc (u8s (treeV (M.drop (halfN M.length))))).get g2.next = some (u8s (treeV (M.drop (halfN M.length)))) := by rw [Heap.get_alloc, if_pos rfl]
        obtain ⟨v4, g4, e4, sk4, k4, _⟩ := ((sk.old o2).old o3).push (c := g2.next) (by rw [o3.n0, O2.n0]; have := h.n0_le_next; omega) (by have := O2.next; have := o3.next; omega) dt hQl q3
        have O4 : Old h g4 := (O2.trans o3).also k4 (fun b' hb' hs => by
          have := (((sk.old o2).old o3).lt hs).1
          omega)
        simp -implicitDefEqProofs only [decide_eq_true c, y1, y6, e83, q2, ed, e2, b3, e4, et, thenV_some, pu_some]
        refine Rnd.next k (by omega) ⟨i', M.take (halfN M.length), wt, (v4, Q ++ [treeV (M.drop (halfN M.length))]), y1, rfl, rfl, by omega, by omega, by omega, ?_, O4, rt, gt', ht, sk4, ?_⟩
        · show (Q ++ [_]).length + k = L.length
          rw [List.length_append, List.length_singleton]
          have : Q.length + (k + 1) = L.length := hQ
          omega
        · rw [← hp, List.append_assoc]
          rfl
      · rw [decide_eq_false c2] at q2
        rw [if_neg c2] at hp
        obtain ⟨g2, e2, o2⟩ := r54 (h := g) (by rw [O.n0]; exact hG) (Old.get O hz) (rt.mono O) ht (by omega)
        have dt := treeV_ok (M.take (halfN M.length))
        have O2 := O.trans o2
        have b3 := bsl_dig g2 dt
        have o3 : Old g2 (g2.alloc (u8s (treeV (M.take (halfN M.length))))) := Kept.alloc _ _ _
        have q3 : (g2.alloc (u8s (treeV (M.take (halfN M.length))))).get g2.next = some (u8s (treeV (M.take (halfN M.length)))) := by rw [Heap.get_alloc, if_pos rfl]
        obtain ⟨v4, g4, e4, sk4, k4, _⟩ := ((sk.old o2).old o3).push (c := g2.next) (by rw [o3.n0, O2.n0]; have := h.n0_le_next; omega) (by have := O2.next; have := o3.next; omega) dt hQl q3
        have O4 : Old h g4 := (O2.trans o3).also k4 (fun b' hb' hs => by
          have := (((sk.old o2).old o3).lt hs).1
          omega)
        have s5 := sub_nn (a := i') (b := halfN M.length) (by omega) (by omega)
        simp -implicitDefEqProofs only [decide_eq_true c, y1, y6, e83, q2, et, e2, b3, e4, ed, s5, thenV_some, pu_some]
        refine Rnd.next k (by omega) ⟨i' - halfN M.length, M.drop (halfN M.length), wd, (v4, Q ++ [treeV (M.take (halfN M.length))]), rfl, rfl, rfl, by omega, by omega, by omega, ?_, O4, rd, gd, hd, sk4, ?_⟩
        · show (Q ++ [_]).length + k = L.length
          rw [List.length_append, List.length_singleton]
          have : Q.length + (k + 1) = L.length := hQ
          omega
        · rw [← hp, List.append_assoc]
          rfl
  · simp -implicitDefEqProofs only [decide_eq_false c, thenV_some, pu_some]
    rw [pathG_one k i' (by omega), List.append_nil] at hp
    refine Rnd.out 0 ⟨rfl, O, ?_⟩
    show Stk g N (y 6) _
    rw [y6, ← hp]
    exact sk
/-- Whether Prove refuses. -/
def prvB (L : List RecD) (i : Int) : Bool := invB L || decide (i < 0) || decide (i ≥ L.length)
set_option maxRecDepth 100000 in
/-- Prove -/
theorem r40 {h : Heap} (hG : 4 ≤ h.n0) (hz : h.get 3 = some roundsL) {L : List RecD} {i : Int} {v : Value} (hv : RSl h v L) (hg : gR v) (hl : L.length ≤ 128) :
    ∃ w h', CW 40 [v, .int .i64 i] h = some (.tuple #[w, .int .i64 (if prvB L i then 2 else 0)], h') ∧ Old h h' ∧ Stk h' h.next w (if prvB L i then [] else (pathG L.length L i.toNat).reverse) := by
  obtain ⟨h1, e1, o1⟩ := r81 (h := h) hG hv (by omega)
  have hll := hv.len
  have lt0 : bin Tryd.prog .lss 3 (.int .i64 i) (.int .i64 0) = some (.bool (decide (i < 0))) := bin_lss ..
  have ge : bin Tryd.prog .geq 3 (.int .i64 i) (i64n L.length) = some (.bool (decide (i ≥ L.length))) := bin_geq ..
  cases hb : prvB L i with
  | true =>
    refine ⟨.slice none 0 0, h1, CW_body is40 hG rfl ((t40_eq _ _ _ _).trans ?_), o1, Stk.nil _ _⟩
    unfold t40
    unfold prvB at hb
    cases c1 : invB L with
    | true =>
      rw [c1] at e1
      simp -implicitDefEqProofs only [e1, thenV_some, pu_some, bOf_bool, fs, sf, beq_self_eq_true, guardK_true, guardK_false, Bool.false_eq_true, if_false, if_true, show (some true == some false) = false from rfl]
    | false =>
      rw [c1] at e1
      cases c2 : decide (i < 0) with
      | true =>
        rw [c2] at lt0
        simp -implicitDefEqProofs only [e1, lt0, thenV_some, pu_some, bOf_bool, fs, sf, beq_self_eq_true, guardK_true, guardK_false, Bool.false_eq_true, if_false, if_true, show (some true == some false) = false from rfl]
      | false =>
        rw [c2] at lt0
        rw [c1, c2, Bool.false_or, Bool.false_or] at hb
        rw [hb] at ge
        simp -implicitDefEqProofs only [e1, lt0, hll, ge, thenV_some, pu_some, bOf_bool, fs, sf, beq_self_eq_true, guardK_true, guardK_false, Bool.false_eq_true, if_false, if_true, show (some true == some false) = false from rfl]
  | false =>
    unfold prvB at hb
    rw [Bool.or_eq_false_iff, Bool.or_eq_false_iff, decide_eq_false_iff_not, decide_eq_false_iff_not] at hb
    obtain ⟨⟨c1, c2⟩, c3⟩ := hb
    rw [c1] at e1
    rw [decide_eq_false c2] at lt0
    rw [decide_eq_false c3] at ge
    obtain ⟨j, rfl⟩ : ∃ j : Nat, i = j := ⟨i.toNat, (Int.toNat_of_nonneg (by omega)).symm⟩
    rw [Int.toNat_natCast]
    have key : ∃ o : Out, t40 CW v (.int .i64 (j : Int)) h = o ∧ ∃ w h', o = some (.tuple #[w, .int .i64 0], h') ∧ Old h h' ∧ Stk h' h.next w (pathG L.length L j).reverse := by
      refine ⟨_, rfl, ?_⟩
      unfold t40
      simp -implicitDefEqProofs only [e1, lt0, hll, ge, thenV_some, pu_some, bOf_bool, fs, sf, beq_self_eq_true, guardK_true, guardK_false, Bool.false_eq_true, if_false, if_true]
      refine endL_fin (n := 57) (Q := fun o : Out => ∃ w h', o = some (.tuple #[w, .int .i64 0], h') ∧ Old h h' ∧ Stk h' h.next w (pathG L.length L j).reverse) (prv1 (h := h1) (by rw [o1.n0]; exact hG) (Old.get o1 hz) (N := h1.next) rfl (L := L) (i := j) (v := v) (hv.mono o1) hg (invB_false c1) (by omega) hl rfl rfl rfl) ?_
      rintro _ y g ⟨rfl, O, sk⟩
      simp -implicitDefEqProofs only [endL_exit, b40_7, if_true, t40k40_5_eq]
      unfold t40k40_5
      have hpl := pathG_len L.length L j
      have O2 := o1.trans O
      obtain ⟨g2, e2, sk2, k2⟩ := r84 (h := g) (by rw [O2.n0]; exact hG) (N := h1.next) (by rw [O2.n0]; have := h.n0_le_next; have := o1.next; omega) sk (by omega)
      have O3 : Old h g2 := O2.also k2 (fun b' hb' hs => by
        have := (sk.lt hs).1
        have := o1.next
        omega)
      simp -implicitDefEqProofs only [e2, thenV_some, pu_some]
      refine ⟨y 6, g2, rfl, O3, sk2.dig, ?_⟩
      rcases sk2.form with f | ⟨b, m, X, f1, f2, f3⟩
      · exact .inl f
      · exact .inr ⟨b, m, X, f1, by have := o1.next; omega, f3⟩
    obtain ⟨o9, e, w, h', e', q⟩ := key
    exact ⟨w, h', CW_body is40 hG rfl ((t40_eq _ _ _ _).trans (e.trans e')), q⟩
end Go.Proofs.YtdnahgfgoajmcaaDoor

namespace Go.Proofs.YtdnahgfgoajmcaaDoor
open Go Go.Abs
theorem clO_len : ∀ (Q Q' : List (List Nat)) (n i : Nat) (D D' R R' : List Nat), clO Q n i D = some R → clO Q' n i D' = some R' → Q.length = Q'.length
  | [], Q', n, i, D, D', R, R', h1, h2 => by
    rw [clO_nil] at h1
    by_cases c : n = 1
    · cases Q' with
      | nil => rfl
      | cons p Q' =>
        rw [clO_cons, if_pos c] at h2
        cases h2
    · rw [if_neg c] at h1
      cases h1
  | p :: Q, Q', n, i, D, D', R, R', h1, h2 => by
    rw [clO_cons] at h1
    by_cases c : n = 1
    · rw [if_pos c] at h1
      cases h1
    · rw [if_neg c] at h1
      cases Q' with
      | nil =>
        rw [clO_nil, if_neg c] at h2
        cases h2
      | cons p' Q' =>
        rw [clO_cons, if_neg c] at h2
        rw [List.length_cons, List.length_cons]
        by_cases c2 : i < halfN n
        · rw [if_pos c2] at h1 h2
          obtain ⟨a, ha, _⟩ := Option.map_eq_some_iff.1 h1
          obtain ⟨b, hb, _⟩ := Option.map_eq_some_iff.1 h2
          rw [clO_len Q Q' _ _ _ _ _ _ ha hb]
        · rw [if_neg c2] at h1 h2
          obtain ⟨a, ha, _⟩ := Option.map_eq_some_iff.1 h1
          obtain ⟨b, hb, _⟩ := Option.map_eq_some_iff.1 h2
          rw [clO_len Q Q' _ _ _ _ _ _ ha hb]
theorem treeV_one (r : RecD) : treeV [r] = leafD r := by
  unfold treeV lvs
  rw [if_neg (by rw [List.length_singleton]; decide), List.map_cons, List.map_nil, treeN_one]
theorem treeV_two {M : List RecD} (h : 2 ≤ M.length) : treeV M = nodeR (treeV (M.take (halfN M.length))) (treeV (M.drop (halfN M.length))) := by
  have a1 := half_pos M.length
  have a2 := half_lt h
  have hl : (lvs M).length = M.length := List.length_map _
  have e : ∀ K : List RecD, K.length ≠ 0 → treeV K = treeN nodeD (lvs K) := fun K hK => by unfold treeV; rw [if_neg hK]
  rw [e M (by omega), e (M.take (halfN M.length)) (by rw [List.length_take]; omega), e (M.drop (halfN M.length)) (by rw [List.length_drop]; omega), treeN_two nodeD (L := lvs M) (by omega), hl, node_same]
  unfold lvs
  rw [← List.map_take, ← List.map_drop]
theorem path_clO : ∀ (f : Nat) (M : List RecD) (i : Nat), M.length ≤ f → i < M.length → clO (pathG f M i) M.length i (leafD (M.getD i RecD.z)) = some (treeV M)
  | 0, M, i, h, hi => by omega
  | f + 1, M, i, h, hi => by
    rw [pathG_s]
    by_cases c : M.length ≤ 1
    · rw [if_pos c, clO_nil, if_pos (by omega)]
      match M, c, hi with
      | [r], _, hi =>
        have : i = 0 := by rw [List.length_singleton] at hi; omega
        subst this
        rw [treeV_one, List.getD_cons_zero]
    · have a1 := half_pos M.length
      have a2 := half_lt (n := M.length) (by omega)
      have lt : (M.take (halfN M.length)).length = halfN M.length := by rw [List.length_take]; omega
      have ld : (M.drop (halfN M.length)).length = M.length - halfN M.length := List.length_drop
      have et := treeV_two (M := M) (by omega)
      rw [if_neg c, et]
      by_cases c2 : i < halfN M.length
      · have ih := path_clO f (M.take (halfN M.length)) i (by omega) (by omega)
        have eg : (M.take (halfN M.length)).getD i RecD.z = M.getD i RecD.z := by
          rw [List.getD_eq_getElem?_getD, List.getD_eq_getElem?_getD, List.getElem?_take, if_pos c2]
        rw [eg, lt] at ih
        rw [if_pos c2, clO_cons, if_neg (by omega), if_pos c2, ih, Option.map_some]
      · have ih := path_clO f (M.drop (halfN M.length)) (i - halfN M.length) (by omega) (by omega)
        have eg : (M.drop (halfN M.length)).getD (i - halfN M.length) RecD.z = M.getD i RecD.z := by
          rw [List.getD_eq_getElem?_getD, List.getD_eq_getElem?_getD, List.getElem?_drop, show halfN M.length + (i - halfN M.length) = i by omega]
        rw [eg, ld] at ih
        rw [if_neg c2, clO_cons, if_neg (by omega), if_neg c2, ih, Option.map_some]
theorem ver_yes {R : List Nat} {n i : Nat} {r : RecD} {P : List (List Nat)} (hv : recB r = true) (hi : i < n) (hn : n ≤ 1048576) (h : clO P.reverse n i (leafD r) = some R) : verB R n i r P = true := by
  rw [ver_same]
  unfold verR
  rw [if_pos ⟨hv, by omega, by omega, by omega⟩, Int.toNat_natCast, Int.toNat_natCast, ← leaf_same]
  rw [clG_clO] at h
  by_cases c : (clG P.reverse n i (leafD r)).2 = true
  · rw [if_pos c] at h
    rw [c, decide_eq_true (Option.some.inj h)]
    rfl
  · rw [if_neg c] at h
    cases h
theorem ver_no {R : List Nat} {n i : Nat} {r : RecD} {P : List (List Nat)} (h : clO P.reverse n i (leafD r) = none) : verB R n i r P = false := by
  rw [ver_same]
  unfold verR
  split
  · rw [Int.toNat_natCast, Int.toNat_natCast, ← leaf_same]
    rw [clG_clO] at h
    by_cases c : (clG P.reverse n i (leafD r)).2 = true
    · rw [if_pos c] at h
      cases h
    · rw [Bool.not_eq_true] at c
      rw [c]
      rfl
  · rfl
/-- The three answers of Verify that the law asks for. -/
theorem prf_law {L : List RecD} {i : Nat} (hi : i < L.length) (hl : L.length ≤ 1048576) (hv : ∀ r ∈ L, recB r = true) :
    verB (treeV L) L.length i (L.getD i RecD.z) (pathG L.length L i).reverse = true ∧
    (∀ x : List Nat, verB (treeV L) L.length i (L.getD i RecD.z) ((pathG L.length L i).reverse ++ [x]) = false) ∧
    (∀ T x, (pathG L.length L i).reverse = T ++ [x] → verB (treeV L) L.length i (L.getD i RecD.z) T = false) := by
  have e := path_clO L.length L i (Nat.le_refl _) hi
  have hm : L.getD i RecD.z ∈ L := by
    rw [List.getD_eq_getElem?_getD, List.getElem?_eq_getElem hi]
    exact List.getElem_mem hi
  refine ⟨ver_yes (hv _ hm) hi hl (by rw [List.reverse_reverse]; exact e), fun x => ver_no ?_, fun T x hT => ver_no ?_⟩
  · rw [List.reverse_append, List.reverse_reverse, List.reverse_singleton, List.singleton_append]
    cases h : clO (x :: pathG L.length L i) L.length i (leafD (L.getD i RecD.z)) with
    | none => rfl
    | some R =>
      have := clO_len _ _ _ _ _ _ _ _ h e
      rw [List.length_cons] at this
      omega
  · cases h : clO T.reverse L.length i (leafD (L.getD i RecD.z)) with
    | none => rfl
    | some R =>
      have := clO_len _ _ _ _ _ _ _ _ h e
      have h2 := congrArg List.length hT
      rw [List.length_reverse, List.length_append, List.length_singleton] at h2
      rw [List.length_reverse] at this
      omega
end Go.Proofs.YtdnahgfgoajmcaaDoor

namespace Go.Proofs.YtdnahgfgoajmcaaDoor
open Go Go.Abs
attribute [local congr] thenV_congr
theorem digsC_typed {T : List (List Nat)} (hd : ∀ t ∈ T, D32 t) : TypedN digK T.length (digsC T) := by
  refine ⟨by rw [digsC_len hd]; rfl, fun i hi => ?_⟩
  rw [show digK.length = 32 from rfl, digsC_get hd hi]
  refine dig_typed (hd _ ?_)
  rw [List.getD_eq_getElem?_getD, List.getElem?_eq_getElem hi]
  exact List.getElem_mem hi
theorem Stk.dgs {h : Heap} {N : Nat} {v : Value} {T : List (List Nat)} (x : Stk h N v T) : DgS h v T := by
  have ht := digsC_typed x.dig
  rcases x.form with ⟨rfl, rfl | ⟨b', rfl⟩⟩ | ⟨b', m, X, rfl, h1, h2, h3, h4, h5, h6⟩
  · exact ⟨x.dig, _, _, rfl, fun _ => rfl, ht, fun h => absurd h (Nat.lt_irrefl 0)⟩
  · exact ⟨x.dig, _, _, rfl, fun _ => rfl, ht, fun h => absurd h (Nat.lt_irrefl 0)⟩
  · have hl := digsC_len x.dig
    refine ⟨x.dig, _, _, rfl, fun h => (by cases h), ht, fun _ => ⟨b', 0, some 32, digsC T ++ X, rfl, h3, ?_, ?_⟩⟩
    · rw [show digK.length = 32 from rfl, List.length_append]
      omega
    · rw [show digK.length = 32 from rfl, List.drop_zero, ← hl, List.take_left]
/-- append([]Digest{}, P...): a copy of one's own. -/
theorem app_stk {g : Heap} {v : Value} {P : List (List Nat)} (x : DgS g v P) (hl : P.length ≤ 1000000) :
    ∃ v' g', appendA 32 32 (.slice (some ⟨g.next, 0, none⟩) 0 0) v (g.alloc []) = some (v', g') ∧ Old g g' ∧ Stk g' g.next v' P := by
  have o1 : Old g (g.alloc []) := Kept.alloc _ _ _
  obtain ⟨hd, a, c, rfl, hn, ht, h0⟩ := x
  by_cases hz : P.length = 0
  · have hP : P = [] := List.length_eq_zero_iff.1 hz
    subst hP
    refine ⟨.slice (some ⟨g.next, 0, none⟩) 0 0, g.alloc [], ?_, o1, Stk.nil' _ _ _⟩
    cases a with
    | none => rfl
    | some a => obtain ⟨b, off, s⟩ := a; rfl
  · obtain ⟨b, off, s, k, rfl, hk, hlen, hcs⟩ := h0 (by omega)
    rw [show digK.length = 32 from rfl] at hlen hcs
    have hl' := digsC_len hd
    have hk1 : (g.alloc []).get b = some k := Old.get o1 hk
    have hf : firstA 32 P.length (.slice (some ⟨b, off, s⟩) P.length c) (g.alloc []) = some (digsC P) := by
      unfold firstA
      simp only
      rw [if_neg (by omega), hk1]
      simp only
      rw [hcs, if_pos ⟨hlen, (digsC_ok hd).1⟩]
    have o2 : Old (g.alloc []) ((g.alloc []).alloc (digsC P)) := Kept.alloc _ _ _
    refine ⟨.slice (some ⟨(g.alloc []).next, 0, some 32⟩) P.length P.length, (g.alloc []).alloc (digsC P), ?_, o1.trans o2, hd, .inr ⟨_, _, [], rfl, o1.next, Nat.le_refl _, by rw [Heap.get_alloc, if_pos rfl, List.append_nil], by rw [Nat.sub_self]; rfl, rfl, rfl⟩⟩
    have hf0 : firstA 32 0 (.slice (some ⟨g.next, 0, none⟩) 0 0) (g.alloc []) = some [] := rfl
    unfold appendA
    simp only [lenA, hf, hf0]
    rw [if_neg (by
      simp only [(digsC_ok hd).2, hl', Bool.not_true, Bool.false_or, Bool.or_eq_true, Bool.not_eq_true', decide_eq_false_iff_not, decide_eq_true_eq, Nat.zero_add]
      omega), if_neg (by omega)]
    simp only [List.nil_append, Nat.zero_add, List.length_nil, Nat.zero_mul]
    rw [if_neg (by simp)]
theorem nq26 (n : Int) : bin Tryd.prog .neq 26 (.int .i64 n) (.int .i64 n) = some (.bool false) := by rw [bin_neq]; simp
theorem is11 : IsFn Tryd.prog 11 Tryd.f11 := ⟨by kernel_rfl, by kernel_rfl, by kernel_rfl, by kernel_rfl⟩
set_option maxRecDepth 100000 in
/-- The law's loop. -/
theorem law11 {h : Heap} (hG : 4 ≤ h.n0) (hz : h.get 3 = some roundsL) {L : List RecD} {v : Value} (hv : RcS h v L) (hg : gR v) (hval : ∀ r ∈ L, recB r = true) (hl : L.length ≤ 40) {d : Nat} (hd : h.get d = some (u8s (treeV L)))
    {x : Nat → Value} (x0 : x 0 = v) (x3 : x 3 = ptr d 0) (x5 : x 5 = i64n 0) :
    Fin 86 (fun ex _ g => ex = .exit 0 ∧ Old h g) (iter (codeA Tryd.prog CW (partOf Tryd.f11 [1, 1, 1, 1, 0, 1, 0, 0])) rounds (mkF 86 x) h) := by
  refine loop_fin (t11l11_1111010_eq CW) (Inv := fun k y g => ∃ i, i + k = L.length ∧ y 0 = v ∧ y 3 = ptr d 0 ∧ y 5 = i64n i ∧ Old h g) ?_ L.length (by have : rounds = 18446744073709551616 := rfl; omega) ⟨0, by omega, x0, x3, x5, Kept.refl _ _⟩
  rintro k y g ⟨i, hik, y0, y3, y5, O⟩
  have hRS := hv.rsl
  have hll := hRS.len
  unfold t11l11_1111010
  simp -implicitDefEqProofs only [y0, y5, hll, lss3, thenV_some, pu_some]
  by_cases hi : i < L.length
  · obtain ⟨w1, w2, w3⟩ := prf_law hi (by omega) hval
    obtain ⟨b, o, ix, wr, mr, lp⟩ := hRS.at hi
    have vr := hval _ mr
    have hpl := pathG_len L.length L i
    generalize L.getD i RecD.z = r at *
    have cr := rec_cells wr
    have dR := treeV_ok L
    have cR := dig_cells dR
    have dn := dig_typed dR
    obtain ⟨v1, g1, e1, o1, r1, gg1⟩ := r26 (h := g) (by rw [O.n0]; exact hG) (hv.old O) (by omega)
    have O1 := O.trans o1
    obtain ⟨w, g2, e2, o2, sk⟩ := r40 (h := g1) (by rw [O1.n0]; exact hG) (Old.get O1 hz) (L := L) (i := (i : Int)) r1 gg1 (by omega)
    have hpb : prvB L (i : Int) = false := by
      unfold prvB
      have : invB L = false := by
        unfold invB
        rw [List.any_eq_false]
        intro q hq
        rw [hval q hq]
        decide
      rw [this, decide_eq_false (show ¬ (i : Int) < 0 by omega), decide_eq_false (show ¬ (i : Int) ≥ L.length by omega)]
      rfl
    rw [hpb] at e2 sk
    simp only [Bool.false_eq_true, if_false, Int.toNat_natCast] at e2 sk
    have hTl : (pathG L.length L i).reverse.length ≤ 40 := by rw [List.length_reverse]; omega
    generalize (pathG L.length L i).reverse = T at *
    have O2 := O1.trans o2
    have e2 : CW 40 [v1, i64n i] g1 = some (.tuple #[w, .int .i64 0], g2) := e2
    obtain ⟨P2, G2⟩ := sk.pr
    have Lr : ∀ g', Old h g' → ldN 39 (ptr b o) g' = some (.agg (recC r).toArray, g') := lp
    have L3 : ∀ g', Old h g' → ldN 32 (ptr d 0) g' = some (.agg (u8s (treeV L)).toArray, g') := fun g' og => ldN_all (Old.get og hd) cR.1 cR.2.1
    have I1 : I64 ((L.length : Nat) : Int) := by unfold I64; omega
    have I2 : I64 ((i : Nat) : Int) := by unfold I64; omega
    obtain ⟨g3, e3, o3⟩ := r31 (h := g2) (by rw [O2.n0]; exact hG) (Old.get O2 hz) dR I1 I2 wr P2 (by omega)
    rw [w1] at e3
    have e3 : CW 31 [.agg (u8s (treeV L)).toArray, i64n L.length, i64n i, .agg (recC r).toArray, w] g2 = some (.bool true, g3) := e3
    have O3 := O2.trans o3
    have b4 : bslR 32 (.agg (List.replicate 32 (.int .u8 0)).toArray) 0 [] g3 = some (.slice (some ⟨g3.next, 0, none⟩) 0 0, g3.alloc []) := rfl
    obtain ⟨v5, g5, e5, o5, sk5⟩ := app_stk (sk.old o3).dgs (by omega)
    have O4 : Old h (g3.alloc []) := O3.trans (Kept.alloc _ _ _)
    have O5 := O3.trans o5
    have b6 := bsl_dig g5 dR
    have o6 : Old g5 (g5.alloc (u8s (treeV L))) := Kept.alloc _ _ _
    have q6 : (g5.alloc (u8s (treeV L))).get g5.next = some (u8s (treeV L)) := by rw [Heap.get_alloc, if_pos rfl]
    obtain ⟨v7, g7, e7, sk7, k7, _⟩ := (sk5.old o6).push (c := g5.next) (by rw [o6.n0, O5.n0]; have := h.n0_le_next; have := O3.next; omega) (by have := o5.next; have := o6.next; omega) dR (by omega) q6
    have O7 : Old h g7 := (O5.trans o6).also k7 (fun b' hb' hs => by
      have := ((sk5.old o6).lt hs).1
      have := O3.next
      omega)
    have o27 : Old g2 g7 := (((o3.trans o5).trans o6)).also k7 (fun b' hb' hs => by
      have := ((sk5.old o6).lt hs).1
      have := o3.next
      omega)
    obtain ⟨P7, _⟩ := sk7.pr
    obtain ⟨g8, e8, o8⟩ := r31 (h := g7) (by rw [O7.n0]; exact hG) (Old.get O7 hz) dR I1 I2 wr P7 (by rw [List.length_append, List.length_singleton]; omega)
    rw [w2] at e8
    have e8 : CW 31 [.agg (u8s (treeV L)).toArray, i64n L.length, i64n i, .agg (recC r).toArray, v7] g7 = some (.bool false, g8) := e8
    have O8 := O7.trans o8
    have lw := sk.len
    have chkA : ∀ (g : Heap), chkR true (some (.agg (recC r).toArray, g)) (.agg (recC r).toArray) = true := fun g => chk_agg _ _ (rec_typed wr).kinds
    have chkD : ∀ g, chkR true (some (.agg (u8s (treeV L)).toArray, g)) (.agg (u8s (treeV L)).toArray) = true := fun g => chk_agg _ _ (dig_typed dR).kinds
    have chkN : ∀ g, chkR true (some (i64n L.length, g)) (i64n L.length) = true := fun g => chkI _ _ _
    have gt : bin Tryd.prog .gtr 3 (i64n T.length) (.int .i64 0) = some (.bool (decide (0 < T.length))) := by
      unfold i64n
      rw [bin_gtr]
      congr 2
      rw [decide_eq_decide]
      omega
    have a5 : bin Tryd.prog .add 3 (i64n i) (.int .i64 1) = some (i64n (i + 1)) := add31 (by omega)
    by_cases c : 0 < T.length
    · obtain ⟨T', x', hT⟩ : ∃ T' x', T = T' ++ [x'] := ⟨T.dropLast, T.getLast (by intro e; rw [e] at c; exact absurd c (by decide)), (List.dropLast_concat_getLast _).symm⟩
      have w3' := w3 T' x' hT
      have sk' := sk
      rw [hT] at sk'
      obtain ⟨v9, e9, sk9, hb9⟩ := sk'.pop
      have lT : T.length = T'.length + 1 := by rw [hT, List.length_append, List.length_singleton]
      have sb : bin Tryd.prog .sub 3 (i64n T.length) (.int .i64 1) = some (i64n T'.length) := by
        rw [lT]
        exact sub_n1 (by omega) (by omega)
      obtain ⟨P9, _⟩ := ((sk9.old o27).old o8).pr
      obtain ⟨g10, e10, o10⟩ := r31 (h := g8) (by rw [O8.n0]; exact hG) (Old.get O8 hz) dR I1 I2 wr P9 (by omega)
      rw [w3'] at e10
      have e10 : CW 31 [.agg (u8s (treeV L)).toArray, i64n L.length, i64n i, .agg (recC r).toArray, v9] g8 = some (.bool false, g10) := e10
      rw [decide_eq_true c] at gt
      simp -implicitDefEqProofs only [decide_eq_true hi, y0, y3, y5, hll, e1, e2, ext0, ext1, nq26, L3 g2 O2, ix, Lr g2 O2, e3, L3 g3 O3, Lr g3 O3, b4, e5, L3 g5 O5, b6, e7, e8, L3 g7 O7, Lr g7 O7, Lr g5 O5, L3 g5 O5, L3 _ O4, Lr _ O4, chkA, chkD, chkN, lw, gt, L3 g8 O8, Lr g8 O8, sb, e9, e10, a5, unA_not, Bool.not_true, Bool.not_false, thenV_some, pu_some, bOf_bool, fs, sf, beq_self_eq_true, guardK_true, guardK_false, Bool.false_eq_true, if_false, if_true, Bool.and_true, Bool.true_and, Bool.and_self]
      exact Rnd.next (k - 1) (by omega) ⟨i + 1, by omega, y0, y3, rfl, O8.trans o10⟩
    · rw [decide_eq_false c] at gt
      simp -implicitDefEqProofs only [decide_eq_true hi, y0, y3, y5, hll, e1, e2, ext0, ext1, nq26, L3 g2 O2, ix, Lr g2 O2, e3, L3 g3 O3, Lr g3 O3, b4, e5, L3 g5 O5, b6, e7, e8, L3 g7 O7, Lr g7 O7, Lr g5 O5, L3 g5 O5, L3 _ O4, Lr _ O4, chkA, chkD, chkN, lw, gt, L3 g8 O8, Lr g8 O8, a5, unA_not, Bool.not_true, Bool.not_false, thenV_some, pu_some, bOf_bool, fs, sf, beq_self_eq_true, guardK_true, guardK_false, Bool.false_eq_true, if_false, if_true, Bool.and_true, Bool.true_and, Bool.and_self, show (some false == some true) = false from rfl]
      exact Rnd.next (k - 1) (by omega) ⟨i + 1, by omega, y0, y3, rfl, O8⟩
  · simp -implicitDefEqProofs only [decide_eq_false hi, thenV_some, pu_some]
    exact Rnd.out 0 ⟨rfl, O⟩
set_option maxRecDepth 100000 in
/-- The law. -/
theorem r11 {h : Heap} (hG : 4 ≤ h.n0) (hz : h.get 3 = some roundsL) {L : List RecD} {v : Value} (hv : RcS h v L) (hg : gR v) : ∃ h', CW 11 [v] h = some (.bool true, h') := by
  have hRS := hv.rsl
  have hll := hRS.len
  by_cases hl : L.length ≤ 40
  · have q0 : bin Tryd.prog .gtr 3 (i64n L.length) (.int .i64 40) = some (.bool false) := by unfold i64n; rw [bin_gtr, decide_eq_false (by omega)]
    obtain ⟨v1, h1, e1, o1, r1, gg1⟩ := r26 (h := h) hG hv (by omega)
    obtain ⟨h2, e2, o2⟩ := r38 (h := h1) (by rw [o1.n0]; exact hG) (Old.get o1 hz) r1 (by omega)
    have O2 := o1.trans o2
    obtain ⟨h3, z3, o3, g3, n3⟩ := fresh (List.replicate 32 (.int .u8 0)) h2
    have dR := rootV_ok L
    have cR := dig_cells dR
    obtain ⟨h4, e4, k4, g4, _, n4⟩ := stored_all (n := 32) (k' := u8s (rootV L)) g3 (by rw [o3.n0]; exact h2.n0_le_next) rfl cR.1 cR.2.2
    have O4 : Old h h4 := O2.trans (Old.of_new o3 k4 (Nat.le_refl _))
    have kn := r14 (Old.get O4 hz)
    have key : ∃ o : Out, t11 CW v h = o ∧ ∃ h', o = some (.bool true, h') := by
      refine ⟨_, rfl, ?_⟩
      unfold t11
      cases hb : invB L with
      | true =>
        have ee : rootE L = 2 := by unfold rootE; rw [hb]; rfl
        rw [ee] at e2
        have nq : bin Tryd.prog .neq 26 (.int .i64 2) (.int .i64 0) = some (.bool true) := by kernel_rfl
        simp -implicitDefEqProofs only [hll, q0, e1, e2, ext0, ext1, z3, e4, nq, kn, thenV_some, pu_some]
        exact ⟨_, rfl⟩
      | false =>
        have ee : rootE L = 0 := by unfold rootE; rw [hb]; rfl
        have ev : rootV L = treeV L := by unfold rootV; rw [hb]; rfl
        rw [ee] at e2
        rw [ev] at e2 e4 g4
        simp -implicitDefEqProofs only [hll, q0, e1, e2, ext0, ext1, z3, e4, nq26, thenV_some, pu_some]
        refine endL_fin (n := 86) (Q := fun o : Out => ∃ h', o = some (.bool true, h')) (law11 (h := h4) (by rw [O4.n0]; exact hG) (Old.get O4 hz) (hv.old O4) hg (invB_false hb) hl (d := h2.next) g4 rfl rfl rfl) ?_
        rintro _ z g ⟨rfl, O⟩
        simp -implicitDefEqProofs only [endL_exit, b11_10, if_true, t11k11_8_eq]
        unfold t11k11_8
        have kn := r14 (Old.get (O4.trans O) hz)
        simp -implicitDefEqProofs only [kn, thenV_some]
        exact ⟨_, rfl⟩
    obtain ⟨o9, e, h', e'⟩ := key
    exact ⟨h', CW_body is11 hG rfl ((t11_eq _ _ _).trans (e.trans e'))⟩
  · have q0 : bin Tryd.prog .gtr 3 (i64n L.length) (.int .i64 40) = some (.bool true) := by unfold i64n; rw [bin_gtr, decide_eq_true (by omega)]
    have kn := r14 hz
    refine ⟨h, CW_body is11 hG rfl ((t11_eq _ _ _).trans ?_)⟩
    unfold t11
    simp -implicitDefEqProofs only [hll, q0, kn, thenV_some, pu_some]
end Go.Proofs.YtdnahgfgoajmcaaDoor

namespace Go.Proofs.YtdnahgfgoajmcaaDoor
open Go Go.Abs
open Go.ChangeShapes Go.WideShapes Go.ChangeAt Go.RowKit
section
variable {H : Type} {enc : TypeId × Value → H} {W : World} {base : Nat} {held : Bool}
/-- A slice that can be read as data: its room, and no hidden room. -/
theorem gs_of {t e : TypeId} {z : Nat} (ht : Tryd.prog.underlying t = some (.slice e)) (he : Tryd.prog.cellsOf e = z) (hz : 0 < z) {fuel : Nat} {v : Value} {x : DataW H × List MemPlace} (h : DataW.trod enc Tryd.prog W base (fun _ => true) held fuel t [v] = some x) :
    ∃ a n c, clean W.heap.size v = .slice a n c ∧ n ≤ c ∧ (0 < n → ∀ b o s, a = some ⟨b, o, some s⟩ → False) := by
  rcases DataW.trod_slice ht h with ⟨h1, _⟩ | ⟨a, len, cap, elems, rest, n, _, h1, _, _, hlc, hcm, hl, hel, hsp, _⟩
  · cases h1
    exact ⟨none, 0, 0, rfl, Nat.le_refl _, fun h => absurd h (Nat.lt_irrefl 0)⟩
  · cases h1
    rw [he] at hel hsp
    have hpos : 0 < cap → a.spot = none ∧ a.block < W.heap.size := by
      intro h0
      have key : ∃ cs, W.cells? base (a.add (0 * z)) z = some cs := by
        by_cases hlen : 0 < len
        · have := hel 0 hlen
          rw [List.getElem?_eq_getElem (by omega), Option.bind_eq_some_iff] at this
          obtain ⟨cs, hc, _⟩ := this
          exact ⟨cs, hc⟩
        · have := (hsp rfl).2 0 (by omega)
          rw [List.getElem?_eq_getElem (by rw [(hsp rfl).1]; omega), Option.bind_eq_some_iff] at this
          obtain ⟨cs, hc, _⟩ := this
          obtain rfl : len = 0 := by omega
          exact ⟨cs, hc⟩
      obtain ⟨cs, hc⟩ := key
      obtain ⟨_, hlen, hcell⟩ := World.cells?_some hc
      have g := hcell 0 hz
      obtain ⟨c0, hc0⟩ : ∃ c0, cs[0]? = some c0 := ⟨cs[0], List.getElem?_eq_getElem (by omega)⟩
      rw [hc0, Nat.zero_mul] at g
      have g : W.cell? a = some c0 := g
      obtain ⟨e1, e2, _⟩ := view_cell g
      exact ⟨e1, e2⟩
    obtain ⟨g1, a', g2, g3⟩ := clean_slice (W := W) hlc hpos
    refine ⟨_, _, _, g2, hlc, fun h0 b o s e => ?_⟩
    have := g3 (by omega)
    subst this
    have hs := (hpos (by omega)).1
    rw [Option.some.inj e] at hs
    cases hs
end
end Go.Proofs.YtdnahgfgoajmcaaDoor

namespace Go.Proofs.YtdnahgfgoajmcaaDoor
open Go Go.Abs
open Go.ChangeShapes Go.WideShapes Go.ChangeAt Go.RowKit
section
variable {H : Type} {enc : TypeId × Value → H} {W : World} {base : Nat} {held : Bool}
theorem sl22 {fuel : Nat} {v : Value} {x : DataW H × List MemPlace} (h : DataW.trod enc Tryd.prog W base (fun _ => true) held fuel 22 [v] = some x) :
    isHole (clean W.heap.size v) = false ∧ Value.oneCell' (clean W.heap.size v) = true ∧ gR (clean W.heap.size v) ∧ ∃ L, RcS (topHeap W (view W)) (clean W.heap.size v) L := by
  obtain ⟨h1, n, cs, S⟩ := sl_of Tryd.underlying22 (ks := recK) (by kernel_rfl) (by decide) rd58 h
  obtain ⟨a, m, c, e, h2, h3⟩ := gs_of Tryd.underlying22 (z := 39) (by kernel_rfl) (by decide) h
  obtain ⟨P, hP, hcs, hd⟩ := list_of (f := recC) (P := RecD.Wf) (fun xs hx => rec_of hx) n cs S.typed
  subst hP
  subst hcs
  refine ⟨h1, by rw [e]; rfl, ⟨a, m, c, e, h2, fun h0 b o s q => (h3 h0 b o s q).elim⟩, P, hd, S⟩
end
end Go.Proofs.YtdnahgfgoajmcaaDoor

