/-
  InventoryRoots: the document's Prove; the law.
  Conditions: the package variables hold what they hold at the start.
  InventoryVerifies: a proof as an argument.
  Conditions: the argument can be read as data.
  InventoryProofs, InventoryRoots: a list of records as an argument.
  Conditions: the argument can be read as data.
-/
import Derived.Test.YtdnahgfgoajmcaaDoorG15
namespace Go.Proofs.YtdnahgfgoajmcaaDoor
open Go Go.Abs
attribute [local congr] thenV_congr
theorem is85 : IsFn Tryd.prog 85 Tryd.f85 := ⟨by kernel_rfl, by kernel_rfl, by kernel_rfl, by kernel_rfl⟩
theorem is41 : IsFn Tryd.prog 41 Tryd.f41 := ⟨by kernel_rfl, by kernel_rfl, by kernel_rfl, by kernel_rfl⟩
theorem is34 : IsFn Tryd.prog 34 Tryd.f34 := ⟨by kernel_rfl, by kernel_rfl, by kernel_rfl, by kernel_rfl⟩
theorem is8 : IsFn Tryd.prog 8 Tryd.f8 := ⟨by kernel_rfl, by kernel_rfl, by kernel_rfl, by kernel_rfl⟩
theorem Stk.down {h : Heap} {N M : Nat} {v : Value} {T : List (List Nat)} (x : Stk h M v T) (hN : N ≤ M) : Stk h N v T := by
  refine ⟨x.dig, ?_⟩
  rcases x.form with f | ⟨b, m, X, f1, f2, f3⟩
  · exact .inl f
  · exact .inr ⟨b, m, X, f1, Nat.le_trans hN f2, f3⟩
set_option maxRecDepth 100000 in
/-- path -/
theorem r85 : ∀ (f : Nat) {h : Heap}, 4 ≤ h.n0 → GR h → GZ h → ∀ {M : List RecD} {i : Nat} {v : Value}, M.length ≤ f → i < M.length → M.length ≤ 1000 → f ≤ 1000 → RSl h v M → gR v → (∀ r ∈ M, recB r = true) →
    ∃ w h', CW 85 [v, i64n i] h = some (w, h') ∧ Old h h' ∧ Stk h' h.next w (pathG f M i).reverse := by
  intro f
  induction f with
  | zero => intro h _ _ _ M i v h1 h2; omega
  | succ f ih =>
    intro h hG hr hz M i v hM hi hl hfl hv hg hval
    have hll := hv.len
    have q1 := eql1 M.length
    by_cases c : M.length = 1
    · rw [decide_eq_true c] at q1
      rw [pathG_one (f + 1) i (by omega)]
      refine ⟨.slice none 0 0, h, CW_body is85 hG rfl ((t85_eq _ _ _ _).trans ?_), Kept.refl _ _, Stk.nil _ _⟩
      unfold t85
      simp -implicitDefEqProofs only [hll, q1, thenV_some, pu_some]
    · rw [decide_eq_false c] at q1
      have e109 := r109 (h := h) hG (n := M.length) (by omega)
      have hh1 := half_pos M.length
      have hh2 := half_lt (n := M.length) (by omega)
      obtain ⟨wt, et, rt, gt⟩ := hv.take hg hh2
      obtain ⟨wd, ed, rd, gd⟩ := hv.drop hg hh2
      have lt : (M.take (halfN M.length)).length = halfN M.length := by rw [List.length_take]; omega
      have ld : (M.drop (halfN M.length)).length = M.length - halfN M.length := List.length_drop
      have ht : ∀ r ∈ M.take (halfN M.length), recB r = true := fun r hr => hval r (List.mem_of_mem_take hr)
      have hd : ∀ r ∈ M.drop (halfN M.length), recB r = true := fun r hr => hval r (List.mem_of_mem_drop hr)
      have q2 : bin Tryd.prog .lss 3 (i64n i) (i64n (halfN M.length)) = some (.bool (decide (i < halfN M.length))) := lss3 ..
      rw [pathG_s, if_neg (by omega)]
      by_cases c2 : i < halfN M.length
      · rw [decide_eq_true c2] at q2
        rw [if_pos c2, List.reverse_cons]
        obtain ⟨w, h2, e2, o2, sk⟩ := ih (h := h) hG hr hz (M := M.take (halfN M.length)) (i := i) (v := wt) (by omega) (by omega) (by omega) (by omega) rt gt ht
        obtain ⟨h3, e3, o3⟩ := r55 (M.drop (halfN M.length)).length (h := h2) (by rw [o2.n0]; exact hG) (hr.old o2) (hz.old o2) rfl (by omega) (rd.mono o2) gd hd
        have dt := treeV_ok (M.drop (halfN M.length))
        have O3 := o2.trans o3
        have b4 := bsl_dig h3 dt
        have o4 : Old h3 (h3.alloc (u8s (treeV (M.drop (halfN M.length))))) := Kept.alloc _ _ _
        have q4 : (h3.alloc (u8s (treeV (M.drop (halfN M.length))))).get h3.next = some (u8s (treeV (M.drop (halfN M.length)))) := by rw [Heap.get_alloc, if_pos rfl]
        have hpl := pathG_len f (M.take (halfN M.length)) i
        obtain ⟨v5, h5, e5, sk5, k5, _⟩ := ((sk.old o3).old o4).push (c := h3.next) (by rw [o4.n0, O3.n0]; exact h.n0_le_next) (by have := O3.next; have := o4.next; omega) dt (by rw [List.length_reverse]; omega) q4
        have O5 : Old h h5 := (O3.trans o4).also k5 (fun b' hb' hs => by
          have := (((sk.old o3).old o4).lt hs).1
          omega)
        refine ⟨v5, h5, CW_body is85 hG rfl ((t85_eq _ _ _ _).trans ?_), O5, sk5⟩
        unfold t85
        simp -implicitDefEqProofs only [hll, q1, e109, q2, et, e2, ed, e3, b4, e5, thenV_some, pu_some]
      · rw [decide_eq_false c2] at q2
        rw [if_neg c2, List.reverse_cons]
        obtain ⟨w, h2, e2, o2, sk⟩ := ih (h := h) hG hr hz (M := M.drop (halfN M.length)) (i := i - halfN M.length) (v := wd) (by omega) (by omega) (by omega) (by omega) rd gd hd
        obtain ⟨h3, e3, o3⟩ := r55 (M.take (halfN M.length)).length (h := h2) (by rw [o2.n0]; exact hG) (hr.old o2) (hz.old o2) rfl (by omega) (rt.mono o2) gt ht
        have dt := treeV_ok (M.take (halfN M.length))
        have O3 := o2.trans o3
        have b4 := bsl_dig h3 dt
        have o4 : Old h3 (h3.alloc (u8s (treeV (M.take (halfN M.length))))) := Kept.alloc _ _ _
        have q4 : (h3.alloc (u8s (treeV (M.take (halfN M.length))))).get h3.next = some (u8s (treeV (M.take (halfN M.length)))) := by rw [Heap.get_alloc, if_pos rfl]
        have hpl := pathG_len f (M.drop (halfN M.length)) (i - halfN M.length)
        obtain ⟨v5, h5, e5, sk5, k5, _⟩ := ((sk.old o3).old o4).push (c := h3.next) (by rw [o4.n0, O3.n0]; exact h.n0_le_next) (by have := O3.next; have := o4.next; omega) dt (by rw [List.length_reverse]; omega) q4
        have O5 : Old h h5 := (O3.trans o4).also k5 (fun b' hb' hs => by
          have := (((sk.old o3).old o4).lt hs).1
          omega)
        have s6 := sub_nn (a := i) (b := halfN M.length) (by omega) (by omega)
        refine ⟨v5, h5, CW_body is85 hG rfl ((t85_eq _ _ _ _).trans ?_), O5, sk5⟩
        unfold t85
        simp -implicitDefEqProofs only [hll, q1, e109, q2, s6, ed, e2, et, e3, b4, e5, thenV_some, pu_some]
set_option maxRecDepth 100000 in
/-- Prove, of the document -/
theorem r41 {h : Heap} (hG : 4 ≤ h.n0) (hr : GR h) (hz : GZ h) {L : List RecD} {i : Int} {v : Value} (hv : RSl h v L) (hg : gR v) (hl : L.length ≤ 128) :
    ∃ w h', CW 41 [v, .int .i64 i] h = some (.tuple #[w, .int .i64 (if prvB L i then 2 else 0)], h') ∧ Old h h' ∧ Stk h' h.next w (if prvB L i then [] else (pathG L.length L i.toNat).reverse) := by
  obtain ⟨h1, e1, o1⟩ := r82 (h := h) hG hz hv (by omega)
  have hll := hv.len
  have lt0 : bin Tryd.prog .lss 3 (.int .i64 i) (.int .i64 0) = some (.bool (decide (i < 0))) := bin_lss ..
  have ge : bin Tryd.prog .geq 3 (.int .i64 i) (i64n L.length) = some (.bool (decide (i ≥ L.length))) := bin_geq ..
  cases hb : prvB L i with
  | true =>
    refine ⟨.slice none 0 0, h1, CW_body is41 hG rfl ((t41_eq _ _ _ _).trans ?_), o1, Stk.nil _ _⟩
    unfold t41
    unfold prvB at hb
    cases c1 : invB L with
    | true =>
      rw [c1] at e1
      simp -implicitDefEqProofs only [e1, unA_not, Bool.not_true, Bool.not_false, thenV_some, pu_some, bOf_bool, fs, sf, beq_self_eq_true, guardK_true, guardK_false, Bool.false_eq_true, if_false, if_true, show (some true == some false) = false from rfl]
    | false =>
      rw [c1] at e1
      cases c2 : decide (i < 0) with
      | true =>
        rw [c2] at lt0
        simp -implicitDefEqProofs only [e1, lt0, unA_not, Bool.not_true, Bool.not_false, thenV_some, pu_some, bOf_bool, fs, sf, beq_self_eq_true, guardK_true, guardK_false, Bool.false_eq_true, if_false, if_true, show (some true == some false) = false from rfl]
      | false =>
        rw [c2] at lt0
        rw [c1, c2, Bool.false_or, Bool.false_or] at hb
        rw [hb] at ge
        simp -implicitDefEqProofs only [e1, lt0, hll, ge, unA_not, Bool.not_true, Bool.not_false, thenV_some, pu_some, bOf_bool, fs, sf, beq_self_eq_true, guardK_true, guardK_false, Bool.false_eq_true, if_false, if_true, show (some true == some false) = false from rfl]
  | false =>
    unfold prvB at hb
    rw [Bool.or_eq_false_iff, Bool.or_eq_false_iff, decide_eq_false_iff_not, decide_eq_false_iff_not] at hb
    obtain ⟨⟨c1, c2⟩, c3⟩ := hb
    rw [c1] at e1
    rw [decide_eq_false c2] at lt0
    rw [decide_eq_false c3] at ge
    obtain ⟨j, rfl⟩ : ∃ j : Nat, i = j := ⟨i.toNat, (Int.toNat_of_nonneg (by omega)).symm⟩
    rw [Int.toNat_natCast]
    obtain ⟨w, h2, e2, o2, sk⟩ := r85 L.length (h := h1) (by rw [o1.n0]; exact hG) (hr.old o1) (hz.old o1) (M := L) (i := j) (v := v) (Nat.le_refl _) (by omega) (by omega) (by omega) (hv.mono o1) hg (invB_false c1)
    have e2 : CW 85 [v, .int .i64 (j : Int)] h1 = some (w, h2) := e2
    refine ⟨w, h2, CW_body is41 hG rfl ((t41_eq _ _ _ _).trans ?_), o1.trans o2, sk.down o1.next⟩
    unfold t41
    simp -implicitDefEqProofs only [e1, lt0, hll, ge, e2, unA_not, Bool.not_true, Bool.not_false, thenV_some, pu_some, bOf_bool, fs, sf, beq_self_eq_true, guardK_true, guardK_false, Bool.false_eq_true, if_false, if_true]
theorem nqD35 {a : List Nat} (wa : D32 a) : bin Tryd.prog .neq 35 (.agg (u8s a).toArray) (.agg (u8s a).toArray) = some (.bool false) := by
  obtain ⟨r, hr, hrun⟩ := dig_run (d := 9998) (dig_typed wa) (dig_typed wa)
  have : r = true := hr.2 rfl
  subst this
  exact (bin_agg (by kernel_rfl) (ground_agg (dig_typed wa).all.2.2) (ground_agg (dig_typed wa).all.2.2) hrun).2
theorem nqi (n : Nat) : bin Tryd.prog .neq 3 (i64n n) (i64n n) = some (.bool false) := by
  unfold i64n
  rw [bin_neq]
  simp
set_option maxRecDepth 100000 in
/-- sameIDs, of two equal lists -/
theorem r34 {h : Heap} (hG : 4 ≤ h.n0) {v w : Value} {T : List (List Nat)} (P : PR h v T) (Q : PR h w T) (hl : T.length ≤ 1000000) : CW 34 [v, w] h = some (.bool true, h) := by
  have l1 := P.len
  have l2 := Q.len
  have key : ∃ o : Out, t34 CW v w h = o ∧ o = some (.bool true, h) := by
    refine ⟨_, rfl, ?_⟩
    unfold t34
    simp -implicitDefEqProofs only [l1, l2, nqi, thenV_some, pu_some]
    refine endL_fin (n := 26) (fin := fun ex _ g => ex = .exit 0 ∧ g = h) (Q := fun o : Out => o = some (.bool true, h))
      (loop_fin (t34l34_11010_eq CW) (Inv := fun k y g => ∃ i, i + k = T.length ∧ y 0 = v ∧ y 1 = w ∧ y 5 = i64n i ∧ g = h) ?_ T.length (by have : rounds = 18446744073709551616 := rfl; omega) ⟨0, by omega, rfl, rfl, rfl, rfl⟩) ?_
    · rintro k y g ⟨i, hik, y0, y1, y5, rfl⟩
      unfold t34l34_11010
      simp -implicitDefEqProofs only [y0, y5, l1, lss3, thenV_some, pu_some]
      by_cases hi : i < T.length
      · obtain ⟨b1, o1, ix1, _, lp1⟩ := P.2.2 i hi
        obtain ⟨b2, o2, ix2, _, lp2⟩ := Q.2.2 i hi
        have L1 := lp1 g rfl
        have L2 := lp2 g rfl
        have dp : D32 (T.getD i []) := P.2.1 _ (by
          rw [List.getD_eq_getElem?_getD, List.getElem?_eq_getElem hi]
          exact List.getElem_mem hi)
        have nq := nqD35 dp
        have a5 : bin Tryd.prog .add 3 (i64n i) (.int .i64 1) = some (i64n (i + 1)) := add31 (by omega)
        simp -implicitDefEqProofs only [decide_eq_true hi, y0, y1, y5, ix1, ix2, L1, L2, nq, a5, thenV_some, pu_some]
        exact Rnd.next (k - 1) (by omega) ⟨i + 1, by omega, y0, y1, rfl, rfl⟩
      · simp -implicitDefEqProofs only [decide_eq_false hi, thenV_some, pu_some]
        exact Rnd.out 0 ⟨rfl, rfl⟩
    · rintro ex z g ⟨rfl, rfl⟩
      simp -implicitDefEqProofs only [endL_exit, b34_6, if_true, t34k34_4_eq]
      rfl
  obtain ⟨o9, e, e'⟩ := key
  exact CW_body is34 hG rfl ((t34_eq _ _ _ _).trans (e.trans e'))
theorem eq26 (n : Int) : bin Tryd.prog .eql 26 (.int .i64 n) (.int .i64 n) = some (.bool true) := by rw [bin_eql]; simp
set_option maxRecDepth 100000 in
/-- The law. -/
theorem r8 {h : Heap} (hG : 4 ≤ h.n0) (hz : h.get 3 = some roundsL) (hr : GR h) (hg0 : GZ h) {L : List RecD} {v : Value} (hv : RcS h v L) (hg : gR v) {i : Int} (_hi : I64 i) : ∃ h', CW 8 [v, .int .i64 i] h = some (.bool true, h') := by
  have hRS := hv.rsl
  have hll := hRS.len
  by_cases hl : L.length ≤ 100
  · have q0 : bin Tryd.prog .gtr 3 (i64n L.length) (.int .i64 100) = some (.bool false) := by unfold i64n; rw [bin_gtr, decide_eq_false (by omega)]
    obtain ⟨v1, h1, e1, o1, r1, gg1⟩ := r26 (h := h) hG hv (by omega)
    obtain ⟨h2, e2, o2⟩ := r38 (h := h1) (by rw [o1.n0]; exact hG) (Old.get o1 hz) r1 (by omega)
    have O2 := o1.trans o2
    have dR := rootV_ok L
    have cR := dig_cells dR
    obtain ⟨h3, z3, o3, g3, n3⟩ := fresh (List.replicate 32 (.int .u8 0)) h2
    obtain ⟨h4, e4, k4, g4, _, n4⟩ := stored_all (n := 32) (k' := u8s (rootV L)) g3 (by rw [o3.n0]; exact h2.n0_le_next) rfl cR.1 cR.2.2
    have O4 : Old h h4 := O2.trans (Old.of_new o3 k4 (Nat.le_refl _))
    obtain ⟨h5, e5, o5⟩ := r39 (h := h4) (by rw [O4.n0]; exact hG) (hr.old O4) (hg0.old O4) (hRS.mono O4) hg (by omega)
    have O5 := O4.trans o5
    obtain ⟨h6, z6, o6, g6, n6⟩ := fresh (List.replicate 32 (.int .u8 0)) h5
    obtain ⟨h7, e7, k7, g7, _, n7⟩ := stored_all (n := 32) (k' := u8s (rootV L)) g6 (by rw [o6.n0]; exact h5.n0_le_next) rfl cR.1 cR.2.2
    have o7 : Old h5 h7 := Old.of_new o6 k7 (Nat.le_refl _)
    have O7 := O5.trans o7
    obtain ⟨v8, h8, e8, o8, r8, gg8⟩ := r26 (h := h7) (by rw [O7.n0]; exact hG) (hv.old O7) (by omega)
    have O8 := O7.trans o8
    obtain ⟨w9, h9, e9, o9, sk9⟩ := r40 (h := h8) (by rw [O8.n0]; exact hG) (Old.get O8 hz) (L := L) (i := i) r8 gg8 (by omega)
    have O9 := O8.trans o9
    obtain ⟨w10, h10, e10, o10, sk10⟩ := r41 (h := h9) (by rw [O9.n0]; exact hG) (hr.old O9) (hg0.old O9) (L := L) (i := i) (hRS.mono O9) hg (by omega)
    have O10 := O9.trans o10
    have La := ldN_all (Old.get ((((o5.trans o7).trans o8).trans o9).trans o10) g4) cR.1 cR.2.1
    have Lb := ldN_all (Old.get ((o8.trans o9).trans o10) g7) cR.1 cR.2.1
    have eD := eqD35 dR dR
    rw [decide_eq_true rfl] at eD
    have hTl : (if prvB L i = true then [] else (pathG L.length L i.toNat).reverse).length ≤ 1000000 := by
      split
      · exact Nat.zero_le _
      · rw [List.length_reverse]
        have := pathG_len L.length L i.toNat
        omega
    have e11 := r34 (h := h10) (by rw [O10.n0]; exact hG) (sk9.old o10).pr.1 sk10.pr.1 hTl
    have kn := r14 (Old.get O10 hz)
    refine ⟨h10, CW_body is8 hG rfl ((t8_eq _ _ _ _).trans ?_)⟩
    unfold t8
    simp -implicitDefEqProofs only [hll, q0, e1, e2, ext0, ext1, z3, e4, e5, z6, e7, e8, e9, e10, La, Lb, eD, eq26, e11, kn, thenV_some, pu_some, bOf_bool, fs, sf, beq_self_eq_true, guardK_true, guardK_false, Bool.false_eq_true, if_false, if_true]
  · have q0 : bin Tryd.prog .gtr 3 (i64n L.length) (.int .i64 100) = some (.bool true) := by unfold i64n; rw [bin_gtr, decide_eq_true (by omega)]
    have kn := r14 hz
    refine ⟨h, CW_body is8 hG rfl ((t8_eq _ _ _ _).trans ?_)⟩
    unfold t8
    simp -implicitDefEqProofs only [hll, q0, kn, thenV_some, pu_some]
end Go.Proofs.YtdnahgfgoajmcaaDoor

namespace Go.Proofs.YtdnahgfgoajmcaaDoor
open Go Go.Abs
open Go.ChangeShapes Go.WideShapes Go.ChangeAt Go.RowKit
section
variable {H : Type} {enc : TypeId × Value → H} {W : World} {base : Nat} {held : Bool}
/-- A slice that can be read as data: its room, and no hidden room. -/
theorem gs_of {t e : TypeId} {z : Nat} (ht : Tryd.prog.underlying t = some (.slice e)) (he : Tryd.prog.cellsOf e = z) (hz : 0 < z) {fuel : Nat} {v : Value} {x : DataW H × List MemPlace} (h : DataW.trod enc Tryd.prog W base (fun _ => true) held fuel t [v] = some x) :
    ∃ a n c, clean W.heap.size v = .slice a n c ∧ n ≤ c ∧ (0 < n → ∀ b o s, a = some ⟨b, o, some s⟩ → False) := by
  rcases DataW.trod_slice ht h with ⟨h1, _⟩ | ⟨a, len, cap, elems, rest, n, _, h1, _, _, hlc, hcm, hl, hel, hsp, _⟩
  · cases h1
    exact ⟨none, 0, 0, rfl, Nat.le_refl _, fun h => absurd h (Nat.lt_irrefl 0)⟩
  · cases h1
    rw [he] at hel hsp
    have hpos : 0 < cap → a.spot = none ∧ a.block < W.heap.size := by
      intro h0
      have key : ∃ cs, W.cells? base (a.add (0 * z)) z = some cs := by
        by_cases hlen : 0 < len
        · have := hel 0 hlen
          rw [List.getElem?_eq_getElem (by omega), Option.bind_eq_some_iff] at this
          obtain ⟨cs, hc, _⟩ := this
          exact ⟨cs, hc⟩
        · have := (hsp rfl).2 0 (by omega)
          rw [List.getElem?_eq_getElem (by rw [(hsp rfl).1]; omega), Option.bind_eq_some_iff] at this
          obtain ⟨cs, hc, _⟩ := this
          obtain rfl : len = 0 := by omega
          exact ⟨cs, hc⟩
      obtain ⟨cs, hc⟩ := key
      obtain ⟨_, hlen, hcell⟩ := World.cells?_some hc
      have g := hcell 0 hz
      obtain ⟨c0, hc0⟩ : ∃ c0, cs[0]? = some c0 := ⟨cs[0], List.getElem?_eq_getElem (by omega)⟩
      rw [hc0, Nat.zero_mul] at g
      have g : W.cell? a = some c0 := g
      obtain ⟨e1, e2, _⟩ := view_cell g
      exact ⟨e1, e2⟩
    obtain ⟨g1, a', g2, g3⟩ := clean_slice (W := W) hlc hpos
    refine ⟨_, _, _, g2, hlc, fun h0 b o s e => ?_⟩
    have := g3 (by omega)
    subst this
    have hs := (hpos (by omega)).1
    rw [Option.some.inj e] at hs
    cases hs
end
end Go.Proofs.YtdnahgfgoajmcaaDoor

namespace Go.Proofs.YtdnahgfgoajmcaaDoor
open Go Go.Abs
open Go.ChangeShapes Go.WideShapes Go.ChangeAt Go.RowKit
section
variable {H : Type} {enc : TypeId × Value → H} {W : World} {base : Nat} {held : Bool}
theorem sl22 {fuel : Nat} {v : Value} {x : DataW H × List MemPlace} (h : DataW.trod enc Tryd.prog W base (fun _ => true) held fuel 22 [v] = some x) :
    isHole (clean W.heap.size v) = false ∧ Value.oneCell' (clean W.heap.size v) = true ∧ gR (clean W.heap.size v) ∧ ∃ L, RcS (topHeap W (view W)) (clean W.heap.size v) L := by
  obtain ⟨h1, n, cs, S⟩ := sl_of Tryd.underlying22 (ks := recK) (by kernel_rfl) (by decide) rd58 h
  obtain ⟨a, m, c, e, h2, h3⟩ := gs_of Tryd.underlying22 (z := 39) (by kernel_rfl) (by decide) h
  obtain ⟨P, hP, hcs, hd⟩ := list_of (f := recC) (P := RecD.Wf) (fun xs hx => rec_of hx) n cs S.typed
  subst hP
  subst hcs
  refine ⟨h1, by rw [e]; rfl, ⟨a, m, c, e, h2, fun h0 b o s q => (h3 h0 b o s q).elim⟩, P, hd, S⟩
theorem rel_int (μ : Mu) (n : Int) : VRel μ (.int .i64 n) (.int .i64 n) := .flat rfl
end
end Go.Proofs.YtdnahgfgoajmcaaDoor

