/-
  InventoryVerifies: the inner loop of Verify.
  Conditions: as each theorem states.
  InventoryVerifies: the loop of Verify over a proof.
  Conditions: as each theorem states.
  InventoryVerifies: Verify, whole.
  Conditions: as each theorem states.
  InventoryVerifies: climb, of the document.
  Conditions: the package variables hold what they hold at the start.
  InventoryVerifies: the plain law: the program and the document accept the same proofs.
  Conditions: as each theorem states.
  InventoryVerifies: Verify of the document, and the law.
  Conditions: the package variables hold what they hold at the start.
  InventoryProofs, InventoryRoots: the plain law of the tree: by halves, by levels, by a stack.
  Conditions: as each theorem states.
  InventoryProofs, InventoryRoots: a slice of digests of one's own, as a stack.
  Conditions: as each theorem states.
  InventoryProofs, InventoryRoots: the hash of nothing; the iterator slices.Backward; a stack's inner loop.
  Conditions: as each theorem states.
  InventoryProofs, InventoryRoots: the tree's stack.
  Conditions: the package variables hold what they hold at the start.
  InventoryProofs, InventoryRoots: slices of records; the tree's outer loop.
  Conditions: the package variables hold what they hold at the start.
  InventoryProofs, InventoryRoots: the tree, whole.
  Conditions: the package variables hold what they hold at the start.
  InventoryProofs, InventoryRoots: split: the greatest power of two below a number.
  Conditions: numbers up to 128.
-/
import Derived.Test.YtdnahgfgoajmcaaDoorG13
namespace Go.Proofs.YtdnahgfgoajmcaaDoor
open Go Go.Abs
attribute [local congr] thenV_congr
/-- Levels at which a node has no sibling. -/
def lvl : Nat → Nat → Nat → Nat × Nat
  | 0, i, b => (i, b)
  | f + 1, i, b => if i % 2 = 0 ∧ i ≠ 0 then lvl f (i / 2) (b / 2) else (i, b)
theorem and1 {i : Nat} (hi : i ≤ 1048576) : bin Tryd.prog .and 3 (i64n i) (.int .i64 1) = some (i64n (i % 2)) := by
  unfold i64n
  rw [bin_int]
  unfold binI bitsA
  simp only
  have e1 : BitVec.ofInt (IntKind.bits .i64) ((i : Nat) : Int) = BitVec.ofNat 64 i := by
    show BitVec.ofInt 64 _ = _
    rw [BitVec.ofInt_natCast]
  have e2 : BitVec.ofInt (IntKind.bits .i64) 1 = BitVec.ofNat 64 1 := rfl
  rw [e1, e2]
  have e3 : (BitVec.ofNat 64 i &&& BitVec.ofNat 64 1).toNat = i % 2 := by
    rw [BitVec.toNat_and, BitVec.toNat_ofNat, BitVec.toNat_ofNat, Nat.mod_eq_of_lt (by omega), show 1 % 2 ^ 64 = 1 from rfl, Nat.and_one_is_mod]
  show some (Value.int .i64 (IntKind.wrap .i64 (((BitVec.ofNat 64 i &&& BitVec.ofNat 64 1).toNat : Nat) : Int))) = _
  rw [e3, wrap_i64 (by omega) (by omega)]
theorem shr1 {i : Nat} : bin Tryd.prog .shr 3 (i64n i) (.int .u64 1) = some (i64n (i / 2)) := bin_shr_nat Tryd.prog 3 (k := .i64) (k' := .u64) (b := 1) (by decide)
theorem lvl_le : ∀ (f i b : Nat), (lvl f i b).1 ≤ i ∧ (lvl f i b).2 ≤ b
  | 0, i, b => ⟨Nat.le_refl _, Nat.le_refl _⟩
  | f + 1, i, b => by
    rw [lvl]
    split
    · have := lvl_le f (i / 2) (b / 2)
      omega
    · exact ⟨Nat.le_refl _, Nat.le_refl _⟩
theorem vrf1 {h : Heap} {i b : Nat} (hi : i ≤ 1048576) (hb : b ≤ 1048576) {q5 q11 q35 q36 q37 : Value} {x : Nat → Value} (x2 : x 2 = i64n i) (x12 : x 12 = i64n b) (x5 : x 5 = q5) (x11 : x 11 = q11) (x35 : x 35 = q35) (x36 : x 36 = q36) (x37 : x 37 = q37) :
    Fin 80 (fun ex y g => ex = .exit 2 ∧ y 2 = i64n (lvl i i b).1 ∧ y 12 = i64n (lvl i i b).2 ∧ y 5 = q5 ∧ y 11 = q11 ∧ y 35 = q35 ∧ y 36 = q36 ∧ y 37 = q37 ∧ g = h) (iter (codeA Tryd.prog CW (partOf Tryd.f31 [1, 1, 1, 0, 1, 0, 0, 1, 1, 0, 0, 1, 1, 0, 1, 0, 1, 0, 0])) rounds (mkF 80 x) h) := by
  refine loop_fin (t31l31_111010011001101010_eq CW) (Inv := fun k y g => ∃ i' b', i' ≤ k ∧ i' ≤ 1048576 ∧ b' ≤ 1048576 ∧ y 2 = i64n i' ∧ y 12 = i64n b' ∧ y 5 = q5 ∧ y 11 = q11 ∧ y 35 = q35 ∧ y 36 = q36 ∧ y 37 = q37 ∧ g = h ∧ lvl k i' b' = lvl i i b) ?_ i (by have : rounds = 18446744073709551616 := rfl; omega) ⟨i, b, Nat.le_refl _, hi, hb, x2, x12, x5, x11, x35, x36, x37, rfl, rfl⟩
  rintro k y g ⟨i', b', hk, hi', hb', y2, y12, y5, y11, y35, y36, y37, rfl, hl⟩
  unfold t31l31_111010011001101010
  have e0 : bin Tryd.prog .eql 3 (i64n (i' % 2)) (.int .i64 0) = some (.bool (decide (i' % 2 = 0))) := by
    unfold i64n
    rw [bin_eql]
    congr 2
    rw [Bool.eq_iff_iff]
    simp only [beq_iff_eq, decide_eq_true_eq]
    omega
  have e1 : bin Tryd.prog .neq 3 (i64n i') (.int .i64 0) = some (.bool (decide (i' ≠ 0))) := by
    unfold i64n
    rw [bin_neq]
    congr 2
    rw [Bool.eq_iff_iff]
    simp only [bne_iff_ne, ne_eq, decide_eq_true_eq]
    omega
  by_cases c0 : i' % 2 = 0
  · rw [decide_eq_true c0] at e0
    by_cases c1 : i' ≠ 0
    · rw [decide_eq_true c1] at e1
      cases k with
      | zero => omega
      | succ k =>
        simp -implicitDefEqProofs only [y2, y12, and1 hi', e0, e1, shr1, bOf_bool, beq_self_eq_true, guardK_true, if_true, thenV_some, pu_some]
        refine Rnd.next k (by omega) ⟨i' / 2, b' / 2, by omega, by omega, by omega, rfl, rfl, y5, y11, y35, y36, y37, rfl, ?_⟩
        rw [← hl, lvl, if_pos ⟨c0, c1⟩]
    · rw [decide_eq_false c1] at e1
      simp -implicitDefEqProofs only [y2, and1 hi', e0, e1, bOf_bool, beq_self_eq_true, guardK_true, if_true, thenV_some, pu_some]
      have hl' : lvl k i' b' = (i', b') := by
        cases k with
        | zero => rfl
        | succ k => rw [lvl, if_neg (fun q => c1 q.2)]
      rw [hl'] at hl
      exact Rnd.out 2 ⟨rfl, by rw [← hl]; exact y2, by rw [← hl]; exact y12, y5, y11, y35, y36, y37, rfl⟩
  · rw [decide_eq_false c0] at e0
    simp -implicitDefEqProofs only [y2, and1 hi', e0, bOf_bool, fs, guardK_false, Bool.false_eq_true, if_false, thenV_some, pu_some]
    have hl' : lvl k i' b' = (i', b') := by
      cases k with
      | zero => rfl
      | succ k => rw [lvl, if_neg (fun q => c0 q.1)]
    rw [hl'] at hl
    exact Rnd.out 2 ⟨rfl, by rw [← hl]; exact y2, by rw [← hl]; exact y12, y5, y11, y35, y36, y37, rfl⟩
end Go.Proofs.YtdnahgfgoajmcaaDoor

namespace Go.Proofs.YtdnahgfgoajmcaaDoor
open Go Go.Abs
attribute [local congr] thenV_congr
/-- A slice of digests that can be read in every heap in which its block is as it was. -/
def PR (h : Heap) (v : Value) (P : List (List Nat)) : Prop :=
  (∃ a c, v = .slice a P.length c) ∧ (∀ p ∈ P, D32 p) ∧ ∀ j, j < P.length → ∃ b o, idxS 32 v (i64n j) = some (ptr b o) ∧ b < h.next ∧ ∀ g : Heap, g.get b = h.get b → ldN 32 (ptr b o) g = some (.agg (u8s (P.getD j [])).toArray, g)
/-- How Verify climbs: none where it stops at once. -/
def vr : List (List Nat) → Nat → Nat → List Nat → Option (Nat × List Nat)
  | [], _, b, D => some (b, D)
  | p :: P, i, b, D => if b = 0 then none else if i % 2 = 1 ∨ i = b then vr P ((lvl i i b).1 / 2) ((lvl i i b).2 / 2) (nodeD p D) else vr P (i / 2) (b / 2) (nodeD D p)
set_option maxRecDepth 100000 in
theorem vrf2 {h : Heap} (hG : 4 ≤ h.n0) (hz : h.get 3 = some roundsL) {v : Value} {P : List (List Nat)} (hP : PR h v P) {d i b : Nat} {D : List Nat} (hD : D32 D) (_hd : h.next ≤ d + 1) (hd0 : h.n0 ≤ d) (hdg : h.get d = some (u8s D)) (hPd : ∀ j b o, j < P.length → idxS 32 v (i64n j) = some (ptr b o) → ¬ b = d) (hd3 : ¬ 3 = d) (hi : i ≤ 1048576) (hb : b ≤ 1048576) (hl : P.length ≤ 1000000)
    {q5 : Value} {x : Nat → Value} (x2 : x 2 = i64n i) (x12 : x 12 = i64n b) (x5 : x 5 = q5) (x11 : x 11 = ptr d 0) (x35 : x 35 = v) (x36 : x 36 = i64n P.length) (x37 : x 37 = i64n 0) :
    Fin 80 (fun ex y g => Kept h g (· = d) ∧ y 5 = q5 ∧ ((ex = .ret ∧ y 10 = .bool false ∧ vr P i b D = none) ∨ (ex = .exit 0 ∧ ∃ b' D', y 12 = i64n b' ∧ y 11 = ptr d 0 ∧ g.get d = some (u8s D') ∧ D32 D' ∧ vr P i b D = some (b', D')))) (iter (codeA Tryd.prog CW (partOf Tryd.f31 [1, 1, 1, 0, 1, 0, 0])) rounds (mkF 80 x) h) := by
  refine loop_fin (t31l31_111010_eq CW) (Inv := fun k y g => ∃ j i' b' D', j + k = P.length ∧ y 2 = i64n i' ∧ y 12 = i64n b' ∧ y 5 = q5 ∧ y 11 = ptr d 0 ∧ y 35 = v ∧ y 36 = i64n P.length ∧ y 37 = i64n j ∧ D32 D' ∧ i' ≤ 1048576 ∧ b' ≤ 1048576 ∧ g.get d = some (u8s D') ∧ Kept h g (· = d) ∧ vr (P.drop j) i' b' D' = vr P i b D) ?_ P.length (by have : rounds = 18446744073709551616 := rfl; omega) ⟨0, i, b, D, Nat.zero_add _, x2, x12, x5, x11, x35, x36, x37, hD, hi, hb, hdg, Kept.refl _ _, rfl⟩
  rintro k y g ⟨j, i', b', D', hjk, y2, y12, y5, y11, y35, y36, y37, dD, li, lb, gd, K, hv⟩
  unfold t31l31_111010
  simp -implicitDefEqProofs only [y36, y37, lss3, thenV_some, pu_some]
  by_cases hj : j < P.length
  · obtain ⟨bb, oo, ix, hbb, lp⟩ := hP.2.2 j hj
    have hne := hPd j bb oo hj ix
    have hp : P.drop j = P.getD j [] :: P.drop (j + 1) := by
      rw [List.drop_eq_getElem_cons hj, List.getD_eq_getElem?_getD, List.getElem?_eq_getElem hj]
      rfl
    have dp : D32 (P.getD j []) := hP.2.1 _ (by
      rw [List.getD_eq_getElem?_getD, List.getElem?_eq_getElem hj]
      exact List.getElem_mem hj)
    generalize hpp : P.getD j [] = p at *
    have L1 := lp g (Kept.get K bb hbb hne)
    have cp := dig_cells dp
    obtain ⟨g2, z2, o2, g2', n2⟩ := fresh (List.replicate 32 (.int .u8 0)) g
    obtain ⟨g3, e3, k3, g3', _, n3⟩ := stored_all (n := 32) (k' := u8s p) g2' (by rw [o2.n0]; exact g.n0_le_next) rfl cp.1 cp.2.2
    have o3 : Old g g3 := Old.of_new o2 k3 (Nat.le_refl _)
    have hdl := g.lt_of_get gd
    have gd3 : g3.get d = some (u8s D') := Old.get o3 gd
    have e0 : bin Tryd.prog .eql 3 (i64n b') (.int .i64 0) = some (.bool (decide (b' = 0))) := by
      unfold i64n
      rw [bin_eql]
      congr 2
      rw [Bool.eq_iff_iff]
      simp only [beq_iff_eq, decide_eq_true_eq]
      omega
    have K3 : Kept h g3 (· = d) := K.trans (o3.mono (fun _ _ h => h.elim))
    rw [hp, vr] at hv
    by_cases c0 : b' = 0
    · rw [decide_eq_true c0] at e0
      simp -implicitDefEqProofs only [decide_eq_true hj, y35, y12, ix, L1, z2, e3, e0, thenV_some, pu_some]
      rw [if_pos c0] at hv
      exact Rnd.ret ⟨K3, y5, .inl ⟨rfl, rfl, hv.symm⟩⟩
    · rw [decide_eq_false c0] at e0
      rw [if_neg c0] at hv
      have e1 : bin Tryd.prog .eql 3 (i64n (i' % 2)) (.int .i64 1) = some (.bool (decide (i' % 2 = 1))) := by
        unfold i64n
        rw [bin_eql]
        congr 2
        rw [Bool.eq_iff_iff]
        simp only [beq_iff_eq, decide_eq_true_eq]
        omega
      have e2 : bin Tryd.prog .eql 3 (i64n i') (i64n b') = some (.bool (decide (i' = b'))) := by
        unfold i64n
        rw [bin_eql]
        congr 2
        rw [Bool.eq_iff_iff]
        simp only [beq_iff_eq, decide_eq_true_eq]
        omega
      have cd := dig_cells dD
      have L14 := ldN_all g3' cp.1 cp.2.1
      have L11 := ldN_all gd3 cd.1 cd.2.1
      have hG3 : 4 ≤ g3.n0 := by rw [K3.n0]; exact hG
      have Z3 : g3.get 3 = some roundsL := Kept.getE K3 hz hd3
      have hd3n : g3.n0 ≤ d := by rw [K3.n0]; exact hd0
      by_cases hc : i' % 2 = 1 ∨ i' = b'
      · rw [if_pos hc] at hv
        obtain ⟨g4, e4, o4⟩ := r70 (h := g3) hG3 Z3 dp dD
        have dn := dig_cells (nodeD_ok p D')
        obtain ⟨g5, e5, k5, g5', _, n5⟩ := stored_all (n := 32) (k' := u8s (nodeD p D')) (Old.get o4 gd3) (by rw [o4.n0]; exact hd3n) cd.1 dn.1 dn.2.2
        by_cases c1 : i' % 2 = 1
        · rw [decide_eq_true c1] at e1
          simp -implicitDefEqProofs only [decide_eq_true hj, y2, y35, y12, y11, ix, L1, z2, e3, e0, and1 li, e1, L14, L11, e4, e5, thenV_some, pu_some, bOf_bool, guardK_false, if_true, show (some true == some false) = false from rfl]
          refine endL_fin (n := 80) (Q := fun o => Rnd 80 _ _ k o) (vrf1 (h := g5) (i := i') (b := b') li lb (q5 := q5) (q11 := ptr d 0) (q35 := v) (q36 := i64n P.length) (q37 := i64n j) y2 y12 y5 y11 y35 y36 y37) ?_
          rintro _ z g6 ⟨rfl, z2', z12, z5, z11, z35, z36, z37, rfl⟩
          simp -implicitDefEqProofs only [endL_exit, b31_20, if_true, t31k31_17_eq]
          unfold t31k31_17
          simp -implicitDefEqProofs only [z2', z12, shr1, thenV_some, pu_some, t31k31_11_eq]
          unfold t31k31_11
          have a37 : bin Tryd.prog .add 3 (i64n j) (.int .i64 1) = some (i64n (j + 1)) := add31 (by omega)
          have z37' : up z [(2, i64n ((lvl i' i' b').1 / 2)), (12, i64n ((lvl i' i' b').2 / 2)), (68, i64n (lvl i' i' b').1), (69, i64n ((lvl i' i' b').1 / 2)), (70, i64n (lvl i' i' b').2), (71, i64n ((lvl i' i' b').2 / 2))] 37 = i64n j := z37
          simp -implicitDefEqProofs only [z37', a37, thenV_some, pu_some]
          have hll := lvl_le i' i' b'
          exact Rnd.next (k - 1) (by omega) ⟨j + 1, (lvl i' i' b').1 / 2, (lvl i' i' b').2 / 2, nodeD p D', by omega, rfl, rfl, z5, z11, z35, z36, rfl, nodeD_ok _ _, by omega, by omega, g5', (K3.trans (o4.mono (fun _ _ h => h.elim))).trans k5, hv⟩
        · have c2 : i' = b' := hc.resolve_left c1
          rw [decide_eq_false c1] at e1
          rw [decide_eq_true c2] at e2
          simp -implicitDefEqProofs only [decide_eq_true hj, y2, y35, y12, y11, ix, L1, z2, e3, e0, and1 li, e1, e2, L14, L11, e4, e5, thenV_some, pu_some, bOf_bool, beq_self_eq_true, guardK_true, Bool.false_eq_true, if_false]
          refine endL_fin (n := 80) (Q := fun o => Rnd 80 _ _ k o) (vrf1 (h := g5) (i := i') (b := b') li lb (q5 := q5) (q11 := ptr d 0) (q35 := v) (q36 := i64n P.length) (q37 := i64n j) y2 y12 y5 y11 y35 y36 y37) ?_
          rintro _ z g6 ⟨rfl, z2', z12, z5, z11, z35, z36, z37, rfl⟩
          simp -implicitDefEqProofs only [endL_exit, b31_20, if_true, t31k31_17_eq]
          unfold t31k31_17
          simp -implicitDefEqProofs only [z2', z12, shr1, thenV_some, pu_some, t31k31_11_eq]
          unfold t31k31_11
          have a37 : bin Tryd.prog .add 3 (i64n j) (.int .i64 1) = some (i64n (j + 1)) := add31 (by omega)
          have z37' : up z [(2, i64n ((lvl i' i' b').1 / 2)), (12, i64n ((lvl i' i' b').2 / 2)), (68, i64n (lvl i' i' b').1), (69, i64n ((lvl i' i' b').1 / 2)), (70, i64n (lvl i' i' b').2), (71, i64n ((lvl i' i' b').2 / 2))] 37 = i64n j := z37
          simp -implicitDefEqProofs only [z37', a37, thenV_some, pu_some]
          have hll := lvl_le i' i' b'
          exact Rnd.next (k - 1) (by omega) ⟨j + 1, (lvl i' i' b').1 / 2, (lvl i' i' b').2 / 2, nodeD p D', by omega, rfl, rfl, z5, z11, z35, z36, rfl, nodeD_ok _ _, by omega, by omega, g5', (K3.trans (o4.mono (fun _ _ h => h.elim))).trans k5, hv⟩
      · rw [if_neg hc] at hv
        rw [decide_eq_false (fun q => hc (.inl q))] at e1
        rw [decide_eq_false (fun q => hc (.inr q))] at e2
        obtain ⟨g4, e4, o4⟩ := r70 (h := g3) hG3 Z3 dD dp
        have dn := dig_cells (nodeD_ok D' p)
        obtain ⟨g5, e5, k5, g5', _, n5⟩ := stored_all (n := 32) (k' := u8s (nodeD D' p)) (Old.get o4 gd3) (by rw [o4.n0]; exact hd3n) cd.1 dn.1 dn.2.2
        have a37 : bin Tryd.prog .add 3 (i64n j) (.int .i64 1) = some (i64n (j + 1)) := add31 (by omega)
        simp -implicitDefEqProofs only [decide_eq_true hj, y2, y35, y12, y11, ix, L1, z2, e3, e0, and1 li, e1, e2, L14, L11, e4, e5, shr1, a37, thenV_some, pu_some, bOf_bool, beq_self_eq_true, guardK_true, Bool.false_eq_true, if_false]
        exact Rnd.next (k - 1) (by omega) ⟨j + 1, i' / 2, b' / 2, nodeD D' p, by omega, rfl, rfl, y5, y11, y35, y36, rfl, nodeD_ok _ _, by omega, by omega, g5', (K3.trans (o4.mono (fun _ _ h => h.elim))).trans k5, hv⟩
  · have hj2 : j = P.length := by omega
    subst hj2
    simp -implicitDefEqProofs only [decide_eq_false hj]
    rw [List.drop_length, vr] at hv
    exact Rnd.out 0 ⟨K, y5, .inr ⟨rfl, b', D', y12, y11, gd, dD, hv.symm⟩⟩
end Go.Proofs.YtdnahgfgoajmcaaDoor

namespace Go.Proofs.YtdnahgfgoajmcaaDoor
open Go Go.Abs
attribute [local congr] thenV_congr
theorem eqD35 {a b : List Nat} (wa : D32 a) (wb : D32 b) : bin Tryd.prog .eql 35 (.agg (u8s a).toArray) (.agg (u8s b).toArray) = some (.bool (decide (a = b))) := by
  obtain ⟨r, hr, hrun⟩ := dig_run (d := 9998) (dig_typed wa) (dig_typed wb)
  have hr' : r = decide (a = b) := by
    by_cases e : a = b
    · rw [decide_eq_true e, hr.2 (by rw [e])]
    · rw [decide_eq_false e]
      cases r with
      | false => rfl
      | true => exact absurd (u8s_inj (hr.1 rfl)) e
  rw [← hr']
  exact (bin_agg (by kernel_rfl) (ground_agg (dig_typed wa).all.2.2) (ground_agg (dig_typed wb).all.2.2) hrun).1
theorem eql0 (b : Nat) : bin Tryd.prog .eql 3 (i64n b) (.int .i64 0) = some (.bool (decide (b = 0))) := by
  unfold i64n
  rw [bin_eql]
  congr 2
  rw [Bool.eq_iff_iff]
  simp only [beq_iff_eq, decide_eq_true_eq]
  omega
/-- What Verify returns. -/
def verB (R : List Nat) (n i : Int) (r : RecD) (P : List (List Nat)) : Bool :=
  if recB r = true ∧ n ≤ 1048576 ∧ 0 ≤ i ∧ i < n then (match vr P i.toNat (n - 1).toNat (leafD r) with | some (b, D) => decide (b = 0) && decide (D = R) | none => false) else false
theorem is31 : IsFn Tryd.prog 31 Tryd.f31 := ⟨by kernel_rfl, by kernel_rfl, by kernel_rfl, by kernel_rfl⟩
theorem results31 : Tryd.f31.results.toList = [.tmp 10] := by kernel_rfl
theorem PR.mono {h h' : Heap} {v : Value} {P : List (List Nat)} (x : PR h v P) (o : Old h h') : PR h' v P := by
  refine ⟨x.1, x.2.1, fun j hj => ?_⟩
  obtain ⟨b, q, h1, h2, h3⟩ := x.2.2 j hj
  have hb : h'.get b = h.get b := Kept.get o b h2 (fun h => h)
  exact ⟨b, q, h1, Nat.lt_of_lt_of_le h2 o.next, fun g e => h3 g (e.trans hb)⟩
set_option maxRecDepth 100000 in
/-- Verify -/
theorem r31 {h : Heap} (hG : 4 ≤ h.n0) (hz : h.get 3 = some roundsL) {R : List Nat} (wR : D32 R) {n i : Int} (hn : I64 n) (hi : I64 i) {r : RecD} (w : r.Wf) {v : Value} {P : List (List Nat)} (hP : PR h v P) (hl : P.length ≤ 1000000) :
    ∃ h', CW 31 [.agg (u8s R).toArray, .int .i64 n, .int .i64 i, .agg (recC r).toArray, v] h = some (.bool (verB R n i r P), h') ∧ Old h h' := by
  have cR := dig_cells wR
  have b1 := box_at h _ cR.2.2
  have o1 : Old h (h.alloc (u8s R)) := Kept.alloc _ _ _
  have g1 : (h.alloc (u8s R)).get h.next = some (u8s R) := by rw [Heap.get_alloc, if_pos rfl]
  have n1 : (h.alloc (u8s R)).next = h.next + 1 := Heap.next_alloc ..
  generalize h.alloc (u8s R) = h1 at *
  obtain ⟨h2, b2, o2, g2, n2⟩ := rec_box2 h1 w
  have O2 := o1.trans o2
  have L2 := ldN_all g2 (rec_cells w).1 (rec_cells w).2.1
  obtain ⟨h3, e3, o3⟩ := r42 (h := h2) (by rw [O2.n0]; exact hG) w
  have O3 := O2.trans o3
  have gt : bin Tryd.prog .gtr 3 (.int .i64 n) (.int .i64 1048576) = some (.bool (decide (n > 1048576))) := bin_gtr ..
  have lt0 : bin Tryd.prog .lss 3 (.int .i64 i) (.int .i64 0) = some (.bool (decide (i < 0))) := bin_lss ..
  have ge : bin Tryd.prog .geq 3 (.int .i64 i) (.int .i64 n) = some (.bool (decide (i ≥ n))) := bin_geq ..
  by_cases hc : recB r = true ∧ n ≤ 1048576 ∧ 0 ≤ i ∧ i < n
  · obtain ⟨va, c1, c2, c3⟩ := hc
    obtain ⟨iN, rfl⟩ : ∃ k : Nat, i = k := ⟨i.toNat, (Int.toNat_of_nonneg c2).symm⟩
    obtain ⟨nN, rfl⟩ : ∃ k : Nat, n = k := ⟨n.toNat, (Int.toNat_of_nonneg (by omega)).symm⟩
    rw [va] at e3
    rw [decide_eq_false (by omega)] at gt lt0 ge
    have L3 := ldN_all (o3.get g2) (rec_cells w).1 (rec_cells w).2.1
    obtain ⟨h4, e4, o4⟩ := r69 (h := h3) (by rw [O3.n0]; exact hG) (Old.get O3 hz) w va
    have O4 := O3.trans o4
    have sb : bin Tryd.prog .sub 3 (.int .i64 (nN : Int)) (.int .i64 1) = some (i64n (nN - 1)) := by
      unfold i64n
      rw [bin_sub, show (nN : Int) - 1 = ((nN - 1 : Nat) : Int) by omega, wrap_i64 (by omega) (by omega)]
    obtain ⟨h5, z5, o5, g5, n5⟩ := fresh (List.replicate 32 (.int .u8 0)) h4
    have dl := dig_cells (leafD_ok r)
    obtain ⟨h6, e6, k6, g6, _, n6⟩ := stored_all (n := 32) (k' := u8s (leafD r)) g5 (by rw [o5.n0]; exact h4.n0_le_next) rfl dl.1 dl.2.2
    have o6 : Old h4 h6 := Old.of_new o5 k6 (Nat.le_refl _)
    have O6 : Old h h6 := O4.trans o6
    obtain ⟨⟨pa, pc, hvv⟩, hPd, hPe⟩ := hP
    have hll : lenL v = some (i64n P.length) := by rw [hvv]; rfl
    have hP6 : PR h6 v P := PR.mono ⟨⟨pa, pc, hvv⟩, hPd, hPe⟩ O6
    have hn0 := h.n0_le_next
    have m4 := O4.next
    have hver : verB R nN iN r P = (match vr P iN (nN - 1) (leafD r) with | some (b, D) => decide (b = 0) && decide (D = R) | none => false) := by
      unfold verB
      rw [if_pos ⟨va, c1, c2, c3⟩, Int.toNat_natCast, show ((nN : Int) - 1).toNat = nN - 1 by omega]
    have key : ∃ o : Out, t31 CW (.agg (u8s R).toArray) (.int .i64 (nN : Int)) (.int .i64 (iN : Int)) (.agg (recC r).toArray) v h = o ∧ ∃ h', o = some (.bool (verB R nN iN r P), h') ∧ Old h h' := by
      refine ⟨_, rfl, ?_⟩
      unfold t31
      simp -implicitDefEqProofs only [b1, b2, L2, e3, gt, lt0, ge, L3, e4, sb, z5, e6, hll, unA_not, Bool.not_true, thenV_some, pu_some, bOf_bool, beq_self_eq_true, guardK_true, Bool.false_eq_true, if_false]
      refine endL_fin (Q := fun o : Out => ∃ h', o = some (.bool (verB R nN iN r P), h') ∧ Old h h') (vrf2 (h := h6) (by rw [O6.n0]; exact hG) (Old.get O6 hz) hP6 (d := h4.next) (i := iN) (b := nN - 1) (leafD_ok r) (by omega) (by rw [O6.n0]; omega) g6 (fun j b q hj e => by
        obtain ⟨b', q', h1, h2, _⟩ := hPe j hj
        rw [h1] at e
        cases e
        omega) (by have := h4.n0_le_next; rw [O4.n0] at this; omega) (by omega) (by omega) hl (q5 := ptr h.next 0) rfl rfl rfl rfl rfl rfl rfl) ?_
      rintro ex y g ⟨K, y5, ⟨rfl, y10, hv⟩ | ⟨rfl, b', D', y12, y11, gd, dD, hv⟩⟩
      · have Og : Old h g := Old.of_new O6 K (by omega)
        rw [endL_ret, res_one results31 (by decide), y10]
        refine ⟨g, ?_, Og⟩
        rw [hver, hv]
      · have Og : Old h g := Old.of_new O6 K (by omega)
        simp -implicitDefEqProofs only [endL_exit, b31_7, if_true, t31k31_5_eq]
        unfold t31k31_5
        have gR : g.get h.next = some (u8s R) := Kept.getE K (Old.get (((o2.trans o3).trans o4).trans o6) g1) (by have := o1.next; have := o2.next; have := o3.next; have := o4.next; omega)
        have LR := ldN_all gR cR.1 cR.2.1
        have cD := dig_cells dD
        have LD := ldN_all gd cD.1 cD.2.1
        have e0 := eql0 b'
        have eD := eqD35 dD wR
        refine ⟨g, ?_, Og⟩
        rw [hver, hv]
        by_cases cb : b' = 0
        · rw [decide_eq_true cb] at e0
          simp -implicitDefEqProofs only [y12, y11, y5, e0, LD, LR, eD, decide_eq_true cb, thenV_some, pu_some, bOf_bool, beq_self_eq_true, guardK_true, if_true, Bool.true_and]
        · rw [decide_eq_false cb] at e0
          simp -implicitDefEqProofs only [y12, e0, decide_eq_false cb, thenV_some, pu_some, bOf_bool, fs, guardK_false, Bool.false_eq_true, if_false, Bool.false_and]
    obtain ⟨o9, e, h', e', q⟩ := key
    exact ⟨h', CW_body is31 hG rfl ((t31_eq _ _ _ _ _ _ _).trans (e.trans e')), q⟩
  · have hv : verB R n i r P = false := by unfold verB; rw [if_neg hc]
    rw [hv]
    refine ⟨h3, CW_body is31 hG rfl ((t31_eq _ _ _ _ _ _ _).trans ?_), O3⟩
    unfold t31
    cases va : recB r with
    | false =>
      rw [va] at e3
      simp -implicitDefEqProofs only [b1, b2, L2, e3, unA_not, Bool.not_false, thenV_some, pu_some, bOf_bool, guardK_false, if_true, show (some true == some false) = false from rfl]
    | true =>
      rw [va] at e3
      by_cases c1 : n > 1048576
      · simp -implicitDefEqProofs only [b1, b2, L2, e3, gt, decide_eq_true c1, unA_not, Bool.not_true, thenV_some, pu_some, bOf_bool, beq_self_eq_true, guardK_true, guardK_false, Bool.false_eq_true, if_false, if_true, show (some true == some false) = false from rfl]
      · by_cases c2 : i < 0
        · simp -implicitDefEqProofs only [b1, b2, L2, e3, gt, lt0, decide_eq_false c1, decide_eq_true c2, unA_not, Bool.not_true, thenV_some, pu_some, bOf_bool, beq_self_eq_true, guardK_true, guardK_false, Bool.false_eq_true, if_false, if_true, show (some true == some false) = false from rfl]
        · have c3 : i ≥ n := by
            apply Int.not_lt.1
            intro q
            exact hc ⟨va, by omega, by omega, q⟩
          simp -implicitDefEqProofs only [b1, b2, L2, e3, gt, lt0, ge, decide_eq_false c1, decide_eq_false c2, decide_eq_true c3, unA_not, Bool.not_true, thenV_some, pu_some, bOf_bool, beq_self_eq_true, guardK_true, Bool.false_eq_true, if_false]
end Go.Proofs.YtdnahgfgoajmcaaDoor

namespace Go.Proofs.YtdnahgfgoajmcaaDoor
open Go Go.Abs
attribute [local congr] thenV_congr
/-- How the document climbs; the proof from its end. -/
def clG : List (List Nat) → Nat → Nat → List Nat → List Nat × Bool
  | [], n, _, D => (D, decide (n = 1))
  | p :: Q, n, i, D => if n = 1 then (D, false) else if i < halfN n then (nodeR (clG Q (halfN n) i D).1 p, (clG Q (halfN n) i D).2) else (nodeR p (clG Q (n - halfN n) (i - halfN n) D).1, (clG Q (n - halfN n) (i - halfN n) D).2)
theorem clG_cons (p : List Nat) (Q : List (List Nat)) (n i : Nat) (D : List Nat) : clG (p :: Q) n i D = if n = 1 then (D, false) else if i < halfN n then (nodeR (clG Q (halfN n) i D).1 p, (clG Q (halfN n) i D).2) else (nodeR p (clG Q (n - halfN n) (i - halfN n) D).1, (clG Q (n - halfN n) (i - halfN n) D).2) := rfl
theorem halfG_ge : ∀ (f m n : Nat), m ≤ halfG f m n
  | 0, m, n => Nat.le_refl _
  | f + 1, m, n => by
    rw [halfG]
    split
    · exact Nat.le_trans (by omega) (halfG_ge f (2 * m) n)
    · exact Nat.le_refl _
theorem halfG_lt : ∀ (f m n : Nat), m < n → halfG f m n < n
  | 0, m, n, h => h
  | f + 1, m, n, h => by
    rw [halfG]
    split
    · exact halfG_lt f (2 * m) n (by assumption)
    · exact h
theorem half_pos (n : Nat) : 1 ≤ halfN n := halfG_ge _ _ _
theorem half_lt {n : Nat} (h : 2 ≤ n) : halfN n < n := halfG_lt _ _ _ h
theorem eql1 (n : Nat) : bin Tryd.prog .eql 3 (i64n n) (.int .i64 1) = some (.bool (decide (n = 1))) := by
  unfold i64n
  rw [bin_eql]
  congr 2
  rw [Bool.eq_iff_iff]
  simp only [beq_iff_eq, decide_eq_true_eq]
  omega
theorem sub_nn {a b : Nat} (h : b ≤ a) (ha : a < 9223372036854775808) : bin Tryd.prog .sub 3 (i64n a) (i64n b) = some (i64n (a - b)) := by
  unfold i64n
  rw [bin_sub, show (a : Int) - (b : Int) = ((a - b : Nat) : Int) by omega, wrap_i64 (by omega) (by omega)]
theorem sub_n1 {a : Nat} (h : 1 ≤ a) (ha : a < 9223372036854775808) : bin Tryd.prog .sub 3 (i64n a) (.int .i64 1) = some (i64n (a - 1)) := sub_nn (b := 1) h ha
/-- A slice whose parts can be taken. -/
def gS (v : Value) : Prop := ∃ a n c, v = .slice a n c ∧ n ≤ c ∧ (0 < n → ∀ b o s, a = some ⟨b, o, some s⟩ → s = 32)
theorem PR.cut {h : Heap} {v : Value} {P : List (List Nat)} {p : List Nat} (x : PR h v (P ++ [p])) (g : gS v) :
    ∃ v', slR 32 v none (some (i64n P.length)) none = some v' ∧ PR h v' P ∧ gS v' := by
  obtain ⟨⟨a, c, rfl⟩, hd, hp⟩ := x
  rw [List.length_append, List.length_singleton] at *
  obtain ⟨a', n', c', e, hle, hs⟩ := g
  cases e
  obtain ⟨b0, o0, e0, _⟩ := hp 0 (by omega)
  cases a with
  | none => cases e0
  | some A =>
    obtain ⟨b, off, sp⟩ := A
    have hb : boundsA (P.length + 1) c none (some (i64n P.length)) none = some (0, P.length, c) := by
      have h1 : boundA c c none = some c := rfl
      have h2 : boundA (P.length + 1) c (some (i64n P.length)) = some P.length := by
        unfold boundA i64n
        simp only
        rw [if_pos (by omega)]
        rfl
      unfold boundsA
      rw [h1]
      simp only [h2]
      rfl
    refine ⟨.slice (some ⟨b, off, sp⟩) P.length c, ?_, ⟨⟨_, _, rfl⟩, fun q hq => hd q (List.mem_append_left _ hq), fun j hj => ?_⟩, ⟨_, _, _, rfl, by omega, fun _ => hs (by omega)⟩⟩
    · unfold slR sliceSl
      cases sp with
      | none =>
        simp only [hb]
        rw [if_neg (by omega), Nat.zero_mul, Nat.add_zero, Nat.sub_zero, Nat.sub_zero]
      | some s =>
        have : s = 32 := hs (by omega) b off s rfl
        subst this
        simp only [hb]
        rw [if_pos ⟨True.intro, by decide⟩, Nat.zero_mul, Nat.add_zero, Nat.sub_zero, Nat.sub_zero]
    · obtain ⟨b1, o1, e1, e2, e3⟩ := hp j (by omega)
      have e4 : (P ++ [p]).getD j [] = P.getD j [] := by
        rw [List.getD_eq_getElem?_getD, List.getD_eq_getElem?_getD, List.getElem?_append_left hj]
      rw [e4] at e3
      refine ⟨b1, o1, ?_, e2, e3⟩
      rw [← e1]
      unfold idxS i64n
      simp only
      rw [if_pos (by omega), if_pos (by omega)]
theorem PR.last {h : Heap} {v : Value} {P : List (List Nat)} {p : List Nat} (x : PR h v (P ++ [p])) : ∃ b o, idxS 32 v (i64n P.length) = some (ptr b o) ∧ D32 p ∧ ∀ g : Heap, Old h g → ldN 32 (ptr b o) g = some (.agg (u8s p).toArray, g) := by
  obtain ⟨b, o, e1, e2, e3⟩ := x.2.2 P.length (by rw [List.length_append, List.length_singleton]; omega)
  have e4 : (P ++ [p]).getD P.length [] = p := by
    rw [List.getD_eq_getElem?_getD, List.getElem?_append_right (Nat.le_refl _), Nat.sub_self]
    rfl
  rw [e4] at e3
  exact ⟨b, o, e1, x.2.1 p (List.mem_append_right _ List.mem_cons_self), fun g og => e3 g (Kept.get og b e2 (fun h => h))⟩
theorem PR.len {h : Heap} {v : Value} {P : List (List Nat)} (x : PR h v P) : lenL v = some (i64n P.length) := by
  obtain ⟨⟨a, c, rfl⟩, _, _⟩ := x
  rfl
end Go.Proofs.YtdnahgfgoajmcaaDoor

namespace Go.Proofs.YtdnahgfgoajmcaaDoor
open Go Go.Abs
theorem halfG_s (f m n : Nat) : halfG (f + 1) m n = if 2 * m < n then halfG f (2 * m) n else m := rfl
theorem halfG_fuel : ∀ (f m n : Nat), n ≤ m * 2 ^ (f + 1) → halfG (f + 1) m n = halfG f m n
  | 0, m, n, h => by
    rw [halfG_s, if_neg (by omega)]
    rfl
  | f + 1, m, n, h => by
    rw [halfG_s (f + 1) m n, halfG_s f m n]
    split
    · exact halfG_fuel f (2 * m) n (by
        calc n ≤ m * 2 ^ (f + 1 + 1) := h
          _ = 2 * m * 2 ^ (f + 1) := by rw [Nat.pow_succ 2 (f + 1), Nat.mul_comm (2 ^ (f + 1)) 2, ← Nat.mul_assoc, Nat.mul_comm m 2])
    · rfl
theorem halfG_two : ∀ (f m n : Nat), halfG f (2 * m) n = 2 * halfG f m ((n + 1) / 2)
  | 0, m, n => rfl
  | f + 1, m, n => by
    rw [halfG_s, halfG_s]
    by_cases c : 2 * (2 * m) < n
    · rw [if_pos c, if_pos (by omega), halfG_two f (2 * m) n]
    · rw [if_neg c, if_neg (by omega)]
theorem half_two {n : Nat} (h : 3 ≤ n) (hn : n ≤ 1048576) : halfN n = 2 * halfN ((n + 1) / 2) := by
  unfold halfN
  rw [show halfG 30 1 n = halfG 29 (2 * 1) n by rw [halfG_s, if_pos (by omega)], halfG_two 29 1 n, halfG_fuel 29 1 _ (by omega)]
/-- How a tree with n leaves climbs; none where the proof has the wrong length. -/
def clO : List (List Nat) → Nat → Nat → List Nat → Option (List Nat)
  | [], n, _, D => if n = 1 then some D else none
  | p :: Q, n, i, D => if n = 1 then none else if i < halfN n then (clO Q (halfN n) i D).map (nodeR · p) else (clO Q (n - halfN n) (i - halfN n) D).map (nodeR p ·)
theorem clO_nil (n i : Nat) (D : List Nat) : clO [] n i D = if n = 1 then some D else none := rfl
theorem clO_cons (p : List Nat) (Q : List (List Nat)) (n i : Nat) (D : List Nat) : clO (p :: Q) n i D = if n = 1 then none else if i < halfN n then (clO Q (halfN n) i D).map (nodeR · p) else (clO Q (n - halfN n) (i - halfN n) D).map (nodeR p ·) := rfl
theorem clG_clO : ∀ (Q : List (List Nat)) (n i : Nat) (D : List Nat), clO Q n i D = if (clG Q n i D).2 = true then some (clG Q n i D).1 else none
  | [], n, i, D => by
    rw [clO_nil, show clG [] n i D = (D, decide (n = 1)) from rfl]
    by_cases c : n = 1
    · rw [if_pos c, decide_eq_true c, if_pos rfl]
    · rw [if_neg c, decide_eq_false c]
      rfl
  | p :: Q, n, i, D => by
    rw [clO_cons, clG_cons]
    by_cases c : n = 1
    · rw [if_pos c, if_pos c]
      rfl
    · rw [if_neg c, if_neg c]
      by_cases c2 : i < halfN n
      · rw [if_pos c2, if_pos c2, clG_clO Q]
        generalize clG Q (halfN n) i D = w
        obtain ⟨x, b⟩ := w
        cases b <;> simp only [if_true, Bool.false_eq_true, if_false, Option.map_some, Option.map_none]
      · rw [if_neg c2, if_neg c2, clG_clO Q]
        generalize clG Q (n - halfN n) (i - halfN n) D = w
        obtain ⟨x, b⟩ := w
        cases b <;> simp only [if_true, Bool.false_eq_true, if_false, Option.map_some, Option.map_none]
def stp (i : Nat) (p D : List Nat) : List Nat := if i % 2 = 1 then nodeR p D else nodeR D p
theorem clO_pair : ∀ (n : Nat) (Q : List (List Nat)) (i : Nat) (p D : List Nat), 2 ≤ n → n ≤ 1048576 → i < n → (i % 2 = 1 ∨ i < n - 1) → clO (Q ++ [p]) n i D = clO Q ((n + 1) / 2) (i / 2) (stp i p D) := by
  intro n
  induction n using Nat.strongRecOn with
  | _ n ih =>
    intro Q i p D h2 hn hi hc
    by_cases c2 : n = 2
    · subst c2
      have hh : halfN 2 = 1 := by decide
      cases Q with
      | nil =>
        rw [List.nil_append, clO_cons, hh, if_neg (by omega)]
        have hi2 : i = 0 ∨ i = 1 := by omega
        rcases hi2 with rfl | rfl <;> rfl
      | cons q Q =>
        rw [List.cons_append, clO_cons, hh, if_neg (show ¬ 2 = 1 by omega), clO_cons q Q, if_pos (show (2 + 1) / 2 = 1 by omega)]
        have hx : ∀ j, clO (Q ++ [p]) 1 j D = none := by
          intro j
          cases Q with
          | nil => rw [List.nil_append, clO_cons, if_pos rfl]
          | cons a Q => rw [List.cons_append, clO_cons, if_pos rfl]
        split
        · rw [hx]; rfl
        · rw [hx]; rfl
    · have ht := half_two (n := n) (by omega) hn
      have hp := half_pos ((n + 1) / 2)
      have hl := half_lt h2
      generalize hq : halfN ((n + 1) / 2) = k at *
      cases Q with
      | nil =>
        rw [List.nil_append, clO_cons, ht, if_neg (by omega), clO_nil, clO_nil, clO_nil, if_neg (show ¬ (n + 1) / 2 = 1 by omega), if_neg (show ¬ 2 * k = 1 by omega)]
        split
        · rfl
        · rw [if_neg (by omega)]
          rfl
      | cons q Q =>
        rw [List.cons_append, clO_cons, ht, if_neg (by omega), clO_cons, hq, if_neg (show ¬ (n + 1) / 2 = 1 by omega)]
        by_cases c : i < 2 * k
        · rw [if_pos c, if_pos (show i / 2 < k by omega), ih (2 * k) (by omega) Q i p D (by omega) (by omega) c (by omega), show (2 * k + 1) / 2 = k by omega]
        · have e1 : stp (i - 2 * k) p D = stp i p D := by
            unfold stp
            rw [show (i - 2 * k) % 2 = i % 2 by omega]
          rw [if_neg c, if_neg (show ¬ i / 2 < k by omega), ih (n - 2 * k) (by omega) Q (i - 2 * k) p D (by omega) (by omega) (by omega) (by omega), e1, show (n - 2 * k + 1) / 2 = (n + 1) / 2 - k by omega, show (i - 2 * k) / 2 = i / 2 - k by omega]
theorem clO_up : ∀ (n : Nat) (Q : List (List Nat)) (D : List Nat), 3 ≤ n → n ≤ 1048576 → n % 2 = 1 → clO Q n (n - 1) D = clO Q ((n + 1) / 2) ((n - 1) / 2) D := by
  intro n
  induction n using Nat.strongRecOn with
  | _ n ih =>
    intro Q D h3 hn ho
    have ht := half_two (n := n) (by omega) hn
    have hp := half_pos ((n + 1) / 2)
    have hl := half_lt (n := n) (by omega)
    generalize hq : halfN ((n + 1) / 2) = k at *
    cases Q with
    | nil => rw [clO_nil, clO_nil, if_neg (by omega), if_neg (by omega)]
    | cons q Q =>
      rw [clO_cons, ht, if_neg (show ¬ n = 1 by omega), if_neg (show ¬ n - 1 < 2 * k by omega), clO_cons, hq, if_neg (show ¬ (n + 1) / 2 = 1 by omega), if_neg (show ¬ (n - 1) / 2 < k by omega)]
      by_cases c : n - 2 * k = 1
      · rw [show n - 1 - 2 * k = (n - 1) / 2 - k by omega, show n - 2 * k = (n + 1) / 2 - k by omega]
      · rw [show n - 1 - 2 * k = n - 2 * k - 1 by omega, ih (n - 2 * k) (by omega) Q D (by omega) (by omega) (by omega), show (n - 2 * k + 1) / 2 = (n + 1) / 2 - k by omega, show (n - 2 * k - 1) / 2 = (n - 1) / 2 - k by omega]
theorem lvl_fuel : ∀ (f g i b : Nat), i ≤ f → i ≤ g → lvl f i b = lvl g i b
  | 0, 0, i, b, _, _ => rfl
  | 0, g + 1, i, b, h, _ => by
    rw [lvl, lvl, if_neg (by omega)]
  | f + 1, 0, i, b, _, h => by
    rw [lvl, lvl, if_neg (by omega)]
  | f + 1, g + 1, i, b, h1, h2 => by
    rw [lvl, lvl]
    split
    · exact lvl_fuel f g (i / 2) (b / 2) (by omega) (by omega)
    · rfl
theorem lvl_odd {i : Nat} (b : Nat) (h : i % 2 = 1) : lvl i i b = (i, b) := by
  cases i with
  | zero => omega
  | succ i => rw [lvl, if_neg (by omega)]
theorem vr_up {p : List Nat} {P : List (List Nat)} {i : Nat} {D : List Nat} (h : i % 2 = 0) (h0 : i ≠ 0) : vr (p :: P) i i D = vr (p :: P) (i / 2) (i / 2) D := by
  have e : lvl i i i = lvl (i / 2) (i / 2) (i / 2) := by
    obtain ⟨j, rfl⟩ : ∃ j, i = j + 1 := ⟨i - 1, by omega⟩
    rw [lvl, if_pos ⟨h, h0⟩]
    exact lvl_fuel j _ _ _ (by omega) (Nat.le_refl _)
  rw [vr, if_neg h0, if_pos (.inr rfl), e, vr, if_neg (by omega), if_pos (.inr rfl)]
/-- What Verify's loop leaves, where the climb ends at the root. -/
def vrO (P : List (List Nat)) (i b : Nat) (D : List Nat) : Option (List Nat) := match vr P i b D with | some (b', D') => if b' = 0 then some D' else none | none => none
theorem vr_clO : ∀ (n : Nat) (P : List (List Nat)) (i : Nat) (D : List Nat), 1 ≤ n → n ≤ 1048576 → i < n → vrO P i (n - 1) D = clO P.reverse n i D := by
  intro n
  induction n using Nat.strongRecOn with
  | _ n ih =>
    intro P i D h1 hn hi
    cases P with
    | nil =>
      rw [List.reverse_nil, clO_nil]
      unfold vrO
      rw [vr]
      simp only
      by_cases c : n = 1
      · rw [if_pos c, if_pos (by omega)]
      · rw [if_neg c, if_neg (by omega)]
    | cons p P =>
      by_cases c : n = 1
      · rw [List.reverse_cons]
        have e1 : clO (P.reverse ++ [p]) n i D = none := by
          cases P.reverse with
          | nil => rw [List.nil_append, clO_cons, if_pos c]
          | cons a Q => rw [List.cons_append, clO_cons, if_pos c]
        rw [e1]
        unfold vrO
        rw [vr, if_pos (by omega)]
      · by_cases c1 : i % 2 = 1
        · have e := clO_pair n P.reverse i p D (by omega) hn hi (.inl c1)
          have := ih ((n + 1) / 2) (by omega) P (i / 2) (stp i p D) (by omega) (by omega) (by omega)
          rw [List.reverse_cons, e, ← this]
          unfold vrO stp
          rw [vr, if_neg (by omega), if_pos (.inl c1), lvl_odd _ c1, if_pos c1, node_same, show (n + 1) / 2 - 1 = (n - 1) / 2 by omega]
        · by_cases c2 : i < n - 1
          · have e := clO_pair n P.reverse i p D (by omega) hn hi (.inr c2)
            have := ih ((n + 1) / 2) (by omega) P (i / 2) (stp i p D) (by omega) (by omega) (by omega)
            rw [List.reverse_cons, e, ← this]
            unfold vrO stp
            rw [vr, if_neg (by omega), if_neg (by omega), if_neg c1, node_same, show (n + 1) / 2 - 1 = (n - 1) / 2 by omega]
          · have ei : i = n - 1 := by omega
            subst ei
            have e := clO_up n (p :: P).reverse D (by omega) hn (by omega)
            have := ih ((n + 1) / 2) (by omega) (p :: P) ((n - 1) / 2) D (by omega) (by omega) (by omega)
            rw [e, ← this]
            unfold vrO
            rw [vr_up (by omega) (by omega), show (n + 1) / 2 - 1 = (n - 1) / 2 by omega]
/-- What Verify of the document returns. -/
def verR (R : List Nat) (n i : Int) (r : RecD) (P : List (List Nat)) : Bool :=
  if recB r = true ∧ n ≤ 1048576 ∧ 0 ≤ i ∧ i < n then (clG P.reverse n.toNat i.toNat (leafR r)).2 && decide ((clG P.reverse n.toNat i.toNat (leafR r)).1 = R) else false
theorem ver_same (R : List Nat) (n i : Int) (r : RecD) (P : List (List Nat)) : verB R n i r P = verR R n i r P := by
  unfold verB verR
  by_cases c : recB r = true ∧ n ≤ 1048576 ∧ 0 ≤ i ∧ i < n
  · rw [if_pos c, if_pos c]
    have e := vr_clO n.toNat P i.toNat (leafD r) (by omega) (by omega) (by omega)
    rw [clG_clO, show n.toNat - 1 = (n - 1).toNat by omega, leaf_same] at e
    rw [leaf_same]
    unfold vrO at e
    revert e
    generalize clG P.reverse n.toNat i.toNat (leafR r) = q
    cases vr P i.toNat (n - 1).toNat (leafR r) with
    | none =>
      intro e
      by_cases c : q.2 = true
      · rw [if_pos c] at e; cases e
      · rw [Bool.not_eq_true] at c
        rw [c]; rfl
    | some w =>
      obtain ⟨b, D⟩ := w
      intro e
      simp only at e ⊢
      by_cases c : q.2 = true
      · rw [if_pos c] at e
        by_cases c2 : b = 0
        · rw [if_pos c2] at e
          rw [c, decide_eq_true c2, Option.some.inj e]
        · rw [if_neg c2] at e; cases e
      · rw [if_neg c] at e
        rw [Bool.not_eq_true] at c
        by_cases c2 : b = 0
        · rw [if_pos c2] at e; cases e
        · rw [c, decide_eq_false c2]; rfl
  · rw [if_neg c, if_neg c]
end Go.Proofs.YtdnahgfgoajmcaaDoor

namespace Go.Proofs.YtdnahgfgoajmcaaDoor
open Go Go.Abs
attribute [local congr] thenV_congr
/-- The cells of a list of digests. -/
def digsC (P : List (List Nat)) : List Value := P.flatMap u8s
theorem digsC_len : ∀ {P : List (List Nat)}, (∀ p ∈ P, D32 p) → (digsC P).length = P.length * 32
  | [], _ => rfl
  | p :: P, h => by
    have ih := digsC_len (P := P) fun q hq => h q (List.mem_cons_of_mem _ hq)
    have hp := (dig_cells (h p List.mem_cons_self)).1
    unfold digsC at ih ⊢
    rw [List.flatMap_cons, List.length_append, ih, hp, List.length_cons]
    omega
theorem digsC_get : ∀ {P : List (List Nat)}, (∀ p ∈ P, D32 p) → ∀ {j : Nat}, j < P.length → ((digsC P).drop (j * 32)).take 32 = u8s (P.getD j [])
  | [], _, j, hj => absurd hj (Nat.not_lt_zero j)
  | p :: P, h, j, hj => by
    have hp := (dig_cells (h p List.mem_cons_self)).1
    cases j with
    | zero =>
      unfold digsC
      rw [List.flatMap_cons, Nat.zero_mul, List.drop_zero, ← hp, List.take_left]
      rfl
    | succ j =>
      have ih := digsC_get (P := P) (fun q hq => h q (List.mem_cons_of_mem _ hq)) (j := j) (by rw [List.length_cons] at hj; omega)
      unfold digsC at ih ⊢
      rw [List.flatMap_cons, show (j + 1) * 32 = 32 + j * 32 by omega, ← List.drop_drop, List.drop_left' hp, List.getD_cons_succ, ih]
theorem digsC_ok : ∀ {P : List (List Nat)}, (∀ p ∈ P, D32 p) → Abs.noHoles (digsC P) = true ∧ oneCells (digsC P) = true
  | [], _ => ⟨rfl, rfl⟩
  | p :: P, h => by
    have ih := digsC_ok (P := P) fun q hq => h q (List.mem_cons_of_mem _ hq)
    have hp := dig_cells (h p List.mem_cons_self)
    unfold digsC at ih ⊢
    unfold Abs.noHoles oneCells at *
    rw [List.flatMap_cons, List.all_append, List.all_append, ih.1, ih.2, hp.2.1, hp.2.2]
    exact ⟨rfl, rfl⟩
/-- A slice of digests, its cells in one block. -/
def DgS (h : Heap) (v : Value) (P : List (List Nat)) : Prop := (∀ p ∈ P, D32 p) ∧ SlN h digK v P.length (digsC P)
theorem DgS.pr {h : Heap} {v : Value} {P : List (List Nat)} (x : DgS h v P) : PR h v P := by
  obtain ⟨hd, a, c, rfl, _, _, h0⟩ := x
  refine ⟨⟨_, _, rfl⟩, hd, fun j hj => ?_⟩
  obtain ⟨b, off, s, k, rfl, hk, hlen, hcs⟩ := h0 (by omega)
  rw [show digK.length = 32 from rfl] at hlen hcs
  have hm := mul_le (z := 32) hj
  have e : (k.drop (off + j * 32)).take 32 = u8s (P.getD j []) := by
    rw [← digsC_get hd hj, ← hcs]
    rw [List.drop_take, List.take_take, List.drop_drop, Nat.min_eq_left (by omega)]
  refine ⟨b, off + j * 32, ?_, h.lt_of_get hk, fun g hg => ?_⟩
  · unfold idxS i64n
    simp only
    rw [if_pos (by omega), Int.toNat_natCast]
  · have dp : D32 (P.getD j []) := hd _ (by
      rw [List.getD_eq_getElem?_getD, List.getElem?_eq_getElem hj]
      exact List.getElem_mem hj)
    have := ldN_at (o := off + j * 32) (n := 32) (hg.trans hk) (by omega) (by rw [e]; exact (dig_cells dp).2.1)
    rw [e] at this
    exact this
theorem DgS.mono {h h' : Heap} {v : Value} {P : List (List Nat)} (x : DgS h v P) (o : Old h h') : DgS h' v P := by
  obtain ⟨hd, a, c, rfl, hn, ht, h0⟩ := x
  refine ⟨hd, a, c, rfl, hn, ht, fun hp => ?_⟩
  obtain ⟨b, off, s, k, rfl, hk, hlen, hcs⟩ := h0 hp
  exact ⟨b, off, s, k, rfl, Old.get o hk, hlen, hcs⟩
end Go.Proofs.YtdnahgfgoajmcaaDoor

namespace Go.Proofs.YtdnahgfgoajmcaaDoor
open Go Go.Abs
variable (nd : List Nat → List Nat → List Nat)
/-- The tree hash of leaves, by halves. -/
def treeG : Nat → List (List Nat) → List Nat
  | 0, _ => []
  | f + 1, L => if L.length ≤ 1 then L.headD [] else nd (treeG f (L.take (halfN L.length))) (treeG f (L.drop (halfN L.length)))
def treeN (L : List (List Nat)) : List Nat := treeG nd L.length L
theorem treeG_s (f : Nat) (L : List (List Nat)) : treeG nd (f + 1) L = if L.length ≤ 1 then L.headD [] else nd (treeG nd f (L.take (halfN L.length))) (treeG nd f (L.drop (halfN L.length))) := rfl
theorem treeG_fuel : ∀ (f g : Nat) (L : List (List Nat)), L.length ≤ f → L.length ≤ g → treeG nd f L = treeG nd g L
  | 0, 0, L, _, _ => rfl
  | 0, g + 1, L, h, _ => by
    have : L = [] := List.length_eq_zero_iff.1 (by omega)
    subst this
    rfl
  | f + 1, 0, L, _, h => by
    have : L = [] := List.length_eq_zero_iff.1 (by omega)
    subst this
    rfl
  | f + 1, g + 1, L, h1, h2 => by
    rw [treeG_s nd, treeG_s nd]
    split
    · rfl
    · rename_i c
      have a1 := half_pos L.length
      have a2 := half_lt (n := L.length) (by omega)
      rw [treeG_fuel f g (L.take (halfN L.length)) (by rw [List.length_take]; omega) (by rw [List.length_take]; omega), treeG_fuel f g (L.drop (halfN L.length)) (by rw [List.length_drop]; omega) (by rw [List.length_drop]; omega)]
theorem treeN_two {L : List (List Nat)} (h : 2 ≤ L.length) : treeN nd L = nd (treeN nd (L.take (halfN L.length))) (treeN nd (L.drop (halfN L.length))) := by
  have a1 := half_pos L.length
  have a2 := half_lt h
  unfold treeN
  obtain ⟨f, hf⟩ : ∃ f, L.length = f + 1 := ⟨L.length - 1, by omega⟩
  rw [show treeG nd L.length L = treeG nd (f + 1) L by rw [hf], treeG_s nd, if_neg (by omega), treeG_fuel nd f (L.take (halfN L.length)).length _ (by rw [List.length_take]; omega) (Nat.le_refl _), treeG_fuel nd f (L.drop (halfN L.length)).length _ (by rw [List.length_drop]; omega) (Nat.le_refl _)]
theorem treeN_one (d : List Nat) : treeN nd [d] = d := rfl
/-- One level of the tree. -/
def pairs : List (List Nat) → List (List Nat)
  | a :: b :: L => nd a b :: pairs L
  | L => L
theorem pairs_c (a b : List Nat) (L : List (List Nat)) : pairs nd (a :: b :: L) = nd a b :: pairs nd L := rfl
theorem pairs_len : ∀ (L : List (List Nat)), (pairs nd L).length = (L.length + 1) / 2
  | [] => rfl
  | [a] => by rw [show pairs nd [a] = [a] from rfl, List.length_singleton]
  | a :: b :: L => by
    rw [pairs_c nd, List.length_cons, pairs_len L, List.length_cons, List.length_cons]
    omega
theorem pairs_take : ∀ (k : Nat) (L : List (List Nat)), (pairs nd L).take k = pairs nd (L.take (2 * k))
  | 0, L => by rw [Nat.mul_zero, List.take_zero, List.take_zero]; rfl
  | k + 1, [] => rfl
  | k + 1, [a] => by
    rw [show 2 * (k + 1) = (2 * k + 1) + 1 by omega, List.take_succ_cons, List.take_nil, show pairs nd [a] = [a] from rfl, List.take_succ_cons, List.take_nil]
  | k + 1, a :: b :: L => by
    rw [pairs_c nd, List.take_succ_cons, pairs_take k L, show 2 * (k + 1) = (2 * k + 1) + 1 by omega, List.take_succ_cons, List.take_succ_cons, pairs_c nd]
theorem pairs_drop : ∀ (k : Nat) (L : List (List Nat)), (pairs nd L).drop k = pairs nd (L.drop (2 * k))
  | 0, L => by rw [Nat.mul_zero, List.drop_zero, List.drop_zero]
  | k + 1, [] => by rw [List.drop_nil]; rfl
  | k + 1, [a] => by
    rw [show 2 * (k + 1) = (2 * k + 1) + 1 by omega, List.drop_succ_cons, List.drop_nil]
    rw [show pairs nd [a] = [a] from rfl, List.drop_succ_cons, List.drop_nil]
    rfl
  | k + 1, a :: b :: L => by
    rw [pairs_c nd, List.drop_succ_cons, pairs_drop k L, show 2 * (k + 1) = (2 * k + 1) + 1 by omega, List.drop_succ_cons, List.drop_succ_cons]
theorem treeN_pairs : ∀ (n : Nat) (L : List (List Nat)), L.length = n → n ≤ 1048576 → treeN nd (pairs nd L) = treeN nd L := by
  intro n
  induction n using Nat.strongRecOn with
  | _ n ih =>
    intro L hL hn
    match L, hL with
    | [], _ => rfl
    | [a], _ => rfl
    | [a, b], _ => rfl
    | a :: b :: c :: L, hL =>
      have h3 : 3 ≤ n := by rw [List.length_cons, List.length_cons, List.length_cons] at hL; omega
      generalize a :: b :: c :: L = M at *
      have ht := half_two h3 hn
      have hp := half_pos ((n + 1) / 2)
      have hl := half_lt (n := n) (by omega)
      have pl := pairs_len nd M
      rw [hL] at pl
      rw [treeN_two nd (L := pairs nd M) (by omega), treeN_two nd (L := M) (by omega), pl, pairs_take nd, pairs_drop nd, hL, ht]
      rw [ih (M.take (2 * halfN ((n + 1) / 2))).length (by rw [List.length_take]; omega) _ rfl (by rw [List.length_take]; omega), ih (M.drop (2 * halfN ((n + 1) / 2))).length (by rw [List.length_drop]; omega) _ rfl (by rw [List.length_drop]; omega)]
/-- A hash is put on the stack of complete trees. -/
def push : Nat → List Nat → List (List Nat) → Nat → List (List Nat)
  | 0, d, T, _ => d :: T
  | f + 1, d, T, i => if i % 2 = 1 then (match T with | x :: T => push f (nd x d) T (i / 2) | [] => [d]) else d :: T
theorem push_s (f : Nat) (d : List Nat) (T : List (List Nat)) (i : Nat) : push nd (f + 1) d T i = if i % 2 = 1 then (match T with | x :: T => push nd f (nd x d) T (i / 2) | [] => [d]) else d :: T := rfl
theorem push_z (d : List Nat) (T : List (List Nat)) (i : Nat) : push nd 0 d T i = d :: T := rfl
theorem push_fuel : ∀ (f g : Nat) (d : List Nat) (T : List (List Nat)) (i : Nat), i ≤ f → i ≤ g → push nd f d T i = push nd g d T i
  | 0, 0, d, T, i, _, _ => rfl
  | 0, g + 1, d, T, i, h, _ => by rw [push_z nd, push_s nd, if_neg (by omega)]
  | f + 1, 0, d, T, i, _, h => by rw [push_z nd, push_s nd, if_neg (by omega)]
  | f + 1, g + 1, d, T, i, h1, h2 => by
    rw [push_s nd, push_s nd]
    split
    · cases T with
      | nil => rfl
      | cons x T => exact push_fuel f g (nd x d) T (i / 2) (by omega) (by omega)
    · rfl
/-- The stack after these leaves; its top at the head. -/
def stk : List (List Nat) → List (List Nat) → Nat → List (List Nat)
  | [], T, _ => T
  | d :: L, T, i => stk L (push nd i d T i) (i + 1)
theorem stk_s (d : List Nat) (L T : List (List Nat)) (i : Nat) : stk nd (d :: L) T i = stk nd L (push nd i d T i) (i + 1) := rfl
theorem stk_z (T : List (List Nat)) (i : Nat) : stk nd [] T i = T := rfl
theorem stk_app : ∀ (L M T : List (List Nat)) (i : Nat), stk nd (L ++ M) T i = stk nd M (stk nd L T i) (i + L.length)
  | [], M, T, i => rfl
  | d :: L, M, T, i => by
    rw [List.cons_append, stk_s nd, stk_s nd, stk_app L M, List.length_cons, Nat.add_assoc, Nat.add_comm 1]
/-- The stack, joined from its top. -/
def finS : List (List Nat) → List Nat
  | [] => []
  | d :: T => T.foldl (fun d x => nd x d) d
theorem fin_push : ∀ (f : Nat) (d : List Nat) (T : List (List Nat)) (i : Nat), finS nd (push nd f d T i) = finS nd (d :: T)
  | 0, d, T, i => rfl
  | f + 1, d, T, i => by
    rw [push_s nd]
    split
    · cases T with
      | nil => rfl
      | cons x T =>
        show finS nd (push nd f (nd x d) T (i / 2)) = _
        rw [fin_push f]
        rfl
    · rfl
theorem pairs_app : ∀ (k : Nat) (L M : List (List Nat)), L.length = 2 * k → pairs nd (L ++ M) = pairs nd L ++ pairs nd M
  | 0, L, M, h => by
    have : L = [] := List.length_eq_zero_iff.1 (by omega)
    subst this
    rfl
  | k + 1, L, M, h => by
    match L, h with
    | [], h => rw [List.length_nil] at h; omega
    | [a], h => rw [List.length_cons, List.length_nil] at h; omega
    | a :: b :: L, h =>
      rw [List.cons_append, List.cons_append, pairs_c nd, pairs_c nd, pairs_app k L M (by rw [List.length_cons, List.length_cons] at h; omega), List.cons_append]
theorem stk_even : ∀ (k : Nat) (L : List (List Nat)), L.length = 2 * k → stk nd L [] 0 = stk nd (pairs nd L) [] 0
  | 0, L, h => by
    have : L = [] := List.length_eq_zero_iff.1 (by omega)
    subst this
    rfl
  | k + 1, L, h => by
    have e1 : L = L.take (2 * k) ++ L.drop (2 * k) := (List.take_append_drop _ _).symm
    have l1 : (L.take (2 * k)).length = 2 * k := by rw [List.length_take]; omega
    have l2 : (L.drop (2 * k)).length = 2 := by rw [List.length_drop]; omega
    generalize L.take (2 * k) = A at *
    generalize L.drop (2 * k) = B at *
    subst e1
    match B, l2 with
    | [a, b], _ =>
      have ih := stk_even k A l1
      have pl := pairs_len nd A
      rw [l1] at pl
      have e2 : push nd (2 * k) a (stk nd A [] 0) (2 * k) = a :: stk nd A [] 0 := by
        cases k with
        | zero => rfl
        | succ k => rw [show 2 * (k + 1) = (2 * k + 1) + 1 by omega, push_s nd, if_neg (by omega)]
      rw [stk_app nd, l1, pairs_app nd k A _ l1, stk_app nd, pl, ← ih, Nat.zero_add, stk_s nd, stk_s nd, stk_z nd, e2, push_s nd, if_pos (by omega)]
      show push nd (2 * k) (nd a b) (stk nd A [] 0) ((2 * k + 1) / 2) = stk nd [nd a b] _ _
      rw [stk_s nd, stk_z nd, Nat.zero_add, show (2 * k + 1) / 2 = k by omega]
      exact push_fuel nd _ _ _ _ _ (by omega) (by omega)
/-- The stack, joined, is the tree. -/
theorem fin_stk : ∀ (n : Nat) (L : List (List Nat)), L.length = n → 1 ≤ n → n ≤ 1048576 → finS nd (stk nd L [] 0) = treeN nd L := by
  intro n
  induction n using Nat.strongRecOn with
  | _ n ih =>
    intro L hL h1 hn
    by_cases c1 : n = 1
    · subst c1
      match L, hL with
      | [d], _ => rfl
    · have pl := pairs_len nd L
      rw [hL] at pl
      have e := ih ((n + 1) / 2) (by omega) (pairs nd L) pl (by omega) (by omega)
      rw [treeN_pairs nd n L hL hn] at e
      rw [← e]
      by_cases c2 : n % 2 = 0
      · rw [stk_even nd (n / 2) L (by omega)]
      · have e1 : L = L.take (2 * (n / 2)) ++ L.drop (2 * (n / 2)) := (List.take_append_drop _ _).symm
        have l1 : (L.take (2 * (n / 2))).length = 2 * (n / 2) := by rw [List.length_take]; omega
        have l2 : (L.drop (2 * (n / 2))).length = 1 := by rw [List.length_drop]; omega
        generalize L.take (2 * (n / 2)) = A at *
        generalize L.drop (2 * (n / 2)) = B at *
        subst e1
        match B, l2 with
        | [a], _ =>
          rw [pairs_app nd (n / 2) A _ l1, stk_app nd, stk_app nd, stk_even nd (n / 2) A l1]
          show finS nd (stk nd [a] _ _) = finS nd (stk nd [a] _ _)
          rw [stk_s nd, stk_z nd, stk_s nd, stk_z nd, fin_push nd, fin_push nd]
theorem stk_snoc (L : List (List Nat)) (d : List Nat) : stk nd (L ++ [d]) [] 0 = push nd L.length d (stk nd L [] 0) L.length := by
  rw [stk_app nd, stk_s nd, stk_z nd, Nat.zero_add]
/-- How many trees the stack holds. -/
def pcG : Nat → Nat → Nat
  | 0, _ => 0
  | f + 1, i => i % 2 + pcG f (i / 2)
def pc (i : Nat) : Nat := pcG i i
theorem pcG_fuel : ∀ (f g i : Nat), i ≤ f → i ≤ g → pcG f i = pcG g i
  | 0, 0, i, _, _ => rfl
  | 0, g + 1, i, h, _ => by
    have : i = 0 := by omega
    subst this
    rw [pcG, show pcG (g + 1) 0 = 0 + pcG g 0 from rfl, ← pcG_fuel 0 g 0 (Nat.le_refl _) (Nat.zero_le _)]
    rfl
  | f + 1, 0, i, _, h => by
    have : i = 0 := by omega
    subst this
    rw [show pcG (f + 1) 0 = 0 + pcG f 0 from rfl, pcG_fuel f 0 0 (Nat.zero_le _) (Nat.le_refl _)]
    rfl
  | f + 1, g + 1, i, h1, h2 => by rw [show pcG (f + 1) i = i % 2 + pcG f (i / 2) from rfl, show pcG (g + 1) i = i % 2 + pcG g (i / 2) from rfl, pcG_fuel f g (i / 2) (by omega) (by omega)]
theorem pc_step (i : Nat) : pc i = i % 2 + pc (i / 2) := by
  cases i with
  | zero => rfl
  | succ i =>
    unfold pc
    rw [show pcG (i + 1) (i + 1) = (i + 1) % 2 + pcG i ((i + 1) / 2) from rfl, pcG_fuel i ((i + 1) / 2) _ (by omega) (Nat.le_refl _)]
theorem push_len : ∀ (f : Nat) (d : List Nat) (T : List (List Nat)) (i : Nat), i ≤ f → T.length = pc i → (push nd f d T i).length = pc (i + 1)
  | 0, d, T, i, h, hT => by
    have : i = 0 := by omega
    subst this
    rw [push_z nd, List.length_cons, hT]
    rfl
  | f + 1, d, T, i, h, hT => by
    rw [push_s nd]
    rw [pc_step] at hT
    by_cases c : i % 2 = 1
    · rw [if_pos c]
      cases T with
      | nil => rw [List.length_nil] at hT; omega
      | cons x T =>
        rw [List.length_cons] at hT
        have := push_len f (nd x d) T (i / 2) (by omega) (by omega)
        show (push nd f (nd x d) T (i / 2)).length = _
        rw [this, pc_step (i + 1), show (i + 1) / 2 = i / 2 + 1 by omega, show (i + 1) % 2 = 0 by omega, Nat.zero_add]
    · rw [if_neg c, List.length_cons, hT, pc_step (i + 1), show (i + 1) / 2 = i / 2 by omega, show (i + 1) % 2 = 1 by omega]
      omega
theorem stk_len : ∀ (L T : List (List Nat)) (i : Nat), T.length = pc i → (stk nd L T i).length = pc (i + L.length)
  | [], T, i, h => h
  | d :: L, T, i, h => by
    rw [stk_s nd, stk_len L _ _ (push_len nd i d T i (Nat.le_refl _) h), List.length_cons, Nat.add_assoc, Nat.add_comm 1]
theorem push_ok (hnd : ∀ a b, D32 (nd a b)) : ∀ (f : Nat) {d : List Nat} {T : List (List Nat)} (i : Nat), D32 d → (∀ t ∈ T, D32 t) → ∀ t ∈ push nd f d T i, D32 t
  | 0, d, T, i, hd, hT => fun t ht => by
    rw [push_z nd] at ht
    rcases List.mem_cons.1 ht with rfl | ht
    · exact hd
    · exact hT t ht
  | f + 1, d, T, i, hd, hT => by
    rw [push_s nd]
    split
    · cases T with
      | nil => exact fun t ht => by rw [List.mem_singleton.1 ht]; exact hd
      | cons x T => exact push_ok hnd f (i / 2) (hnd _ _) fun t ht => hT t (List.mem_cons_of_mem _ ht)
    · intro t ht
      rcases List.mem_cons.1 ht with rfl | ht
      · exact hd
      · exact hT t ht
end Go.Proofs.YtdnahgfgoajmcaaDoor

namespace Go.Proofs.YtdnahgfgoajmcaaDoor
open Go Go.Abs
/-- A slice of digests of one's own. -/
structure Stk (h : Heap) (N : Nat) (v : Value) (T : List (List Nat)) : Prop where
  dig : ∀ t ∈ T, D32 t
  form : (T = [] ∧ (v = .slice none 0 0 ∨ ∃ b, v = .slice (some ⟨b, 0, none⟩) 0 0)) ∨ ∃ b m X, v = .slice (some ⟨b, 0, some 32⟩) T.length m ∧ N ≤ b ∧ T.length ≤ m ∧ h.get b = some (digsC T ++ X) ∧ X.length = (m - T.length) * 32 ∧ Abs.noHoles X = true ∧ oneCells X = true
/-- The block that such a slice owns. -/
def stB : Value → Option Nat
  | .slice (some ⟨b, _, some _⟩) _ _ => some b
  | _ => none
theorem Stk.nil (h : Heap) (N : Nat) : Stk h N (.slice none 0 0) [] := ⟨fun _ h => (by cases h), .inl ⟨rfl, .inl rfl⟩⟩
theorem Stk.nil' (h : Heap) (N b : Nat) : Stk h N (.slice (some ⟨b, 0, none⟩) 0 0) [] := ⟨fun _ h => (by cases h), .inl ⟨rfl, .inr ⟨b, rfl⟩⟩⟩
theorem Stk.lt {h : Heap} {N : Nat} {v : Value} {T : List (List Nat)} (x : Stk h N v T) {b : Nat} (e : stB v = some b) : N ≤ b ∧ b < h.next := by
  rcases x.form with ⟨_, rfl | ⟨b', rfl⟩⟩ | ⟨b', m, X, rfl, h1, h2, h3, _⟩
  · cases e
  · cases e
  · cases e
    exact ⟨h1, h.lt_of_get h3⟩
theorem Stk.keep {h h' : Heap} {N : Nat} {v : Value} {T : List (List Nat)} (x : Stk h N v T) {B : Nat → Prop} (k : Kept h h' B) (hB : ∀ b, stB v = some b → ¬ B b) : Stk h' N v T := by
  refine ⟨x.dig, ?_⟩
  rcases x.form with f | ⟨b', m, X, rfl, h1, h2, h3, h4⟩
  · exact .inl f
  · exact .inr ⟨b', m, X, rfl, h1, h2, k.getE h3 (hB b' rfl), h4⟩
theorem Stk.old {h h' : Heap} {N : Nat} {v : Value} {T : List (List Nat)} (x : Stk h N v T) (k : Old h h') : Stk h' N v T := x.keep k fun _ _ h => h
theorem Stk.len {h : Heap} {N : Nat} {v : Value} {T : List (List Nat)} (x : Stk h N v T) : lenL v = some (i64n T.length) := by
  rcases x.form with ⟨rfl, rfl | ⟨b', rfl⟩⟩ | ⟨b', m, X, rfl, _⟩ <;> rfl
theorem Stk.pr {h : Heap} {N : Nat} {v : Value} {T : List (List Nat)} (x : Stk h N v T) : PR h v T ∧ gS v := by
  rcases x.form with ⟨rfl, rfl | ⟨b', rfl⟩⟩ | ⟨b', m, X, rfl, h1, h2, h3, h4, h5, h6⟩
  · exact ⟨⟨⟨_, _, rfl⟩, x.dig, fun j hj => absurd hj (Nat.not_lt_zero j)⟩, ⟨_, _, _, rfl, Nat.le_refl _, fun h => absurd h (Nat.lt_irrefl 0)⟩⟩
  · exact ⟨⟨⟨_, _, rfl⟩, x.dig, fun j hj => absurd hj (Nat.not_lt_zero j)⟩, ⟨_, _, _, rfl, Nat.le_refl _, fun h => absurd h (Nat.lt_irrefl 0)⟩⟩
  · refine ⟨⟨⟨_, _, rfl⟩, x.dig, fun j hj => ?_⟩, ⟨_, _, _, rfl, h2, fun _ b o s e => by cases e; rfl⟩⟩
    have hl := digsC_len x.dig
    have hm := mul_le (z := 32) hj
    have e : ((digsC T ++ X).drop (j * 32)).take 32 = u8s (T.getD j []) := by
      rw [List.drop_append_of_le_length (by omega), List.take_append_of_le_length (by rw [List.length_drop]; omega), digsC_get x.dig hj]
    refine ⟨b', 0 + j * 32, ?_, h.lt_of_get h3, fun g hg => ?_⟩
    · unfold idxS i64n
      simp only
      rw [if_pos (by omega), Int.toNat_natCast]
    · have dp : D32 (T.getD j []) := x.dig _ (by
        rw [List.getD_eq_getElem?_getD, List.getElem?_eq_getElem hj]
        exact List.getElem_mem hj)
      have := ldN_at (o := 0 + j * 32) (n := 32) (hg.trans h3) (by rw [List.length_append]; omega) (by rw [Nat.zero_add, e]; exact (dig_cells dp).2.1)
      rw [Nat.zero_add, e] at this
      rw [Nat.zero_add]
      exact this
theorem digsC_app (A B : List (List Nat)) : digsC (A ++ B) = digsC A ++ digsC B := by
  unfold digsC
  rw [List.flatMap_append]
theorem digsC_one (d : List Nat) : digsC [d] = u8s d := by
  unfold digsC
  rw [List.flatMap_cons, List.flatMap_nil, List.append_nil]
theorem Stk.pop {h : Heap} {N : Nat} {v : Value} {T : List (List Nat)} {d : List Nat} (x : Stk h N v (T ++ [d])) : ∃ v', slR 32 v none (some (i64n T.length)) none = some v' ∧ Stk h N v' T ∧ stB v' = stB v := by
  have lT : (T ++ [d]).length = T.length + 1 := by rw [List.length_append, List.length_singleton]
  have hd := x.dig
  have dd := (dig_cells (hd d (List.mem_append_right _ List.mem_cons_self)))
  rcases x.form with ⟨h0, _⟩ | ⟨b, m, X, rfl, h1, h2, h3, h4, h5, h6⟩
  · rw [h0] at lT
    cases lT
  · rw [lT] at h2 h4 ⊢
    have hb : boundsA (T.length + 1) m none (some (i64n T.length)) none = some (0, T.length, m) := by
      have a1 : boundA m m none = some m := rfl
      have a2 : boundA (T.length + 1) m (some (i64n T.length)) = some T.length := by
        unfold boundA i64n
        simp only
        rw [if_pos (by omega)]
        rfl
      unfold boundsA
      rw [a1]
      simp only [a2]
      rfl
    refine ⟨.slice (some ⟨b, 0, some 32⟩) T.length m, ?_, ⟨fun t ht => hd t (List.mem_append_left _ ht), .inr ⟨b, m, u8s d ++ X, rfl, h1, by omega, ?_, ?_, ?_, ?_⟩⟩, rfl⟩
    · unfold slR sliceSl
      simp only [hb]
      rw [if_pos ⟨True.intro, by decide⟩, Nat.zero_mul, Nat.add_zero, Nat.sub_zero, Nat.sub_zero]
    · rw [h3, digsC_app, digsC_one, List.append_assoc]
    · rw [List.length_append, dd.1, h4]
      omega
    · unfold Abs.noHoles at *
      rw [List.all_append, dd.2.1, h5]; rfl
    · unfold oneCells at *
      rw [List.all_append, dd.2.2, h6]; rfl
theorem first_one {h : Heap} {c : Nat} {d : List Nat} (hd : D32 d) (hc : h.get c = some (u8s d)) : firstA 32 1 (.slice (some ⟨c, 0, none⟩) 1 1) h = some (u8s d) := by
  have dd := dig_cells hd
  have e : ((u8s d).drop 0).take (1 * 32) = u8s d := by rw [List.drop_zero, List.take_of_length_le (by rw [dd.1]; decide)]
  unfold firstA
  simp only
  rw [if_neg (by decide), hc]
  simp only
  rw [e, if_pos ⟨by rw [dd.1]; decide, dd.2.1⟩]
theorem Stk.push {h : Heap} {N : Nat} {v : Value} {T : List (List Nat)} {d : List Nat} {c : Nat} (x : Stk h N v T) (h0 : h.n0 ≤ N) (hN : N ≤ h.next) (hd : D32 d) (hl : T.length ≤ 1000000) (hc : h.get c = some (u8s d)) :
    ∃ v' h', appendA 32 32 v (.slice (some ⟨c, 0, none⟩) 1 1) h = some (v', h') ∧ Stk h' N v' (T ++ [d]) ∧ Kept h h' (fun b => stB v = some b) ∧ (stB v' = stB v ∨ stB v' = some h.next) := by
  have dd := dig_cells hd
  have hf := first_one hd hc
  have dT : ∀ t ∈ T ++ [d], D32 t := fun t ht => by
    rcases List.mem_append.1 ht with h | h
    · exact x.dig t h
    · rw [List.mem_singleton.1 h]; exact hd
  have lT : (T ++ [d]).length = T.length + 1 := by rw [List.length_append, List.length_singleton]
  have lc := digsC_len x.dig
  have hcond : ∀ n : Nat, n ≤ 1000000 → (!(oneCells (u8s d)) || !(decide ((n + 1) * 32 ≤ 140737488355328)) || !(decide (n + 1 ≤ 4611686018427387904)) || decide ((u8s d).length ≠ 1 * 32)) = false := by
    intro n hn
    rw [dd.2.2, decide_eq_true (by omega : (n + 1) * 32 ≤ 140737488355328), decide_eq_true (by omega : n + 1 ≤ 4611686018427387904), decide_eq_false (by rw [dd.1]; decide)]
    rfl
  have new : ∀ g : Heap, N ≤ g.next → T = [] → Stk (g.alloc (u8s d)) N (.slice (some ⟨g.next, 0, some 32⟩) 1 1) (T ++ [d]) := fun g hg e => by
    subst e
    refine ⟨dT, .inr ⟨g.next, 1, [], rfl, hg, Nat.le_refl _, ?_, rfl, rfl, rfl⟩⟩
    rw [Heap.get_alloc, if_pos rfl, List.append_nil, List.nil_append, digsC_one]
  rcases x.form with ⟨rfl, rfl | ⟨b, rfl⟩⟩ | ⟨b, m, X, rfl, h1, h2, h3, h4, h5, h6⟩
  · refine ⟨.slice (some ⟨h.next, 0, some 32⟩) 1 1, h.alloc (u8s d), ?_, new h hN rfl, Kept.alloc _ _ _, .inr rfl⟩
    unfold appendA
    simp only [lenA, hf]
    rw [if_neg (by rw [hcond 0 (by decide)]; decide), if_neg (by decide), if_pos trivial]
  · refine ⟨.slice (some ⟨h.next, 0, some 32⟩) 1 1, h.alloc (u8s d), ?_, new h hN rfl, Kept.alloc _ _ _, .inr rfl⟩
    have f0 : firstA 32 0 (.slice (some ⟨b, 0, none⟩) 0 0) h = some [] := rfl
    unfold appendA
    simp only [lenA, hf, f0]
    rw [if_neg (by rw [hcond 0 (by decide)]; decide), if_neg (by decide), if_neg (by decide)]
    rfl
  · have hbn := h.lt_of_get h3
    by_cases hm : T.length + 1 ≤ m
    · have st : stL b (0 + T.length * 32) (u8s d) h = some (h.set b (digsC T ++ (u8s d ++ X.drop 32))) := by
        unfold stL
        rw [h3]
        simp only
        rw [if_pos (by
          rw [dd.2.2, decide_eq_true (show h.n0 ≤ b by omega), decide_eq_true (by rw [List.length_append, dd.1, lc, h4]; omega)]
          rfl)]
        congr 2
        have eX : X = X.take 32 ++ X.drop 32 := (List.take_append_drop _ _).symm
        conv => lhs; rw [eX]
        exact splice_app (n := 32) (by rw [lc, Nat.zero_add]) (by rw [List.length_take, h4]; omega) dd.1
      refine ⟨.slice (some ⟨b, 0, some 32⟩) (T.length + 1) m, h.set b (digsC T ++ (u8s d ++ X.drop 32)), ?_, ⟨dT, .inr ⟨b, m, X.drop 32, by rw [lT], h1, by rw [lT]; exact hm, ?_, ?_, ?_, ?_⟩⟩, Kept.set (by omega) h3 (.inr rfl), .inl rfl⟩
      · unfold appendA
        simp only [lenA, hf]
        rw [if_neg (by rw [hcond T.length hl]; decide), if_pos hm, if_neg (by decide), st]
        rfl
      · rw [Heap.get_set_same (by omega) h3, digsC_app, digsC_one, List.append_assoc]
      · rw [List.length_drop, h4, lT]
        omega
      · unfold Abs.noHoles at *
        rw [List.all_eq_true] at *
        exact fun y hy => h5 y (List.mem_of_mem_drop hy)
      · unfold oneCells at *
        rw [List.all_eq_true] at *
        exact fun y hy => h6 y (List.mem_of_mem_drop hy)
    · have hmE : m = T.length := by omega
      subst hmE
      have hX : X = [] := List.length_eq_zero_iff.1 (by omega)
      subst hX
      rw [List.append_nil] at h3
      have hf2 : firstA 32 T.length (.slice (some ⟨b, 0, some 32⟩) T.length T.length) h = some (digsC T) := by
        unfold firstA
        simp only
        by_cases hz : T.length * 32 = 0
        · rw [if_pos hz]
          have : T = [] := List.length_eq_zero_iff.1 (by omega)
          rw [this]
          rfl
        · rw [if_neg hz, h3]
          simp only
          have e : ((digsC T).drop 0).take (T.length * 32) = digsC T := by rw [List.drop_zero, List.take_of_length_le (by omega)]
          rw [e, if_pos ⟨by omega, (digsC_ok x.dig).1⟩]
      have hk : ∀ y, y < h.next → y ≠ b → ((h.kill b).alloc (digsC T ++ u8s d)).getB y = h.getB y := by
        intro y hy hne
        rw [Heap.getB_alloc, if_neg (by rw [Heap.next_kill]; omega)]
        exact getB_kill (by omega) hbn hne
      refine ⟨.slice (some ⟨h.next, 0, some 32⟩) (T.length + 1) (T.length + 1), (h.kill b).alloc (digsC T ++ u8s d), ?_, ⟨dT, .inr ⟨h.next, T.length + 1, [], by rw [lT], hN, by rw [lT]; exact Nat.le_refl _, ?_, by rw [lT, Nat.sub_self]; rfl, rfl, rfl⟩⟩, ⟨rfl, by simp, fun y hy hB => hk y hy (fun e => hB (by rw [e]; rfl))⟩, .inr rfl⟩
      · unfold appendA
        simp only [lenA, hf]
        rw [if_neg (by rw [hcond T.length hl]; decide), if_neg (by omega)]
        simp only [hf2]
        rw [if_neg (by rw [lc]; simp), if_pos (by simp [h3]; omega)]
      · rw [Heap.get_alloc, if_pos (by rw [Heap.next_kill]), List.append_nil, digsC_app, digsC_one]
end Go.Proofs.YtdnahgfgoajmcaaDoor

namespace Go.Proofs.YtdnahgfgoajmcaaDoor
open Go Go.Abs
attribute [local congr] thenV_congr
theorem is106 : IsFn Tryd.prog 106 Tryd.f106 := ⟨by kernel_rfl, by kernel_rfl, by kernel_rfl, by kernel_rfl⟩
theorem is107 : IsFn Tryd.prog 107 Tryd.f107 := ⟨by kernel_rfl, by kernel_rfl, by kernel_rfl, by kernel_rfl⟩
theorem is135 : IsFn Tryd.prog 135 Tryd.f135 := ⟨by kernel_rfl, by kernel_rfl, by kernel_rfl, by kernel_rfl⟩
theorem is54 : IsFn Tryd.prog 54 Tryd.f54 := ⟨by kernel_rfl, by kernel_rfl, by kernel_rfl, by kernel_rfl⟩
theorem results106 : Tryd.f106.results.toList = [.cell 2 35] := by kernel_rfl
theorem results54 : Tryd.f54.results.toList = [.cell 2 35] := by kernel_rfl
theorem results135 : Tryd.f135.results.toList = [] := by kernel_rfl
/-- The hash of no bytes. -/
def nilD : List Nat := (HD0.wr []).sum
theorem nilD_ok : D32 nilD := sum_d32 _
set_option maxRecDepth 100000 in
/-- SHA256 of nothing -/
theorem r106 {h : Heap} (hG : 4 ≤ h.n0) (hz : h.get 3 = some roundsL) : ∃ h', CW 106 [.slice none 0 0] h = some (.agg (u8s nilD).toArray, h') ∧ Old h h' := by
  obtain ⟨h1, z1, o1, g1, n1⟩ := fresh (List.replicate 32 (.int .u8 0)) h
  obtain ⟨h2, e2, o2, g2, n2⟩ := r121 (h := h1) (by rw [o1.n0]; exact hG)
  have O2 := o1.trans o2
  obtain ⟨h3, e3, k3, g3, w3, m3⟩ := r122 (h := h2) (by rw [O2.n0]; exact hG) (Old.get O2 hz) (p := h1.next) HD0_ok g2 (by rw [O2.n0]; have := h.n0_le_next; have := o1.next; omega) (a := none) (n := 0) (c := 0) (l := []) rfl (fun h => absurd h (by decide)) (fun y hy => by cases hy) (by decide)
  have O3 : Old h h3 := Old.of_new O2 k3 (by have := o1.next; omega)
  obtain ⟨h4, e4, o4⟩ := r123 (h := h3) (by rw [O3.n0]; exact hG) (Old.get O3 hz) (p := h1.next) w3 g3 (by rw [m3]; decide)
  have O4 := O3.trans o4
  have e4 : CW 123 [ptr h1.next 0] h3 = some (.agg (u8s nilD).toArray, h4) := e4
  have dc := dig_cells nilD_ok
  have q2 : h4.get h.next = some (List.replicate 32 (.int .u8 0)) := Old.get o4 (Kept.getE k3 (o2.get g1) (by omega))
  obtain ⟨h5, e5, k5, g5, _, _⟩ := stored_all (n := 32) (k' := u8s nilD) q2 (by rw [O4.n0]; exact h.n0_le_next) rfl dc.1 dc.2.2
  have L5 := ldN_all g5 dc.1 dc.2.1
  refine ⟨h5, CW_body is106 hG rfl ((t106_eq _ _ _).trans ?_), Old.of_new O4 k5 (Nat.le_refl _)⟩
  unfold t106
  simp -implicitDefEqProofs only [z1, e2, e3, e4, e5, thenV_some]
  exact res_cell results106 agg35 size32 (show 2 < 10 by decide) _ L5
theorem r107 {h : Heap} (hG : 4 ≤ h.n0) {a : Option Addr} {n c : Nat} : ∃ h', CW 107 [.slice a n c] h = some (.func (.func 135) #[] #[ptr h.next 0], h') ∧ Old h h' ∧ h'.get h.next = some [.slice a n c] ∧ h'.next = h.next + 1 := by
  have b : box (.slice a n c) h = some (ptr h.next 0, h.alloc [.slice a n c]) := rfl
  refine ⟨h.alloc [.slice a n c], CW_body is107 hG rfl ((t107_eq _ _ _).trans ?_), Kept.alloc _ _ _, by rw [Heap.get_alloc, if_pos rfl], Heap.next_alloc ..⟩
  unfold t107
  simp -implicitDefEqProofs only [b, thenV_some]
theorem fs_size : Nat.ble 120 Tryd.prog.funcs.size = true := by kernel_rfl
theorem XX_yid (L : Nat) (args : List Value) (h : Heap) : XX (yid Tryd.prog L) args h = none := by
  have e := Nat.le_of_ble_eq_true fs_size
  show callL XL (Tryd.prog.funcs.size + L) args h = none
  generalize Tryd.prog.funcs.size = n at e
  unfold callL
  rw [if_neg (show ¬ n + L = (14 : Nat) by omega)]
  unfold callL
  rw [if_neg (show ¬ n + L = (119 : Nat) by omega)]
  rfl
theorem CW_yield {L : Nat} {args : List Value} {h : Heap} {r : Value × Heap} (hG : 4 ≤ h.n0) (e : roundA Tryd.prog CW L args h = some r) : CW (yid Tryd.prog L) args h = some r :=
  CC_round (by rw [globals4]; exact hG) (XX_yid L args h) e
theorem geq3 (j : Nat) : bin Tryd.prog .geq 3 (.int .i64 ((j : Int) - 1)) (.int .i64 0) = some (.bool (decide (1 ≤ j))) := by
  rw [bin_geq]
  congr 2
  rw [decide_eq_decide]
  omega
set_option maxRecDepth 100000 in
/-- The iterator of slices.Backward: the yield function is called with the elements, from the last one on. -/
theorem r135 {h : Heap} (hG : 4 ≤ h.n0) {L c : Nat} {w : Value} {T : List (List Nat)} (hT : T.length ≤ 1000000) (Inv : Nat → Heap → Prop)
    (hread : ∀ j g, Inv j g → ld1 (ptr c 0) g = some (w, g) ∧ PR g w T)
    (hstep : ∀ j g, j < T.length → Inv (j + 1) g → ∃ g', CW (yid Tryd.prog L) [i64n j, .agg (u8s (T.getD j [])).toArray] g = some (.bool true, g') ∧ Inv j g') (h0 : Inv T.length h) :
    ∃ h', CW 135 [.func (.yield L) #[] #[], ptr c 0] h = some (.tuple #[], h') ∧ Inv 0 h' := by
  have key : ∃ o : Out, t135 CW (.func (.yield L) #[] #[]) (ptr c 0) h = o ∧ ∃ h', o = some (.tuple #[], h') ∧ Inv 0 h' := by
    refine ⟨_, rfl, ?_⟩
    unfold t135
    obtain ⟨l0, P0⟩ := hread _ _ h0
    have hll := PR.len P0
    have sb : bin Tryd.prog .sub 3 (i64n T.length) (.int .i64 1) = some (.int .i64 ((T.length : Int) - 1)) := by
      unfold i64n
      rw [bin_sub, wrap_i64 (by omega) (by omega)]
    simp -implicitDefEqProofs only [l0, hll, sb, thenV_some, pu_some]
    refine endL_fin (n := 19) (fin := fun ex y g => ex = .exit 0 ∧ Inv 0 g) (Q := fun o : Out => ∃ h', o = some (.tuple #[], h') ∧ Inv 0 h')
      (loop_fin (t135l135_10_eq CW) (Inv := fun k y g => k ≤ T.length ∧ y 0 = .func (.yield L) #[] #[] ∧ y 1 = ptr c 0 ∧ y 3 = .int .i64 ((k : Int) - 1) ∧ Inv k g) ?_ T.length (by have : rounds = 18446744073709551616 := rfl; omega) ⟨Nat.le_refl _, rfl, rfl, rfl, h0⟩) ?_
    · rintro k y g ⟨hk, y0, y1, y3, hi⟩
      unfold t135l135_10
      have q := geq3 k
      simp -implicitDefEqProofs only [y0, y1, y3, q, thenV_some, pu_some]
      obtain ⟨l1, P1⟩ := hread _ _ hi
      by_cases hk1 : 1 ≤ k
      · obtain ⟨j, rfl⟩ : ∃ j, k = j + 1 := ⟨k - 1, by omega⟩
        obtain ⟨b, o, ix, hb, lp⟩ := P1.2.2 j (by omega)
        have lg := lp g rfl
        obtain ⟨g', e', hi'⟩ := hstep j g (by omega) hi
        have ej : (((j + 1 : Nat) : Int) - 1) = (j : Int) := by omega
        have ix' : idxS 32 w (.int .i64 (j : Int)) = some (ptr b o) := ix
        have e'' : callA Tryd.prog CW (.func (.yield L) #[] #[]) [.int .i64 (j : Int), .agg (u8s (T.getD j [])).toArray] g = some (.bool true, g') := e'
        have sb2 : bin Tryd.prog .sub 3 (.int .i64 (j : Int)) (.int .i64 1) = some (.int .i64 ((j : Int) - 1)) := by
          rw [bin_sub, wrap_i64 (by omega) (by omega)]
        simp -implicitDefEqProofs only [decide_eq_true hk1, ej, l1, ix', lg, e'', sb2, unA_not, Bool.not_true, thenV_some, pu_some]
        exact Rnd.next j (by omega) ⟨by omega, y0, y1, rfl, hi'⟩
      · have hk0 : k = 0 := by omega
        subst hk0
        simp -implicitDefEqProofs only [decide_eq_false hk1]
        exact Rnd.out 0 ⟨rfl, hi⟩
    · rintro ex z g ⟨rfl, hi⟩
      simp -implicitDefEqProofs only [endL_exit, b135_1, if_true]
      rw [results135]
      exact ⟨g, rfl, hi⟩
  obtain ⟨o9, e, h', e', q⟩ := key
  exact ⟨h', CW_body is135 hG rfl ((t135_eq _ _ _ _).trans (e.trans e')), q⟩
end Go.Proofs.YtdnahgfgoajmcaaDoor

namespace Go.Proofs.YtdnahgfgoajmcaaDoor
open Go Go.Abs
attribute [local congr] thenV_congr
set_option maxRecDepth 100000 in
/-- The inner loop of tree: complete trees are joined. -/
theorem tre1 {h : Heap} (hG : 4 ≤ h.n0) (hz : h.get 3 = some roundsL) {N d i : Nat} {D : List Nat} {vs : Value} {S : List (List Nat)} (hN : h.n0 ≤ N) (hNn : N ≤ d) (hS : Stk h N vs S.reverse) (hD : D32 D) (hd : h.get d = some (u8s D)) (hds : ∀ b, stB vs = some b → ¬ b = d) (hi : i ≤ 1048576) (hp : S.length = pc i)
    {q15 q16 q17 q2 : Value} {x : Nat → Value} (x3 : x 3 = vs) (x6 : x 6 = ptr d 0) (x7 : x 7 = i64n i) (x15 : x 15 = q15) (x16 : x 16 = q16) (x17 : x 17 = q17) (x2 : x 2 = q2) :
    Fin 66 (fun ex y g => ex = .exit 2 ∧ y 6 = ptr d 0 ∧ y 15 = q15 ∧ y 16 = q16 ∧ y 17 = q17 ∧ y 2 = q2 ∧ Kept h g (· = d) ∧ ∃ D' S' vs', y 3 = vs' ∧ Stk g N vs' S'.reverse ∧ stB vs' = stB vs ∧ D32 D' ∧ g.get d = some (u8s D') ∧ push nodeD i D S i = D' :: S') (iter (codeA Tryd.prog CW (partOf Tryd.f54 [1, 1, 1, 0, 1, 0, 0, 1, 1, 0, 0, 1, 1, 0, 1, 0, 0])) rounds (mkF 66 x) h) := by
  refine loop_fin (t54l54_1110100110011010_eq CW) (Inv := fun k y g => ∃ i' D' S' vs', i' ≤ k ∧ i' ≤ 1048576 ∧ y 3 = vs' ∧ y 6 = ptr d 0 ∧ y 7 = i64n i' ∧ y 15 = q15 ∧ y 16 = q16 ∧ y 17 = q17 ∧ y 2 = q2 ∧ Kept h g (· = d) ∧ Stk g N vs' S'.reverse ∧ stB vs' = stB vs ∧ D32 D' ∧ g.get d = some (u8s D') ∧ S'.length = pc i' ∧ push nodeD k D' S' i' = push nodeD i D S i) ?_ i (by have : rounds = 18446744073709551616 := rfl; omega) ⟨i, D, S, vs, Nat.le_refl _, hi, x3, x6, x7, x15, x16, x17, x2, Kept.refl _ _, hS, rfl, hD, hd, hp, rfl⟩
  rintro k y g ⟨i', D', S', vs', hk, hi', y3, y6, y7, y15, y16, y17, y2, K, sk, hb, dD, gd, hp', hpu⟩
  have e1 : bin Tryd.prog .eql 3 (i64n (i' % 2)) (.int .i64 1) = some (.bool (decide (i' % 2 = 1))) := eql1 _
  unfold t54l54_1110100110011010
  simp -implicitDefEqProofs only [y7, and1 hi', e1, thenV_some, pu_some]
  by_cases c : i' % 2 = 1
  · rw [pc_step, c] at hp'
    cases k with
    | zero => omega
    | succ k =>
      cases S' with
      | nil => rw [List.length_nil] at hp'; omega
      | cons p S' =>
        rw [List.length_cons] at hp'
        have hp'' : S'.length = pc (i' / 2) := by omega
        rw [List.reverse_cons] at sk
        obtain ⟨P, gs⟩ := sk.pr
        obtain ⟨b, o, ix, dp, lp⟩ := PR.last P
        obtain ⟨v2, e2, sk2, hb2⟩ := sk.pop
        have hll := sk.len
        rw [List.length_append, List.length_singleton] at hll
        have Lp := lp g (Kept.refl _ _)
        have cD := dig_cells dD
        have L6 := ldN_all gd cD.1 cD.2.1
        have hSl : S'.reverse.length ≤ 1000000 := by
          rw [List.length_reverse]
          have hpc : ∀ (f j : Nat), pcG f j ≤ f := by
            intro f
            induction f with
            | zero => intro j; exact Nat.le_refl _
            | succ f ih =>
              intro j
              have := ih (j / 2)
              show j % 2 + pcG f (j / 2) ≤ f + 1
              omega
          have := hpc (i' / 2) (i' / 2)
          unfold pc at hp''
          omega
        have sb : bin Tryd.prog .sub 3 (i64n (S'.reverse.length + 1)) (.int .i64 1) = some (i64n S'.reverse.length) := sub_n1 (by omega) (by omega)
        have G2 : 4 ≤ g.n0 := by rw [K.n0]; exact hG
        have hdn : g.n0 ≤ d := by rw [K.n0]; omega
        have Z2 : g.get 3 = some roundsL := Kept.getE K hz (by omega)
        obtain ⟨g4, e4, o4⟩ := r70 (h := g) G2 Z2 dp dD
        have dn := dig_cells (nodeD_ok p D')
        obtain ⟨g5, e5, k5, g5', _, n5⟩ := stored_all (n := 32) (k' := u8s (nodeD p D')) (Old.get o4 gd) (by rw [o4.n0]; exact hdn) cD.1 dn.1 dn.2.2
        have sh : bin Tryd.prog .shr 3 (i64n i') (.int .u64 1) = some (i64n (i' / 2)) := shr1
        simp -implicitDefEqProofs only [decide_eq_true c, y3, y6, hll, sb, ix, Lp, L6, e4, e5, e2, sh, thenV_some, pu_some]
        refine Rnd.next k (by omega) ⟨i' / 2, nodeD p D', S', v2, by omega, by omega, rfl, y6, rfl, y15, y16, y17, y2, (K.trans (o4.mono (fun _ _ h => h.elim))).trans k5, ?_, hb2.trans hb, nodeD_ok _ _, g5', hp'', ?_⟩
        · refine (sk2.old o4).keep k5 fun b' hb' => ?_
          rw [hb2, hb] at hb'
          exact hds b' hb'
        · rw [push_s, if_pos c] at hpu
          exact hpu
  · simp -implicitDefEqProofs only [decide_eq_false c]
    refine Rnd.out 2 ⟨rfl, y6, y15, y16, y17, y2, K, D', S', vs', y3, sk, hb, dD, gd, ?_⟩
    rw [← hpu]
    cases k with
    | zero => rfl
    | succ k => rw [push_s, if_neg c]
end Go.Proofs.YtdnahgfgoajmcaaDoor

namespace Go.Proofs.YtdnahgfgoajmcaaDoor
open Go Go.Abs
attribute [local congr] thenV_congr
/-- A slice of records that can be read in every heap in which its block is as it was. -/
def RSl (h : Heap) (v : Value) (L : List RecD) : Prop :=
  (∃ a c, v = .slice a L.length c) ∧ (∀ r ∈ L, r.Wf) ∧ ∀ j, j < L.length → ∃ b o, idxS 39 v (i64n j) = some (ptr b o) ∧ b < h.next ∧ ∀ g : Heap, g.get b = h.get b → ldN 39 (ptr b o) g = some (.agg (recC (L.getD j RecD.z)).toArray, g)
/-- Its parts can be taken. -/
def gR (v : Value) : Prop := ∃ a n c, v = .slice a n c ∧ n ≤ c ∧ (0 < n → ∀ b o s, a = some ⟨b, o, some s⟩ → s = 39)
theorem RSl.mono {h h' : Heap} {v : Value} {L : List RecD} (x : RSl h v L) (o : Old h h') : RSl h' v L := by
  refine ⟨x.1, x.2.1, fun j hj => ?_⟩
  obtain ⟨b, q, h1, h2, h3⟩ := x.2.2 j hj
  have hb : h'.get b = h.get b := Kept.get o b h2 (fun h => h)
  exact ⟨b, q, h1, Nat.lt_of_lt_of_le h2 o.next, fun g e => h3 g (e.trans hb)⟩
theorem RSl.len {h : Heap} {v : Value} {L : List RecD} (x : RSl h v L) : lenL v = some (i64n L.length) := by
  obtain ⟨⟨a, c, rfl⟩, _, _⟩ := x
  rfl
theorem RSl.at {h : Heap} {v : Value} {L : List RecD} (x : RSl h v L) {j : Nat} (hj : j < L.length) : ∃ b o, idxS 39 v (i64n j) = some (ptr b o) ∧ (L.getD j RecD.z).Wf ∧ L.getD j RecD.z ∈ L ∧ ∀ g : Heap, Old h g → ldN 39 (ptr b o) g = some (.agg (recC (L.getD j RecD.z)).toArray, g) := by
  obtain ⟨b, q, h1, h2, h3⟩ := x.2.2 j hj
  have hm : L.getD j RecD.z ∈ L := by
    rw [List.getD_eq_getElem?_getD, List.getElem?_eq_getElem hj]
    exact List.getElem_mem hj
  exact ⟨b, q, h1, x.2.1 _ hm, hm, fun g og => h3 g (Kept.get og b h2 (fun h => h))⟩
theorem bnd_hi {n c k : Nat} (h : k ≤ n) (hc : n ≤ c) : boundsA n c none (some (i64n k)) none = some (0, k, c) := by
  have a1 : boundA c c none = some c := rfl
  have a2 : boundA n c (some (i64n k)) = some k := by
    unfold boundA i64n
    simp only
    rw [if_pos (by omega)]
    rfl
  unfold boundsA
  rw [a1]
  simp only [a2]
  rfl
theorem bnd_lo {n c k : Nat} (h : k ≤ n) (_hc : n ≤ c) : boundsA n c (some (i64n k)) none none = some (k, n, c) := by
  have a1 : boundA c c none = some c := rfl
  have a2 : boundA n c none = some n := rfl
  have a3 : boundA 0 n (some (i64n k)) = some k := by
    unfold boundA i64n
    simp only
    rw [if_pos (by omega)]
    rfl
  unfold boundsA
  rw [a1]
  simp only [a2, a3]
theorem RSl.take {h : Heap} {v : Value} {L : List RecD} (x : RSl h v L) (g : gR v) {k : Nat} (hk : k < L.length) : ∃ v', slR 39 v none (some (i64n k)) none = some v' ∧ RSl h v' (L.take k) ∧ gR v' := by
  obtain ⟨⟨a, c, rfl⟩, hd, hp⟩ := x
  obtain ⟨a', n', c', e, hle, hs⟩ := g
  cases e
  obtain ⟨b0, o0, e0, _⟩ := hp 0 (by omega)
  cases a with
  | none => cases e0
  | some A =>
    obtain ⟨b, off, sp⟩ := A
    have hb := bnd_hi (c := c) (Nat.le_of_lt hk) hle
    have lt : (L.take k).length = k := by rw [List.length_take]; omega
    refine ⟨.slice (some ⟨b, off, sp⟩) k c, ?_, ⟨⟨_, _, by rw [lt]⟩, fun q hq => hd q (List.mem_of_mem_take hq), fun j hj => ?_⟩, ⟨_, _, _, rfl, by omega, fun _ => hs (by omega)⟩⟩
    · unfold slR sliceSl
      cases sp with
      | none =>
        simp only [hb]
        rw [if_neg (by omega), Nat.zero_mul, Nat.add_zero, Nat.sub_zero, Nat.sub_zero]
      | some s =>
        have : s = 39 := hs (by omega) b off s rfl
        subst this
        simp only [hb]
        rw [if_pos ⟨True.intro, by decide⟩, Nat.zero_mul, Nat.add_zero, Nat.sub_zero, Nat.sub_zero]
    · rw [lt] at hj
      obtain ⟨b1, o1, e1, e2, e3⟩ := hp j (by omega)
      have e4 : (L.take k).getD j RecD.z = L.getD j RecD.z := by
        rw [List.getD_eq_getElem?_getD, List.getD_eq_getElem?_getD, List.getElem?_take, if_pos hj]
      rw [e4]
      refine ⟨b1, o1, ?_, e2, e3⟩
      rw [← e1]
      unfold idxS i64n
      simp only
      rw [if_pos (by omega), if_pos (by omega)]
theorem RSl.drop {h : Heap} {v : Value} {L : List RecD} (x : RSl h v L) (g : gR v) {k : Nat} (hk : k < L.length) : ∃ v', slR 39 v (some (i64n k)) none none = some v' ∧ RSl h v' (L.drop k) ∧ gR v' := by
  obtain ⟨⟨a, c, rfl⟩, hd, hp⟩ := x
  obtain ⟨a', n', c', e, hle, hs⟩ := g
  cases e
  obtain ⟨b0, o0, e0, _⟩ := hp 0 (by omega)
  cases a with
  | none => cases e0
  | some A =>
    obtain ⟨b, off, sp⟩ := A
    have hb := bnd_lo (c := c) (Nat.le_of_lt hk) hle
    have lt : (L.drop k).length = L.length - k := List.length_drop
    refine ⟨.slice (some ⟨b, off + k * 39, sp⟩) (L.length - k) (c - k), ?_, ⟨⟨_, _, by rw [lt]⟩, fun q hq => hd q (List.mem_of_mem_drop hq), fun j hj => ?_⟩, ⟨_, _, _, rfl, by omega, fun _ b' o' s' e => by cases e; exact hs (by omega) b off s' rfl⟩⟩
    · unfold slR sliceSl
      cases sp with
      | none =>
        simp only [hb]
        rw [if_neg (by omega)]
      | some s =>
        have : s = 39 := hs (by omega) b off s rfl
        subst this
        simp only [hb]
        rw [if_pos ⟨True.intro, by decide⟩]
    · rw [lt] at hj
      obtain ⟨b1, o1, e1, e2, e3⟩ := hp (k + j) (by omega)
      have e4 : (L.drop k).getD j RecD.z = L.getD (k + j) RecD.z := by
        rw [List.getD_eq_getElem?_getD, List.getD_eq_getElem?_getD, List.getElem?_drop]
      rw [e4]
      refine ⟨b1, o1, ?_, e2, e3⟩
      rw [← e1]
      unfold idxS i64n
      simp only
      rw [if_pos (by omega), if_pos (by omega), Int.toNat_natCast, Int.toNat_natCast, Nat.add_mul, Nat.add_assoc]
theorem bsl_dig (g : Heap) {D : List Nat} (dD : D32 D) : bslR 32 (.agg (List.replicate 32 (.int .u8 0)).toArray) 1 [(0, .agg (u8s D).toArray)] g = some (.slice (some ⟨g.next, 0, none⟩) 1 1, g.alloc (u8s D)) := by
  have c := dig_cells dD
  have e1 : (Value.agg (u8s D).toArray).cells = (u8s D).toArray := rfl
  have hz : zeros (Value.agg (List.replicate 32 (.int .u8 0)).toArray).cells.toList 1 = List.replicate 32 (.int .u8 0) := rfl
  have e2 : fillL (List.replicate 32 (.int .u8 0)) [(0 * 32, 32, Value.agg (u8s D).toArray)] = some (u8s D) := by
    unfold fillL
    rw [e1, if_pos (by simp [c.1])]
    unfold fillL
    congr 1
    unfold splice
    rw [Nat.zero_mul, List.take_zero, List.nil_append, Nat.zero_add, List.drop_eq_nil_of_le (by rw [List.length_replicate]; simp [c.1]), List.append_nil]
  have hc : (flatAll (Value.agg (List.replicate 32 (.int .u8 0)).toArray).cells.toList && (Value.agg (List.replicate 32 (.int .u8 0)).toArray).cells.size = 32 && 0 < 32 && 1 * 32 ≤ 16777216 && oneCells ([((0 : Nat), Value.agg (u8s D).toArray)].flatMap fun x => x.2.cells.toList)) = true := by
    rw [List.flatMap_cons, List.flatMap_nil, List.append_nil, e1, c.2.2]
    rfl
  unfold bslR
  rw [if_pos (by simpa using hc), hz, List.map_cons, List.map_nil]
  simp only [e2]
theorem pc_le (i : Nat) : pc i ≤ i := by
  have hpc : ∀ (f j : Nat), pcG f j ≤ f := by
    intro f
    induction f with
    | zero => intro j; exact Nat.le_refl _
    | succ f ih =>
      intro j
      have := ih (j / 2)
      show j % 2 + pcG f (j / 2) ≤ f + 1
      omega
  exact hpc i i
/-- The leaves. -/
def lvs (L : List RecD) : List (List Nat) := L.map leafD
theorem lvs_take {L : List RecD} {i : Nat} (hi : i < L.length) : lvs (L.take (i + 1)) = lvs (L.take i) ++ [leafD (L.getD i RecD.z)] := by
  unfold lvs
  rw [List.take_add_one, List.map_append, List.getElem?_eq_getElem hi, List.getD_eq_getElem?_getD, List.getElem?_eq_getElem hi]
  rfl
set_option maxRecDepth 100000 in
/-- The outer loop of tree: the stack after all leaves. -/
theorem tre2 {h : Heap} (hG : 4 ≤ h.n0) (hz : h.get 3 = some roundsL) {N d2 : Nat} {v : Value} {L : List RecD} (hN : N = h.next) (hv : RSl h v L) (hval : ∀ r ∈ L, recB r = true) (hl : L.length ≤ 1000000)
    {x : Nat → Value} (x3 : x 3 = .slice none 0 0) (x15 : x 15 = v) (x16 : x 16 = i64n L.length) (x17 : x 17 = i64n 0) (x2 : x 2 = ptr d2 0) :
    Fin 66 (fun ex y g => ex = .exit 0 ∧ y 2 = ptr d2 0 ∧ Old h g ∧ Stk g N (y 3) (stk nodeD (lvs L) [] 0).reverse) (iter (codeA Tryd.prog CW (partOf Tryd.f54 [1, 1, 1, 0, 1, 0, 0])) rounds (mkF 66 x) h) := by
  refine loop_fin (t54l54_111010_eq CW) (Inv := fun k y g => ∃ i, i + k = L.length ∧ y 15 = v ∧ y 16 = i64n L.length ∧ y 17 = i64n i ∧ y 2 = ptr d2 0 ∧ Old h g ∧ Stk g N (y 3) (stk nodeD (lvs (L.take i)) [] 0).reverse) ?_ L.length (by have : rounds = 18446744073709551616 := rfl; omega) ⟨0, by omega, x15, x16, x17, x2, Kept.refl _ _, by rw [x3]; exact Stk.nil h N⟩
  rintro k y g ⟨i, hik, y15, y16, y17, y2, O, sk⟩
  unfold t54l54_111010
  simp -implicitDefEqProofs only [y16, y17, lss3, thenV_some, pu_some]
  by_cases hi : i < L.length
  · obtain ⟨b, o, ix, wr, mr, lp⟩ := hv.at hi
    have vr := hval _ mr
    have htk := lvs_take hi
    have hli : (lvs (L.take i)).length = i := by unfold lvs; rw [List.length_map, List.length_take]; omega
    have hsl := stk_len nodeD (lvs (L.take i)) [] 0 rfl
    rw [hli, Nat.zero_add] at hsl
    generalize hr : L.getD i RecD.z = r at *
    generalize hSS : stk nodeD (lvs (L.take i)) [] 0 = S at *
    have L1 := lp g O
    have cr := rec_cells wr
    obtain ⟨g1, z1, o1, q1, n1⟩ := fresh (recC RecD.z) g
    obtain ⟨g2, e2, k2, q2, _, n2⟩ := stored_all (n := 39) (k' := recC r) q1 (by rw [o1.n0]; exact g.n0_le_next) rfl cr.1 cr.2.2
    have o2 : Old g g2 := Old.of_new o1 k2 (Nat.le_refl _)
    have L2 := ldN_all q2 cr.1 cr.2.1
    have O2 := O.trans o2
    obtain ⟨g3, e3, o3⟩ := r69 (h := g2) (by rw [O2.n0]; exact hG) (Old.get O2 hz) wr vr
    have O3 := O2.trans o3
    obtain ⟨g4, z4, o4, q4, n4⟩ := fresh (List.replicate 32 (.int .u8 0)) g3
    have dl := dig_cells (leafD_ok r)
    obtain ⟨g5, e5, k5, q5, _, n5⟩ := stored_all (n := 32) (k' := u8s (leafD r)) q4 (by rw [o4.n0]; exact g3.n0_le_next) rfl dl.1 dl.2.2
    have o5 : Old g3 g5 := Old.of_new o4 k5 (Nat.le_refl _)
    have O5 := O3.trans o5
    have sk5 : Stk g5 N (y 3) S.reverse := ((sk.old o2).old o3).old o5
    have hNlt : N ≤ g3.next := by have := O3.next; omega
    have z1 : newC [(.int .u8 0), (.int .u8 0), (.int .u8 0), (.int .u8 0), (.int .u8 0), (.int .u8 0), (.int .u8 0), (.int .u8 0), (.int .u8 0), (.int .u8 0), (.int .u8 0), (.int .u8 0), (.int .u8 0), (.int .u8 0), (.int .u8 0), (.int .u8 0), (.int .u8 0), (.int .u8 0), (.int .u8 0), (.int .u8 0), (.int .u8 0), (.int .u8 0), (.int .u8 0), (.int .u8 0), (.int .u8 0), (.int .u8 0), (.int .u8 0), (.int .u8 0), (.int .u8 0), (.int .u8 0), (.int .u8 0), (.int .u8 0), (.int .u8 0), (.int .i64 0), (.int .u64 0), (.int .u64 0), (.bool false), (.int .i64 0), (.int .i64 0)] g = some (ptr g.next 0, g1) := z1
    simp -implicitDefEqProofs only [decide_eq_true hi, y15, ix, L1, z1, e2, L2, e3, z4, e5, thenV_some, pu_some]
    refine endL_fin (n := 66) (Q := fun o => Rnd 66 _ _ k o) (tre1 (h := g5) (by rw [O5.n0]; exact hG) (Old.get O5 hz) (N := N) (d := g3.next) (i := i) (S := S) (vs := y 3) (q15 := v) (q16 := i64n L.length) (q17 := i64n i) (q2 := ptr d2 0) (by rw [O5.n0]; have := h.n0_le_next; omega) hNlt sk5 (leafD_ok r) q5 (fun b' hb' => by
      have := (sk.lt hb').2
      have := O3.next
      have := o2.next
      have := o3.next
      omega) (by omega) hsl rfl rfl rfl y15 y16 y17 y2) ?_
    rintro _ z g6 ⟨rfl, z6, z15, z16, z17, z2, K6, D', S', vs', z3, sk6, hb6, dD, gd, hpu⟩
    simp -implicitDefEqProofs only [endL_exit, b54_20, if_true, t54k54_18_eq]
    unfold t54k54_18
    have O6 : Old h g6 := Old.of_new O5 K6 (by omega)
    have cD := dig_cells dD
    have L6 := ldN_all gd cD.1 cD.2.1
    have b7 : bslR 32 (.agg (List.replicate 32 (.int .u8 0)).toArray) 1 [(0, .agg (u8s D').toArray)] g6 = some (.slice (some ⟨g6.next, 0, none⟩) 1 1, g6.alloc (u8s D')) := bsl_dig g6 dD
    have o7 : Old g6 (g6.alloc (u8s D')) := Kept.alloc _ _ _
    have q7 : (g6.alloc (u8s D')).get g6.next = some (u8s D') := by rw [Heap.get_alloc, if_pos rfl]
    have hS'l : S'.reverse.length ≤ 1000000 := by
      have := push_len nodeD i (leafD r) S i (Nat.le_refl _) hsl
      rw [hpu, List.length_cons] at this
      have hpc := pc_le (i + 1)
      rw [List.length_reverse]
      omega
    obtain ⟨v8, g8, e8, sk8, k8, hb8⟩ := (sk6.old o7).push (c := g6.next) (by rw [o7.n0, O6.n0]; have := h.n0_le_next; omega) (by have := O6.next; have := o7.next; omega) dD hS'l q7
    have O8 : Old h g8 := (O6.trans o7).also k8 (fun b' hb' hs => by
      have := ((sk6.old o7).lt hs).1
      omega)
    simp -implicitDefEqProofs only [z3, z6, L6, b7, e8, thenV_some, t54k54_14_eq]
    unfold t54k54_14
    have a17 : bin Tryd.prog .add 3 (i64n i) (.int .i64 1) = some (i64n (i + 1)) := add31 (by omega)
    have z17' : up z [(3, v8), (43, vs'), (44, .agg (u8s D').toArray), (45, .slice (some ⟨g6.next, 0, none⟩) 1 1), (46, v8)] 17 = i64n i := z17
    simp -implicitDefEqProofs only [z17', a17, thenV_some, pu_some]
    refine Rnd.next (k - 1) (by omega) ⟨i + 1, by omega, z15, z16, rfl, z2, O8, ?_⟩
    have e9 : (stk nodeD (lvs (L.take (i + 1))) [] 0).reverse = S'.reverse ++ [D'] := by
      rw [htk, stk_snoc, hSS, hli, hpu, List.reverse_cons]
    rw [e9]
    exact sk8
  · have : i = L.length := by omega
    subst this
    simp -implicitDefEqProofs only [decide_eq_false hi]
    rw [List.take_length] at sk
    exact Rnd.out 0 ⟨rfl, y2, O, sk⟩
end Go.Proofs.YtdnahgfgoajmcaaDoor

namespace Go.Proofs.YtdnahgfgoajmcaaDoor
open Go Go.Abs
attribute [local congr] thenV_congr
theorem rng54 : partOf Tryd.f54 [1, 1, 1, 1, 1, 0, 1, 0] = .rangeFunc (.tmp 59) #[60, 61] (rgA (partOf Tryd.f54 [1, 1, 1, 1, 1, 0, 1, 0])) (rgB (partOf Tryd.f54 [1, 1, 1, 1, 1, 0, 1, 0])) := by kernel_rfl
theorem rng54a : codeOk Tryd.prog (rgA (partOf Tryd.f54 [1, 1, 1, 1, 1, 0, 1, 0])) = true := by kernel_rfl
theorem rng54b : codeOk Tryd.prog (rgB (partOf Tryd.f54 [1, 1, 1, 1, 1, 0, 1, 0])) = true := by kernel_rfl
theorem body135 : hasBody Tryd.prog 135 = true := by kernel_rfl
theorem take_rev {T : List (List Nat)} {j : Nat} (hj : j < T.length) : (T.take (j + 1)).reverse = T.getD j [] :: (T.take j).reverse := by
  rw [List.take_add_one, List.getElem?_eq_getElem hj, List.getD_eq_getElem?_getD, List.getElem?_eq_getElem hj]
  simp
set_option maxRecDepth 100000 in
/-- The loop over what Backward yields. -/
theorem tre3 {h : Heap} (hG : 4 ≤ h.n0) (hz : h.get 3 = some roundsL) {d c : Nat} {w : Value} {T : List (List Nat)} {D : List Nat} {x : Nat → Value} (x8 : x 8 = ptr d 0) (x59 : x 59 = .func (.func 135) #[] #[ptr c 0])
    (hw : PR h w T) (hww : isHole w = false) (hT : T.length ≤ 1000000) (hwd : ∀ j b o, j < T.length → idxS 32 w (i64n j) = some (ptr b o) → ¬ b = d) (hc : h.get c = some [w]) (hcd : ¬ c = d) (hd : h.get d = some (u8s D)) (hD : D32 D) (hd0 : h.n0 ≤ d) (hd3 : ¬ 3 = d) :
    ∃ h', codeA Tryd.prog CW (partOf Tryd.f54 [1, 1, 1, 1, 1, 0, 1, 0]) (mkF 66 x) h = some (.normal, mkF 66 x, h') ∧ Kept h h' (· = d) ∧ h'.get d = some (u8s (finS nodeD (D :: T.reverse))) := by
  have hdn := h.lt_of_get hd
  have hcn := h.lt_of_get hc
  generalize hA : rgA (partOf Tryd.f54 [1, 1, 1, 1, 1, 0, 1, 0]) = ca at *
  generalize hB : rgB (partOf Tryd.f54 [1, 1, 1, 1, 1, 0, 1, 0]) = cb at *
  have L0 := LpR.new h (mkF 66 x) [60, 61] ca cb
  have k0 : Old h (h.allocB (.obj (.loop .ready none (mkF 66 x) [60, 61] ca cb))) := Kept.allocO _ _ _
  have n0 : (h.allocB (.obj (.loop .ready none (mkF 66 x) [60, 61] ca cb))).next = h.next + 1 := rfl
  have hk : ∀ g, Kept (h.allocB (.obj (.loop .ready none (mkF 66 x) [60, 61] ca cb))) g (fun b => b = d ∨ b = h.next) → Kept h g (fun b => b = d ∨ b = h.next) := fun g k => (k0.mono (fun _ _ h => h.elim)).trans k
  generalize hh0 : h.allocB (.obj (.loop .ready none (mkF 66 x) [60, 61] ca cb)) = h0 at *
  obtain ⟨h2, e2, K2, R2, g2, _⟩ := r135 (h := h0) (by rw [k0.n0]; exact hG) (L := h.next) (c := c) (w := w) (T := T) hT
    (fun j g => Kept h g (fun b => b = d ∨ b = h.next) ∧ LpR g h.next (mkF 66 x) [60, 61] ca cb ∧ h0.next ≤ g.next ∧ ∃ D', g.get d = some (u8s D') ∧ D32 D' ∧ (T.take j).reverse.foldl (fun d x => nodeD x d) D' = T.reverse.foldl (fun d x => nodeD x d) D)
    (fun j g ⟨K, _, _, _⟩ => by
      refine ⟨?_, hw.1, hw.2.1, fun j hj => ?_⟩
      · exact ld1_at (K.getE hc (fun q => by rcases q with q | q <;> omega)) (by rfl) hww
      · obtain ⟨b, o, h1, h2, h3⟩ := hw.2.2 j hj
        have hne := hwd j b o hj h1
        have hb : g.get b = h.get b := Kept.get K b h2 (fun q => by rcases q with q | q <;> omega)
        exact ⟨b, o, h1, Nat.lt_of_lt_of_le h2 K.next, fun g' e => h3 g' (e.trans hb)⟩)
    (fun j g hj ⟨K, R, hn, D', gd, dD, hf⟩ => by
      have G : 4 ≤ g.n0 := by rw [K.n0]; exact hG
      have hp : D32 (T.getD j []) := hw.2.1 _ (by
        rw [List.getD_eq_getElem?_getD, List.getElem?_eq_getElem hj]
        exact List.getElem_mem hj)
      rw [take_rev hj, List.foldl_cons] at hf
      generalize T.getD j [] = p at *
      have cp := dig_cells hp
      have cD := dig_cells dD
      obtain ⟨g3, z3, o3, g3', n3⟩ := fresh (List.replicate 32 (.int .u8 0)) g
      obtain ⟨g4, e4, k4, g4', _, n4⟩ := stored_all (n := 32) (k' := u8s p) g3' (by rw [o3.n0]; exact g.n0_le_next) rfl cp.1 cp.2.2
      have o4 : Old g g4 := Old.of_new o3 k4 (Nat.le_refl _)
      have ha : codeA Tryd.prog CW ca (putAll (mkF 66 x) ([60, 61].zip [i64n j, .agg (u8s p).toArray])) g = some (.normal, mkF 66 (up (up (up x [(60, i64n j)]) [(61, .agg (u8s p).toArray)]) [(10, ptr g.next 0)]), g4) := by
        show codeA Tryd.prog CW ca (((mkF 66 x).set 60 (i64n j)).set 61 (.agg (u8s p).toArray)) g = _
        rw [mkF_set, mkF_set, ← hA, t54l54_11111010a_eq]
        unfold t54l54_11111010a
        have y61 : up (up x [(60, i64n j)]) [(61, .agg (u8s p).toArray)] 61 = .agg (u8s p).toArray := rfl
        simp -implicitDefEqProofs only [y61, z3, e4, thenV_some]
      have R4 : LpR g4 h.next (mkF 66 x) [60, 61] ca cb := R.keep o4 (fun h => h)
      have R4' := R4
      unfold LpR at R4'
      have kS : Kept g4 (g4.setO h.next (.loop .busy none (mkF 66 x) [60, 61] ca cb)) (· = h.next) := Kept.setO R4' rfl
      have gS : ∀ b, (g4.setO h.next (.loop .busy none (mkF 66 x) [60, 61] ca cb)).get b = g4.get b := fun b => Heap.get_setO R4' _ b
      have nS : (g4.setO h.next (.loop .busy none (mkF 66 x) [60, 61] ca cb)).next = g4.next := rfl
      generalize hg5 : g4.setO h.next (.loop .busy none (mkF 66 x) [60, 61] ca cb) = g5 at *
      have G5 : 4 ≤ g5.n0 := by rw [kS.n0, o4.n0]; exact G
      have q10 : g5.get g.next = some (u8s p) := (gS _).trans g4'
      have q8 : g5.get d = some (u8s D') := (gS _).trans (Old.get o4 gd)
      have Z5 : g5.get 3 = some roundsL := (gS _).trans (Old.get o4 (K.getE hz (fun q => by
        have := h.lt_of_get hz
        rcases q with q | q <;> omega)))
      have l10 := ldN_all q10 cp.1 cp.2.1
      have l8 := ldN_all q8 cD.1 cD.2.1
      obtain ⟨g6, e6, o6⟩ := r70 (h := g5) G5 Z5 hp dD
      have dn := dig_cells (nodeD_ok p D')
      obtain ⟨g7, e7, k7, g7', _, n7⟩ := stored_all (n := 32) (k' := u8s (nodeD p D')) (Old.get o6 q8) (by rw [o6.n0, kS.n0, o4.n0, K.n0]; exact hd0) cD.1 dn.1 dn.2.2
      have hb : codeA Tryd.prog CW cb (mkF 66 (up (up (up x [(60, i64n j)]) [(61, .agg (u8s p).toArray)]) [(10, ptr g.next 0)])) g5 = some (.normal, mkF 66 (up (up (up (up x [(60, i64n j)]) [(61, .agg (u8s p).toArray)]) [(10, ptr g.next 0)]) [(62, .agg (u8s p).toArray), (63, .agg (u8s D').toArray), (64, .agg (u8s (nodeD p D')).toArray)]), g7) := by
        rw [← hB, t54l54_11111010b_eq]
        unfold t54l54_11111010b
        have y10 : up (up (up x [(60, i64n j)]) [(61, .agg (u8s p).toArray)]) [(10, ptr g.next 0)] 10 = ptr g.next 0 := rfl
        have y8 : up (up (up x [(60, i64n j)]) [(61, .agg (u8s p).toArray)]) [(10, ptr g.next 0)] 8 = ptr d 0 := x8
        simp -implicitDefEqProofs only [y10, y8, l10, l8, e6, e7, thenV_some]
      have k57 : Kept g5 g7 (· = d) := (o6.mono (fun _ _ h => h.elim)).trans k7
      obtain ⟨g8, e8, R8, n8, m8, s8, b8⟩ := LpR.round (B := (· = d)) R rfl (by rw [← hA]; exact rng54a) (by rw [← hB]; exact rng54b) ha (o4.mono (fun _ _ h => h.elim)) (show ¬ h.next = d by omega) (by rw [hg5]; exact hb) (by rw [hg5]; exact k57)
      have hnx : g.next ≤ g8.next := by
        have := o4.next
        have := k57.next
        omega
      have K8 : Kept g g8 (fun b => b = d ∨ b = h.next) := by
        refine ⟨m8, hnx, fun b hb hq => ?_⟩
        have q1 : ¬ b = d := fun q => hq (.inl q)
        have q2 : ¬ b = h.next := fun q => hq (.inr q)
        have n4' := o4.next
        rw [b8 b q2, k57.getB b (by omega) q1, kS.getB b (by omega) q2]
        exact Kept.getB o4 b hb (fun h => h)
      exact ⟨g8, CW_yield G e8, K.trans K8, R8, by omega, nodeD p D', (s8 d).trans g7', nodeD_ok _ _, hf⟩)
    ⟨hk _ (Kept.refl _ _), L0, Nat.le_refl _, D, Old.get k0 hd, hD, by rw [List.take_length]⟩
  obtain ⟨D', gd', dD', hf⟩ : ∃ D', h2.get d = some (u8s D') ∧ D32 D' ∧ (T.take 0).reverse.foldl (fun d x => nodeD x d) D' = T.reverse.foldl (fun d x => nodeD x d) D := by
    obtain ⟨_, D', q1, q2, q3⟩ := (⟨g2, ‹_›⟩ : (h0.next ≤ h2.next) ∧ _)
    exact ⟨D', q1, q2, q3⟩
  obtain ⟨h3, e3, k3, n3⟩ := R2.fin (e0 := mkF 66 x)
  have hv : ev (mkF 66 x) (.tmp 59) = .func (.func 135) #[] #[ptr c 0] := (ev_mkF (by decide) x).trans x59
  refine ⟨h3, ?_, ?_, ?_⟩
  · refine (code_range (v := .tuple #[]) (h2 := h2) (ps := #[60, 61]) rng54 hv body135 ?_).trans e3
    rw [hA, hB]
    show CW 135 [.func (.yield h.next) #[] #[], ptr c 0] (h.allocB (.obj (.loop .ready none (mkF 66 x) [60, 61] ca cb))) = _
    rw [hh0]
    exact e2
  · refine ⟨k3.n0.trans K2.n0, Nat.le_trans K2.next k3.next, fun b hb hq => ?_⟩
    rw [k3.getB b (by have := K2.next; omega) (by omega), K2.getB b hb (fun q => by rcases q with q | q; exact hq q; omega)]
  · rw [k3.getE gd' (by omega)]
    rw [List.take_zero, List.reverse_nil, List.foldl_nil] at hf
    rw [hf]
    rfl
/-- The tree hash of records. -/
def treeV (L : List RecD) : List Nat := if L.length = 0 then nilD else treeN nodeD (lvs L)
theorem pc_pos : ∀ (i : Nat), pc i = 0 → i = 0 := by
  intro i
  induction i using Nat.strongRecOn with
  | _ i ih =>
    intro h
    rw [pc_step] at h
    by_cases c : i = 0
    · exact c
    · have := ih (i / 2) (by omega) (by omega)
      omega
theorem treeG_ok : ∀ (f : Nat) (L : List (List Nat)), (∀ t ∈ L, D32 t) → 1 ≤ L.length → L.length ≤ f → D32 (treeG nodeD f L)
  | 0, L, _, h1, h2 => by omega
  | f + 1, L, hd, h1, h2 => by
    rw [treeG_s]
    split
    · match L, h1 with
      | d :: _, _ => exact hd d List.mem_cons_self
    · exact nodeD_ok _ _
theorem treeV_ok (L : List RecD) : D32 (treeV L) := by
  unfold treeV
  split
  · exact nilD_ok
  · have hl : (lvs L).length = L.length := List.length_map _
    exact treeG_ok _ _ (fun t ht => by obtain ⟨r, _, rfl⟩ := List.mem_map.1 ht; exact leafD_ok r) (by omega) (Nat.le_refl _)
theorem stk_ok : ∀ (M S : List (List Nat)) (i : Nat), (∀ t ∈ M, D32 t) → (∀ t ∈ S, D32 t) → ∀ t ∈ stk nodeD M S i, D32 t
  | [], S, i, _, hS => hS
  | d :: M, S, i, hM, hS => stk_ok M _ _ (fun t ht => hM t (List.mem_cons_of_mem _ ht)) (push_ok nodeD (fun a b => nodeD_ok a b) i i (hM d List.mem_cons_self) hS)
set_option maxRecDepth 100000 in
/-- tree -/
theorem r54 {h : Heap} (hG : 4 ≤ h.n0) (hz : h.get 3 = some roundsL) {v : Value} {L : List RecD} (hv : RSl h v L) (hval : ∀ r ∈ L, recB r = true) (hl : L.length ≤ 1000000) :
    ∃ h', CW 54 [v] h = some (.agg (u8s (treeV L)).toArray, h') ∧ Old h h' := by
  obtain ⟨h1, z1, o1, g1, n1⟩ := fresh (List.replicate 32 (.int .u8 0)) h
  have hll := hv.len
  have q0 := eql0 L.length
  by_cases c : L.length = 0
  · rw [decide_eq_true c] at q0
    obtain ⟨h2, e2, o2⟩ := r106 (h := h1) (by rw [o1.n0]; exact hG) (Old.get o1 hz)
    have dn := dig_cells nilD_ok
    have O2 := o1.trans o2
    obtain ⟨h3, e3, k3, g3, _, n3⟩ := stored_all (n := 32) (k' := u8s nilD) (Old.get o2 g1) (by rw [O2.n0]; exact h.n0_le_next) rfl dn.1 dn.2.2
    have L3 := ldN_all g3 dn.1 dn.2.1
    have ev : treeV L = nilD := by unfold treeV; rw [if_pos c]
    rw [ev]
    refine ⟨h3, CW_body is54 hG rfl ((t54_eq _ _ _).trans ?_), Old.of_new O2 k3 (Nat.le_refl _)⟩
    unfold t54
    simp -implicitDefEqProofs only [z1, hll, q0, e2, e3, thenV_some, pu_some]
    exact res_cell results54 agg35 size32 (show 2 < 66 by decide) _ L3
  · rw [decide_eq_false c] at q0
    have hlv : (lvs L).length = L.length := List.length_map _
    have hfin := fin_stk nodeD L.length (lvs L) hlv (by omega) (by omega)
    have hsl := stk_len nodeD (lvs L) [] 0 rfl
    rw [hlv, Nat.zero_add] at hsl
    have hso := stk_ok (lvs L) [] 0 (fun t ht => by obtain ⟨r, _, rfl⟩ := List.mem_map.1 ht; exact leafD_ok r) (fun t ht => by cases ht)
    have ev : treeV L = treeN nodeD (lvs L) := by unfold treeV; rw [if_neg c]
    have key : ∃ o : Out, t54 CW v h = o ∧ ∃ h', o = some (.agg (u8s (treeV L)).toArray, h') ∧ Old h h' := by
      refine ⟨_, rfl, ?_⟩
      unfold t54
      simp -implicitDefEqProofs only [z1, hll, q0, thenV_some, pu_some]
      refine endL_fin (n := 66) (Q := fun o : Out => ∃ h', o = some (.agg (u8s (treeV L)).toArray, h') ∧ Old h h') (tre2 (h := h1) (by rw [o1.n0]; exact hG) (Old.get o1 hz) (N := h1.next) (d2 := h.next) rfl (hv.mono o1) hval hl rfl rfl rfl rfl rfl) ?_
      rintro _ y g ⟨rfl, y2, O, sk⟩
      simp -implicitDefEqProofs only [endL_exit, b54_7, if_true, t54k54_5_eq]
      unfold t54k54_5
      generalize hSS : stk nodeD (lvs L) [] 0 = S at *
      cases S with
      | nil =>
        have := pc_pos L.length (by rw [← hsl]; rfl)
        exact absurd this c
      | cons D S' =>
        rw [List.reverse_cons] at sk
        have hlen := sk.len
        rw [List.length_append, List.length_singleton] at hlen
        have hS'l : S'.reverse.length ≤ 1000000 := by
          have := pc_le L.length
          rw [List.length_cons] at hsl
          rw [List.length_reverse]
          omega
        obtain ⟨P, gs⟩ := sk.pr
        obtain ⟨b, o, ix, dD, lp⟩ := PR.last P
        have Lp := lp g (Kept.refl _ _)
        have cD := dig_cells dD
        have sb : bin Tryd.prog .sub 3 (i64n (S'.reverse.length + 1)) (.int .i64 1) = some (i64n S'.reverse.length) := sub_n1 (by omega) (by omega)
        obtain ⟨g2, z2, o2, q2, m2⟩ := fresh (List.replicate 32 (.int .u8 0)) g
        obtain ⟨g3, e3, k3, q3, _, m3⟩ := stored_all (n := 32) (k' := u8s D) q2 (by rw [o2.n0]; exact g.n0_le_next) rfl cD.1 cD.2.2
        have o3 : Old g g3 := Old.of_new o2 k3 (Nat.le_refl _)
        obtain ⟨w, ew, skw, hbw⟩ := (sk.old o3).pop
        obtain ⟨Pw, gw⟩ := skw.pr
        have hbl : ∀ b', stB w = some b' → b' < g.next := fun b' hb' => (sk.lt (hbw ▸ hb')).2
        obtain ⟨wa, wc, rfl⟩ := Pw.1
        have OO3 : Old h g3 := (o1.trans O).trans o3
        obtain ⟨g4, e4, o4, q4, m4⟩ := r107 (h := g3) (by rw [OO3.n0]; exact hG) (a := wa) (n := S'.reverse.length) (c := wc)
        have OO4 := OO3.trans o4
        simp -implicitDefEqProofs only [hlen, sb, ix, Lp, z2, e3, ew, e4, thenV_some, pu_some]
        have hz3 : ¬ 3 = g.next := by
          have := h.lt_of_get hz
          have := o1.next
          have := O.next
          omega
        obtain ⟨g5, e5, k5, q5⟩ := tre3 (h := g4) (by rw [OO4.n0]; exact hG) (Old.get OO4 hz) (d := g.next) (c := g3.next) (w := .slice wa S'.reverse.length wc) (T := S'.reverse) (D := D) (x := up y [(8, ptr g.next 0), (48, y 3), (49, y 3), (50, i64n (S'.reverse.length + 1)), (51, i64n S'.reverse.length), (52, ptr b o), (53, .agg (u8s D).toArray), (54, y 3), (55, y 3), (56, i64n (S'.reverse.length + 1)), (57, i64n S'.reverse.length), (58, .slice wa S'.reverse.length wc), (59, .func (.func 135) #[] #[ptr g3.next 0])]) rfl rfl (Pw.mono o4) rfl hS'l (fun j b' o' hj e => by
            have : stB (.slice wa S'.reverse.length wc) = some b' := by
              rcases skw.form with ⟨h0, _⟩ | ⟨bb, m, X, h1, _⟩
              · rw [h0] at hj; exact absurd hj (Nat.not_lt_zero j)
              · rw [h1] at e ⊢
                unfold idxS i64n at e
                simp only at e
                split at e
                · cases e; rfl
                · cases e
            have := hbl b' this
            omega) q4 (by have := o3.next; have := m2; omega) (Old.get o4 q3) dD (by rw [OO4.n0]; have := h.n0_le_next; have := o1.next; have := O.next; omega) hz3
        rw [e5]
        show ∃ h', k54_9 CW (mkF 66 _) g5 = some (.agg (u8s (treeV L)).toArray, h') ∧ Old h h'
        rw [t54k54_9_eq]
        unfold t54k54_9
        rw [List.reverse_reverse, hfin, ← ev] at q5
        have ct := dig_cells (treeV_ok L)
        have L8 := ldN_all q5 ct.1 ct.2.1
        have y2' : up y [(8, ptr g.next 0), (48, y 3), (49, y 3), (50, i64n (S'.reverse.length + 1)), (51, i64n S'.reverse.length), (52, ptr b o), (53, .agg (u8s D).toArray), (54, y 3), (55, y 3), (56, i64n (S'.reverse.length + 1)), (57, i64n S'.reverse.length), (58, .slice wa S'.reverse.length wc), (59, .func (.func 135) #[] #[ptr g3.next 0])] 2 = ptr h.next 0 := y2
        have y8' : up y [(8, ptr g.next 0), (48, y 3), (49, y 3), (50, i64n (S'.reverse.length + 1)), (51, i64n S'.reverse.length), (52, ptr b o), (53, .agg (u8s D).toArray), (54, y 3), (55, y 3), (56, i64n (S'.reverse.length + 1)), (57, i64n S'.reverse.length), (58, .slice wa S'.reverse.length wc), (59, .func (.func 135) #[] #[ptr g3.next 0])] 8 = ptr g.next 0 := rfl
        have hne : ¬ h.next = g.next := by have := O.next; omega
        obtain ⟨g6, e6, k6, q6, _, m6⟩ := stored_all (n := 32) (k' := u8s (treeV L)) (k5.getE (Old.get ((O.trans o3).trans o4) g1) hne) (by rw [k5.n0, OO4.n0]; exact h.n0_le_next) rfl ct.1 ct.2.2
        have L6 := ldN_all q6 ct.1 ct.2.1
        have hO5 : Old h g5 := Old.of_new OO4 k5 (by have := o1.next; have := O.next; omega)
        simp -implicitDefEqProofs only [y2', y8', L8, e6, thenV_some]
        refine ⟨g6, ?_, Old.of_new hO5 k6 (Nat.le_refl _)⟩
        refine res_cell results54 agg35 size32 (show 2 < 66 by decide) _ ?_
        rw [show up (up y [(8, ptr g.next 0), (48, y 3), (49, y 3), (50, i64n (S'.reverse.length + 1)), (51, i64n S'.reverse.length), (52, ptr b o), (53, .agg (u8s D).toArray), (54, y 3), (55, y 3), (56, i64n (S'.reverse.length + 1)), (57, i64n S'.reverse.length), (58, .slice wa S'.reverse.length wc), (59, .func (.func 135) #[] #[ptr g3.next 0])]) [(65, .agg (u8s (treeV L)).toArray)] 2 = ptr h.next 0 from y2']
        exact L6
    obtain ⟨o9, e, h', e', q⟩ := key
    exact ⟨h', CW_body is54 hG rfl ((t54_eq _ _ _).trans (e.trans e')), q⟩
end Go.Proofs.YtdnahgfgoajmcaaDoor

namespace Go.Proofs.YtdnahgfgoajmcaaDoor
open Go Go.Abs
attribute [local congr] thenV_congr
/-- How many bits a number has. -/
def blG : Nat → Nat → Nat
  | 0, _ => 0
  | f + 1, m => if m = 0 then 0 else blG f (m / 2) + 1
def blN (m : Nat) : Nat := blG 8 m
def lenT : ByteArray := ⟨#[0, 1, 2, 2, 3, 3, 3, 3, 4, 4, 4, 4, 4, 4, 4, 4, 5, 5, 5, 5, 5, 5, 5, 5, 5, 5, 5, 5, 5, 5, 5, 5, 6, 6, 6, 6, 6, 6, 6, 6, 6, 6, 6, 6, 6, 6, 6, 6, 6, 6, 6, 6, 6, 6, 6, 6, 6, 6, 6, 6, 6, 6, 6, 6, 7, 7, 7, 7, 7, 7, 7, 7, 7, 7, 7, 7, 7, 7, 7, 7, 7, 7, 7, 7, 7, 7, 7, 7, 7, 7, 7, 7, 7, 7, 7, 7, 7, 7, 7, 7, 7, 7, 7, 7, 7, 7, 7, 7, 7, 7, 7, 7, 7, 7, 7, 7, 7, 7, 7, 7, 7, 7, 7, 7, 7, 7, 7, 7, 8, 8, 8, 8, 8, 8, 8, 8, 8, 8, 8, 8, 8, 8, 8, 8, 8, 8, 8, 8, 8, 8, 8, 8, 8, 8, 8, 8, 8, 8, 8, 8, 8, 8, 8, 8, 8, 8, 8, 8, 8, 8, 8, 8, 8, 8, 8, 8, 8, 8, 8, 8, 8, 8, 8, 8, 8, 8, 8, 8, 8, 8, 8, 8, 8, 8, 8, 8, 8, 8, 8, 8, 8, 8, 8, 8, 8, 8, 8, 8, 8, 8, 8, 8, 8, 8, 8, 8, 8, 8, 8, 8, 8, 8, 8, 8, 8, 8, 8, 8, 8, 8, 8, 8, 8, 8, 8, 8, 8, 8, 8, 8, 8, 8, 8, 8, 8, 8, 8, 8, 8, 8, 8, 8, 8, 8, 8, 8]⟩
theorem lenT_all : ((List.range 128).all fun m => lenT.data[m]? == some (UInt8.ofNat (blN m))) = true := by kernel_rfl
theorem lenT_small : ((List.range 128).all fun m => Nat.ble (blN m) 7) = true := by kernel_rfl
theorem half_all : ((List.range 127).all fun m => Nat.beq (2 ^ (blN (m + 1) - 1)) (halfN (m + 2))) = true := by kernel_rfl
set_option maxRecDepth 100000 in
theorem lenT_at {m : Nat} (hm : m < 128) : ixS (.string lenT) (.int .u8 (m : Int)) = some (.int .u8 (blN m : Int)) ∧ blN m ≤ 7 := by
  have h1 := List.all_eq_true.1 lenT_all m (List.mem_range.2 hm)
  have h2 := Nat.le_of_ble_eq_true (List.all_eq_true.1 lenT_small m (List.mem_range.2 hm))
  have h1 : lenT.data[m]? = some (UInt8.ofNat (blN m)) := by simpa using h1
  refine ⟨?_, h2⟩
  unfold ixS
  simp only
  rw [if_pos (by omega), Int.toNat_natCast]
  have e : lenT[m]? = lenT.data[m]? := by
    have hs : lenT.size = lenT.data.size := rfl
    by_cases c : m < lenT.size
    · rw [getElem?_pos lenT m c, getElem?_pos lenT.data m (by rw [← hs]; exact c)]
      rfl
    · rw [getElem?_neg lenT m c, getElem?_neg lenT.data m (by rw [← hs]; exact c)]
  rw [e, h1, Option.map_some]
  generalize blN m = b at h2
  show some (Value.int .u8 (((UInt8.ofNat b).toNat : Nat) : Int)) = _
  rw [UInt8.toNat_ofNat', Nat.mod_eq_of_lt (by omega)]
theorem half_bl {n : Nat} (h1 : 2 ≤ n) (h2 : n ≤ 128) : 2 ^ (blN (n - 1) - 1) = halfN n ∧ 1 ≤ blN (n - 1) := by
  have h := Nat.eq_of_beq_eq_true (List.all_eq_true.1 half_all (n - 2) (List.mem_range.2 (by omega)))
  rw [show n - 2 + 1 = n - 1 by omega, show n - 2 + 2 = n by omega] at h
  refine ⟨h, ?_⟩
  show 1 ≤ blG (7 + 1) (n - 1)
  unfold blG
  rw [if_neg (by omega)]
  omega
theorem shl_one {k : Nat} (hk : k ≤ 20) : bin Tryd.prog .shl 3 (.int .i64 1) (i64n k) = some (i64n (2 ^ k)) := by
  unfold i64n
  rw [bin_int]
  unfold binI
  simp only
  rw [if_neg (by omega), Int.toNat_natCast, Int.one_mul]
  have h2 : (2 : Nat) ^ k ≤ 2 ^ 20 := Nat.pow_le_pow_right (by decide) hk
  have e : min k (IntKind.bits .i64) = k := Nat.min_eq_left (by show k ≤ 64; omega)
  have key : ∀ p : Nat, p ≤ 1048576 → some (Value.int .i64 (IntKind.wrap .i64 (p : Int))) = some (.int .i64 (p : Int)) := fun p hp => by rw [wrap_i64 (by omega) (by omega)]
  rw [e, show ((2 : Int) ^ k) = ((2 ^ k : Nat) : Int) by rw [Int.natCast_pow]; rfl]
  exact key _ h2
theorem is148 : IsFn Tryd.prog 148 Tryd.f148 := ⟨by kernel_rfl, by kernel_rfl, by kernel_rfl, by kernel_rfl⟩
theorem is118 : IsFn Tryd.prog 118 Tryd.f118 := ⟨by kernel_rfl, by kernel_rfl, by kernel_rfl, by kernel_rfl⟩
theorem is83 : IsFn Tryd.prog 83 Tryd.f83 := ⟨by kernel_rfl, by kernel_rfl, by kernel_rfl, by kernel_rfl⟩
theorem geq_u (m c : Nat) (h : m < c) : bin Tryd.prog .geq 32 (.int .u64 (m : Int)) (.int .u64 (c : Int)) = some (.bool false) := by
  rw [bin_geq, decide_eq_false (by omega)]
set_option maxRecDepth 100000 in
theorem r148 {h : Heap} (hG : 4 ≤ h.n0) {m : Nat} (hm : m < 128) : CW 148 [.int .u64 (m : Int)] h = some (i64n (blN m), h) := by
  have g1 : bin Tryd.prog .geq 32 (.int .u64 (m : Int)) (.int .u64 4294967296) = some (.bool false) := geq_u m 4294967296 (by omega)
  have g2 : bin Tryd.prog .geq 32 (.int .u64 (m : Int)) (.int .u64 65536) = some (.bool false) := geq_u m 65536 (by omega)
  have g3 : bin Tryd.prog .geq 32 (.int .u64 (m : Int)) (.int .u64 256) = some (.bool false) := geq_u m 256 (by omega)
  have c1 : cvI .u8 (.int .u64 (m : Int)) h = some (.int .u8 (m : Int), h) := by
    rw [cvI_int, show IntKind.wrap .u8 (m : Int) = (m : Int) from Int.emod_eq_of_lt (by omega) (by show (m : Int) < 256; omega)]
  obtain ⟨t, hb⟩ := lenT_at hm
  unfold lenT at t
  have c2 : cvI .i64 (.int .u8 (blN m : Int)) h = some (i64n (blN m), h) := by
    rw [cvI_int, wrap_i64 (by omega) (by omega)]
  have a1 : bin Tryd.prog .add 3 (.int .i64 0) (i64n (blN m)) = some (i64n (blN m)) := by
    unfold i64n
    rw [bin_add, Int.zero_add, wrap_i64 (by omega) (by omega)]
  refine CW_body is148 hG rfl ((t148_eq _ _ _).trans ?_)
  unfold t148
  simp -implicitDefEqProofs only [g1, g2, g3, c1, t, c2, a1, thenV_some, pu_some]
theorem r118 {h : Heap} (hG : 4 ≤ h.n0) {m : Nat} (hm : m < 128) : CW 118 [.int .u64 (m : Int)] h = some (i64n (blN m), h) := by
  refine CW_body is118 hG rfl ((t118_eq _ _ _).trans ?_)
  unfold t118
  have e := r148 hG hm
  simp -implicitDefEqProofs only [e, thenV_some]
theorem r83 {h : Heap} (hG : 4 ≤ h.n0) {n : Nat} (h1 : 2 ≤ n) (h2 : n ≤ 128) : CW 83 [i64n n] h = some (i64n (halfN n), h) := by
  have s1 := sub_n1 (a := n) (by omega) (by omega)
  have c1 : cvI .u64 (i64n (n - 1)) h = some (.int .u64 ((n - 1 : Nat) : Int), h) := by
    unfold i64n
    rw [cvI_int, show IntKind.wrap .u64 ((n - 1 : Nat) : Int) = ((n - 1 : Nat) : Int) from Int.emod_eq_of_lt (by omega) (by show ((n - 1 : Nat) : Int) < 18446744073709551616; omega)]
  have e := r118 (h := h) hG (m := n - 1) (by omega)
  obtain ⟨hb, hb1⟩ := half_bl h1 h2
  have hb2 := (lenT_at (m := n - 1) (by omega)).2
  have s2 := sub_n1 (a := blN (n - 1)) hb1 (by omega)
  have s3 := shl_one (k := blN (n - 1) - 1) (by omega)
  rw [hb] at s3
  refine CW_body is83 hG rfl ((t83_eq _ _ _).trans ?_)
  unfold t83
  simp -implicitDefEqProofs only [s1, c1, e, s2, s3, thenV_some, pu_some]
end Go.Proofs.YtdnahgfgoajmcaaDoor

