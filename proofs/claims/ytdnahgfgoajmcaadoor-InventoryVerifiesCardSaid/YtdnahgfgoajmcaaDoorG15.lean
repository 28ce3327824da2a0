/-
  InventoryVerifies: climb, of the document.
  Conditions: the package variables hold what they hold at the start.
  InventoryVerifies: the plain law: the program and the document accept the same proofs.
  Conditions: as each theorem states.
  InventoryVerifies: Verify of the document, and the law.
  Conditions: the package variables hold what they hold at the start.
  InventoryVerifies: a proof as an argument.
  Conditions: the argument can be read as data.
-/
import Derived.Test.YtdnahgfgoajmcaaDoorG14
namespace Go.Proofs.YtdnahgfgoajmcaaDoor
open Go Go.Abs
attribute [local congr] thenV_congr
/-- How the document climbs; the proof from its end. -/
def clG : List (List Nat) → Nat → Nat → List Nat → List Nat × Bool
  | [], n, _, D => (D, decide (n = 1))
  | p :: Q, n, i, D => if n = 1 then (D, false) else if i < halfN n then (nodeR (clG Q (halfN n) i D).1 p, (clG Q (halfN n) i D).2) else (nodeR p (clG Q (n - halfN n) (i - halfN n) D).1, (clG Q (n - halfN n) (i - halfN n) D).2)
theorem clG_cons (p : List Nat) (Q : List (List Nat)) (n i : Nat) (D : List Nat) : clG (p :: Q) n i D = if n = 1 then (D, false) else if i < halfN n then (nodeR (clG Q (halfN n) i D).1 p, (clG Q (halfN n) i D).2) else (nodeR p (clG Q (n - halfN n) (i - halfN n) D).1, (clG Q (n - halfN n) (i - halfN n) D).2) := rfl
theorem nodeR_ok (a b : List Nat) : D32 (nodeR a b) := sumR_ok _ _
theorem clG_ok (Q : List (List Nat)) (n i : Nat) {D : List Nat} (d : D32 D) : D32 (clG Q n i D).1 := by
  cases Q with
  | nil => exact d
  | cons p Q =>
    rw [clG_cons]
    by_cases c : n = 1
    · rw [if_pos c]
      exact d
    · rw [if_neg c]
      by_cases c2 : i < halfN n
      · rw [if_pos c2]
        generalize (clG Q (halfN n) i D).1 = x
        dsimp only
        exact nodeR_ok x p
      · rw [if_neg c2]
        generalize (clG Q (n - halfN n) (i - halfN n) D).1 = x
        dsimp only
        exact nodeR_ok p x
theorem halfG_ge : ∀ (f m n : Nat), m ≤ halfG f m n
  | 0, m, n => Nat.le_refl _
  | f + 1, m, n => by
    rw [halfG]
    split
    · exact Nat.le_trans (by omega) (halfG_ge f (2 * m) n)
    · exact Nat.le_refl _
theorem halfG_lt : ∀ (f m n : Nat), m < n → halfG f m n < n
  | 0, m, n, h => h
  | f + 1, m, n, h => by
    rw [halfG]
    split
    · exact halfG_lt f (2 * m) n (by assumption)
    · exact h
theorem half_pos (n : Nat) : 1 ≤ halfN n := halfG_ge _ _ _
theorem half_lt {n : Nat} (h : 2 ≤ n) : halfN n < n := halfG_lt _ _ _ h
theorem eql1 (n : Nat) : bin Tryd.prog .eql 3 (i64n n) (.int .i64 1) = some (.bool (decide (n = 1))) := by
  unfold i64n
  rw [bin_eql]
  congr 2
  rw [Bool.eq_iff_iff]
  simp only [beq_iff_eq, decide_eq_true_eq]
  omega
theorem sub_nn {a b : Nat} (h : b ≤ a) (ha : a < 9223372036854775808) : bin Tryd.prog .sub 3 (i64n a) (i64n b) = some (i64n (a - b)) := by
  unfold i64n
  rw [bin_sub, show (a : Int) - (b : Int) = ((a - b : Nat) : Int) by omega, wrap_i64 (by omega) (by omega)]
theorem sub_n1 {a : Nat} (h : 1 ≤ a) (ha : a < 9223372036854775808) : bin Tryd.prog .sub 3 (i64n a) (.int .i64 1) = some (i64n (a - 1)) := sub_nn (b := 1) h ha
/-- A slice whose parts can be taken. -/
def gS (v : Value) : Prop := ∃ a n c, v = .slice a n c ∧ n ≤ c ∧ (0 < n → ∀ b o s, a = some ⟨b, o, some s⟩ → s = 32)
theorem PR.cut {h : Heap} {v : Value} {P : List (List Nat)} {p : List Nat} (x : PR h v (P ++ [p])) (g : gS v) :
    ∃ v', slR 32 v none (some (i64n P.length)) none = some v' ∧ PR h v' P ∧ gS v' := by
  obtain ⟨⟨a, c, rfl⟩, hd, hp⟩ := x
  rw [List.length_append, List.length_singleton] at *
  obtain ⟨a', n', c', e, hle, hs⟩ := g
  cases e
  obtain ⟨b0, o0, e0, _⟩ := hp 0 (by omega)
  cases a with
  | none => cases e0
  | some A =>
    obtain ⟨b, off, sp⟩ := A
    have hb : boundsA (P.length + 1) c none (some (i64n P.length)) none = some (0, P.length, c) := by
      have h1 : boundA c c none = some c := rfl
      have h2 : boundA (P.length + 1) c (some (i64n P.length)) = some P.length := by
        unfold boundA i64n
        simp only
        rw [if_pos (by omega)]
        rfl
      unfold boundsA
      rw [h1]
      simp only [h2]
      rfl
    refine ⟨.slice (some ⟨b, off, sp⟩) P.length c, ?_, ⟨⟨_, _, rfl⟩, fun q hq => hd q (List.mem_append_left _ hq), fun j hj => ?_⟩, ⟨_, _, _, rfl, by omega, fun _ => hs (by omega)⟩⟩
    · unfold slR sliceSl
      cases sp with
      | none =>
        simp only [hb]
        rw [if_neg (by omega), Nat.zero_mul, Nat.add_zero, Nat.sub_zero, Nat.sub_zero]
      | some s =>
        have : s = 32 := hs (by omega) b off s rfl
        subst this
        simp only [hb]
        rw [if_pos ⟨True.intro, by decide⟩, Nat.zero_mul, Nat.add_zero, Nat.sub_zero, Nat.sub_zero]
    · obtain ⟨b1, o1, e1, e2, e3⟩ := hp j (by omega)
      have e4 : (P ++ [p]).getD j [] = P.getD j [] := by
        rw [List.getD_eq_getElem?_getD, List.getD_eq_getElem?_getD, List.getElem?_append_left hj]
      rw [e4] at e3
      refine ⟨b1, o1, ?_, e2, e3⟩
      rw [← e1]
      unfold idxS i64n
      simp only
      rw [if_pos (by omega), if_pos (by omega)]
theorem PR.last {h : Heap} {v : Value} {P : List (List Nat)} {p : List Nat} (x : PR h v (P ++ [p])) : ∃ b o, idxS 32 v (i64n P.length) = some (ptr b o) ∧ D32 p ∧ ∀ g : Heap, Old h g → ldN 32 (ptr b o) g = some (.agg (u8s p).toArray, g) := by
  obtain ⟨b, o, e1, e2, e3⟩ := x.2.2 P.length (by rw [List.length_append, List.length_singleton]; omega)
  have e4 : (P ++ [p]).getD P.length [] = p := by
    rw [List.getD_eq_getElem?_getD, List.getElem?_append_right (Nat.le_refl _), Nat.sub_self]
    rfl
  rw [e4] at e3
  exact ⟨b, o, e1, x.2.1 p (List.mem_append_right _ List.mem_cons_self), fun g og => e3 g (Kept.get og b e2 (fun h => h))⟩
theorem PR.len {h : Heap} {v : Value} {P : List (List Nat)} (x : PR h v P) : lenL v = some (i64n P.length) := by
  obtain ⟨⟨a, c, rfl⟩, _, _⟩ := x
  rfl
theorem results71 : Tryd.f71.results.toList = [.cell 8 35, .tmp 9] := by kernel_rfl
theorem is71 : IsFn Tryd.prog 71 Tryd.f71 := ⟨by kernel_rfl, by kernel_rfl, by kernel_rfl, by kernel_rfl⟩
set_option maxRecDepth 100000 in
/-- climb -/
theorem r71 : ∀ (Q : List (List Nat)) {h : Heap}, 4 ≤ h.n0 → GR h → ∀ {n i : Nat} {D : List Nat}, D32 D → 1 ≤ n → n ≤ 1048576 → i < n → ∀ {v : Value}, PR h v Q.reverse → gS v → Q.length ≤ 1000000 →
    ∃ h', CW 71 [i64n n, i64n i, .agg (u8s D).toArray, v] h = some (.tuple #[.agg (u8s (clG Q n i D).1).toArray, .bool (clG Q n i D).2], h') ∧ Old h h' := by
  intro Q
  induction Q with
  | nil =>
    intro h hG hr n i D dD hn1 hn hi v hP hg hl
    have cD := dig_cells dD
    have b1 := box_at h _ cD.2.2
    have o1 : Old h (h.alloc (u8s D)) := Kept.alloc _ _ _
    have g1 : (h.alloc (u8s D)).get h.next = some (u8s D) := by rw [Heap.get_alloc, if_pos rfl]
    generalize h.alloc (u8s D) = h1 at *
    obtain ⟨h2, z2, o2, g2, n2⟩ := fresh (List.replicate 32 (.int .u8 0)) h1
    obtain ⟨h3, e3, k3, g3, _, n3⟩ := stored_all (n := 32) (k' := u8s D) g2 (by rw [o2.n0]; exact h1.n0_le_next) rfl cD.1 cD.2.2
    have L2 := ldN_all (o2.get g1) cD.1 cD.2.1
    have L3 := ldN_all g3 cD.1 cD.2.1
    have hll := PR.len hP
    rw [List.reverse_nil, List.length_nil] at hll
    have q0 : bin Tryd.prog .eql 3 (i64n 0) (.int .i64 0) = some (.bool true) := eql0 0
    have q1 := eql1 n
    refine ⟨h3, CW_body is71 hG rfl ((t71_eq _ _ _ _ _ _).trans ?_), o1.trans (Old.of_new o2 k3 (Nat.le_refl _))⟩
    unfold t71
    by_cases c1 : n = 1
    · rw [decide_eq_true c1] at q1
      simp -implicitDefEqProofs only [b1, z2, q1, L2, hll, q0, e3, thenV_some, pu_some, clG, decide_eq_true c1]
      exact res_cell_tmp results71 agg35 size32 (by decide) (by decide) _ L3
    · rw [decide_eq_false c1] at q1
      simp -implicitDefEqProofs only [b1, z2, q1, L2, hll, q0, e3, thenV_some, pu_some, clG, decide_eq_false c1]
      exact res_cell_tmp results71 agg35 size32 (by decide) (by decide) _ L3
  | cons p Q ih =>
    intro h hG hr n i D dD hn1 hn hi v hP hg hl
    have cD := dig_cells dD
    have b1 := box_at h _ cD.2.2
    have o1 : Old h (h.alloc (u8s D)) := Kept.alloc _ _ _
    have g1 : (h.alloc (u8s D)).get h.next = some (u8s D) := by rw [Heap.get_alloc, if_pos rfl]
    have n1 : (h.alloc (u8s D)).next = h.next + 1 := Heap.next_alloc ..
    generalize h.alloc (u8s D) = h1 at *
    obtain ⟨h2, z2, o2, g2, n2⟩ := fresh (List.replicate 32 (.int .u8 0)) h1
    have L2 := ldN_all (o2.get g1) cD.1 cD.2.1
    have hll := PR.len hP
    rw [List.reverse_cons] at hP
    rw [List.length_reverse] at hll
    have hQl : Q.reverse.length = Q.length := List.length_reverse
    have hl' : Q.length + 1 ≤ 1000000 := by rw [← List.length_cons (a := p)]; exact hl
    have q0 : bin Tryd.prog .eql 3 (i64n (p :: Q).length) (.int .i64 0) = some (.bool false) := by rw [eql0, decide_eq_false (by rw [List.length_cons]; omega)]
    have q1 := eql1 n
    by_cases c1 : n = 1
    · rw [decide_eq_true c1] at q1
      obtain ⟨h3, e3, k3, g3, _, n3⟩ := stored_all (n := 32) (k' := u8s D) g2 (by rw [o2.n0]; exact h1.n0_le_next) rfl cD.1 cD.2.2
      have L3 := ldN_all g3 cD.1 cD.2.1
      have hcl : clG (p :: Q) n i D = (D, false) := by rw [clG_cons, if_pos c1]
      refine ⟨h3, CW_body is71 hG rfl ((t71_eq _ _ _ _ _ _).trans ?_), o1.trans (Old.of_new o2 k3 (Nat.le_refl _))⟩
      unfold t71
      simp -implicitDefEqProofs only [b1, z2, q1, L2, hll, q0, e3, thenV_some, pu_some, hcl]
      exact res_cell_tmp results71 agg35 size32 (by decide) (by decide) _ L3
    · rw [decide_eq_false c1] at q1
      have sb : bin Tryd.prog .sub 3 (i64n (p :: Q).length) (.int .i64 1) = some (i64n Q.length) := sub_n1 (a := (p :: Q).length) (by rw [List.length_cons]; omega) (by rw [List.length_cons]; omega)
      obtain ⟨bb, oo, ix, dp, lp⟩ := PR.last hP
      obtain ⟨v', es, hP', hg'⟩ := PR.cut hP hg
      rw [hQl] at ix es
      have O2 := o1.trans o2
      have Lp := lp h2 O2
      have cp := dig_cells dp
      obtain ⟨h3, z3, o3, g3, n3⟩ := fresh (List.replicate 32 (.int .u8 0)) h2
      obtain ⟨h4, e4, k4, g4, _, n4⟩ := stored_all (n := 32) (k' := u8s p) g3 (by rw [o3.n0]; exact h2.n0_le_next) rfl cp.1 cp.2.2
      have o4 : Old h2 h4 := Old.of_new o3 k4 (Nat.le_refl _)
      have O4 := O2.trans o4
      have L4 := ldN_all (o4.get (o2.get g1)) cD.1 cD.2.1
      have e109 := r109 (h := h4) (by rw [O4.n0]; exact hG) hn
      have hh1 := half_pos n
      have hh2 := half_lt (n := n) (by omega)
      have q2 : bin Tryd.prog .lss 3 (i64n i) (i64n (halfN n)) = some (.bool (decide (i < halfN n))) := lss3 ..
      by_cases c2 : i < halfN n
      · rw [decide_eq_true c2] at q2
        obtain ⟨h5, e5, o5⟩ := ih (h := h4) (by rw [O4.n0]; exact hG) (hr.old O4) dD (i := i) hh1 (by omega) c2 (hP'.mono O4) hg' (by omega)
        have dx := clG_ok Q (halfN n) i dD
        have hcl : clG (p :: Q) n i D = (nodeR (clG Q (halfN n) i D).1 p, (clG Q (halfN n) i D).2) := by rw [clG_cons, if_neg c1, if_pos c2]
        rw [hcl]
        generalize (clG Q (halfN n) i D).1 = x at *
        generalize (clG Q (halfN n) i D).2 = ok at *
        have cx := dig_cells dx
        obtain ⟨h6, z6, o6, g6, n6⟩ := fresh (List.replicate 32 (.int .u8 0)) h5
        obtain ⟨h7, e7, k7, g7, _, n7⟩ := stored_all (n := 32) (k' := u8s x) g6 (by rw [o6.n0]; exact h5.n0_le_next) rfl cx.1 cx.2.2
        have o7 : Old h5 h7 := Old.of_new o6 k7 (Nat.le_refl _)
        have O7 := (O4.trans o5).trans o7
        have Lx := ldN_all g7 cx.1 cx.2.1
        have Lq := ldN_all (Old.get (o5.trans o7) g4) cp.1 cp.2.1
        obtain ⟨h8, e8, o8⟩ := r110 (h := h7) (by rw [O7.n0]; exact hG) (hr.old O7) dx dp
        have cn := dig_cells (nodeR_ok x p)
        have O28 : Old h2 h8 := ((o4.trans o5).trans o7).trans o8
        obtain ⟨h9, e9, k9, g9, _, n9⟩ := stored_all (n := 32) (k' := u8s (nodeR x p)) (Old.get O28 g2) (by rw [O28.n0, o2.n0]; exact h1.n0_le_next) rfl cn.1 cn.2.2
        have L9 := ldN_all g9 cn.1 cn.2.1
        refine ⟨h9, CW_body is71 hG rfl ((t71_eq _ _ _ _ _ _).trans ?_), Old.of_new (O7.trans o8) k9 (by omega)⟩
        unfold t71
        simp -implicitDefEqProofs only [b1, z2, q1, hll, q0, sb, ix, Lp, z3, e4, e109, q2, L4, es, e5, ext0, ext1, z6, e7, Lx, Lq, e8, e9, thenV_some, pu_some]
        exact res_cell_tmp results71 agg35 size32 (by decide) (by decide) _ L9
      · rw [decide_eq_false c2] at q2
        have s1 := sub_nn (a := n) (b := halfN n) (by omega) (by omega)
        have s2 := sub_nn (a := i) (b := halfN n) (by omega) (by omega)
        obtain ⟨h5, e5, o5⟩ := ih (h := h4) (by rw [O4.n0]; exact hG) (hr.old O4) dD (n := n - halfN n) (i := i - halfN n) (by omega) (by omega) (by omega) (hP'.mono O4) hg' (by omega)
        have dx := clG_ok Q (n - halfN n) (i - halfN n) dD
        have hcl : clG (p :: Q) n i D = (nodeR p (clG Q (n - halfN n) (i - halfN n) D).1, (clG Q (n - halfN n) (i - halfN n) D).2) := by rw [clG_cons, if_neg c1, if_neg c2]
        rw [hcl]
        generalize (clG Q (n - halfN n) (i - halfN n) D).1 = x at *
        generalize (clG Q (n - halfN n) (i - halfN n) D).2 = ok at *
        have cx := dig_cells dx
        obtain ⟨h6, z6, o6, g6, n6⟩ := fresh (List.replicate 32 (.int .u8 0)) h5
        obtain ⟨h7, e7, k7, g7, _, n7⟩ := stored_all (n := 32) (k' := u8s x) g6 (by rw [o6.n0]; exact h5.n0_le_next) rfl cx.1 cx.2.2
        have o7 : Old h5 h7 := Old.of_new o6 k7 (Nat.le_refl _)
        have O7 := (O4.trans o5).trans o7
        have Lx := ldN_all g7 cx.1 cx.2.1
        have Lq := ldN_all (Old.get (o5.trans o7) g4) cp.1 cp.2.1
        obtain ⟨h8, e8, o8⟩ := r110 (h := h7) (by rw [O7.n0]; exact hG) (hr.old O7) dp dx
        have cn := dig_cells (nodeR_ok p x)
        have O28 : Old h2 h8 := ((o4.trans o5).trans o7).trans o8
        obtain ⟨h9, e9, k9, g9, _, n9⟩ := stored_all (n := 32) (k' := u8s (nodeR p x)) (Old.get O28 g2) (by rw [O28.n0, o2.n0]; exact h1.n0_le_next) rfl cn.1 cn.2.2
        have L9 := ldN_all g9 cn.1 cn.2.1
        refine ⟨h9, CW_body is71 hG rfl ((t71_eq _ _ _ _ _ _).trans ?_), Old.of_new (O7.trans o8) k9 (by omega)⟩
        unfold t71
        simp -implicitDefEqProofs only [b1, z2, q1, hll, q0, sb, ix, Lp, z3, e4, e109, q2, L4, es, s1, s2, e5, ext0, ext1, z6, e7, Lx, Lq, e8, e9, thenV_some, pu_some]
        exact res_cell_tmp results71 agg35 size32 (by decide) (by decide) _ L9
end Go.Proofs.YtdnahgfgoajmcaaDoor

namespace Go.Proofs.YtdnahgfgoajmcaaDoor
open Go Go.Abs
theorem halfG_s (f m n : Nat) : halfG (f + 1) m n = if 2 * m < n then halfG f (2 * m) n else m := rfl
theorem halfG_fuel : ∀ (f m n : Nat), n ≤ m * 2 ^ (f + 1) → halfG (f + 1) m n = halfG f m n
  | 0, m, n, h => by
    rw [halfG_s, if_neg (by omega)]
    rfl
  | f + 1, m, n, h => by
    rw [halfG_s (f + 1) m n, halfG_s f m n]
    split
    · exact halfG_fuel f (2 * m) n (by
        calc n ≤ m * 2 ^ (f + 1 + 1) := h
          _ = 2 * m * 2 ^ (f + 1) := by rw [Nat.pow_succ 2 (f + 1), Nat.mul_comm (2 ^ (f + 1)) 2, ← Nat.mul_assoc, Nat.mul_comm m 2])
    · rfl
theorem halfG_two : ∀ (f m n : Nat), halfG f (2 * m) n = 2 * halfG f m ((n + 1) / 2)
  | 0, m, n => rfl
  | f + 1, m, n => by
    rw [halfG_s, halfG_s]
    by_cases c : 2 * (2 * m) < n
    · rw [if_pos c, if_pos (by omega), halfG_two f (2 * m) n]
    · rw [if_neg c, if_neg (by omega)]
theorem half_two {n : Nat} (h : 3 ≤ n) (hn : n ≤ 1048576) : halfN n = 2 * halfN ((n + 1) / 2) := by
  unfold halfN
  rw [show halfG 30 1 n = halfG 29 (2 * 1) n by rw [halfG_s, if_pos (by omega)], halfG_two 29 1 n, halfG_fuel 29 1 _ (by omega)]
/-- How a tree with n leaves climbs; none where the proof has the wrong length. -/
def clO : List (List Nat) → Nat → Nat → List Nat → Option (List Nat)
  | [], n, _, D => if n = 1 then some D else none
  | p :: Q, n, i, D => if n = 1 then none else if i < halfN n then (clO Q (halfN n) i D).map (nodeR · p) else (clO Q (n - halfN n) (i - halfN n) D).map (nodeR p ·)
theorem clO_nil (n i : Nat) (D : List Nat) : clO [] n i D = if n = 1 then some D else none := rfl
theorem clO_cons (p : List Nat) (Q : List (List Nat)) (n i : Nat) (D : List Nat) : clO (p :: Q) n i D = if n = 1 then none else if i < halfN n then (clO Q (halfN n) i D).map (nodeR · p) else (clO Q (n - halfN n) (i - halfN n) D).map (nodeR p ·) := rfl
theorem clG_clO : ∀ (Q : List (List Nat)) (n i : Nat) (D : List Nat), clO Q n i D = if (clG Q n i D).2 = true then some (clG Q n i D).1 else none
  | [], n, i, D => by
    rw [clO_nil, show clG [] n i D = (D, decide (n = 1)) from rfl]
    by_cases c : n = 1
    · rw [if_pos c, decide_eq_true c, if_pos rfl]
    · rw [if_neg c, decide_eq_false c]
      rfl
  | p :: Q, n, i, D => by
    rw [clO_cons, clG_cons]
    by_cases c : n = 1
    · rw [if_pos c, if_pos c]
      rfl
    · rw [if_neg c, if_neg c]
      by_cases c2 : i < halfN n
      · rw [if_pos c2, if_pos c2, clG_clO Q]
        generalize clG Q (halfN n) i D = w
        obtain ⟨x, b⟩ := w
        cases b <;> simp only [if_true, Bool.false_eq_true, if_false, Option.map_some, Option.map_none]
      · rw [if_neg c2, if_neg c2, clG_clO Q]
        generalize clG Q (n - halfN n) (i - halfN n) D = w
        obtain ⟨x, b⟩ := w
        cases b <;> simp only [if_true, Bool.false_eq_true, if_false, Option.map_some, Option.map_none]
def stp (i : Nat) (p D : List Nat) : List Nat := if i % 2 = 1 then nodeR p D else nodeR D p
theorem clO_pair : ∀ (n : Nat) (Q : List (List Nat)) (i : Nat) (p D : List Nat), 2 ≤ n → n ≤ 1048576 → i < n → (i % 2 = 1 ∨ i < n - 1) → clO (Q ++ [p]) n i D = clO Q ((n + 1) / 2) (i / 2) (stp i p D) := by
  intro n
  induction n using Nat.strongRecOn with
  | _ n ih =>
    intro Q i p D h2 hn hi hc
    by_cases c2 : n = 2
    · subst c2
      have hh : halfN 2 = 1 := by decide
      cases Q with
      | nil =>
        rw [List.nil_append, clO_cons, hh, if_neg (by omega)]
        have hi2 : i = 0 ∨ i = 1 := by omega
        rcases hi2 with rfl | rfl <;> rfl
      | cons q Q =>
        rw [List.cons_append, clO_cons, hh, if_neg (show ¬ 2 = 1 by omega), clO_cons q Q, if_pos (show (2 + 1) / 2 = 1 by omega)]
        have hx : ∀ j, clO (Q ++ [p]) 1 j D = none := by
          intro j
          cases Q with
          | nil => rw [List.nil_append, clO_cons, if_pos rfl]
          | cons a Q => rw [List.cons_append, clO_cons, if_pos rfl]
        split
        · rw [hx]; rfl
        · rw [hx]; rfl
    · have ht := half_two (n := n) (by omega) hn
      have hp := half_pos ((n + 1) / 2)
      have hl := half_lt h2
      generalize hq : halfN ((n + 1) / 2) = k at *
      cases Q with
      | nil =>
        rw [List.nil_append, clO_cons, ht, if_neg (by omega), clO_nil, clO_nil, clO_nil, if_neg (show ¬ (n + 1) / 2 = 1 by omega), if_neg (show ¬ 2 * k = 1 by omega)]
        split
        · rfl
        · rw [if_neg (by omega)]
          rfl
      | cons q Q =>
        rw [List.cons_append, clO_cons, ht, if_neg (by omega), clO_cons, hq, if_neg (show ¬ (n + 1) / 2 = 1 by omega)]
        by_cases c : i < 2 * k
        · rw [if_pos c, if_pos (show i / 2 < k by omega), ih (2 * k) (by omega) Q i p D (by omega) (by omega) c (by omega), show (2 * k + 1) / 2 = k by omega]
        · have e1 : stp (i - 2 * k) p D = stp i p D := by
            unfold stp
            rw [show (i - 2 * k) % 2 = i % 2 by omega]
          rw [if_neg c, if_neg (show ¬ i / 2 < k by omega), ih (n - 2 * k) (by omega) Q (i - 2 * k) p D (by omega) (by omega) (by omega) (by omega), e1, show (n - 2 * k + 1) / 2 = (n + 1) / 2 - k by omega, show (i - 2 * k) / 2 = i / 2 - k by omega]
theorem clO_up : ∀ (n : Nat) (Q : List (List Nat)) (D : List Nat), 3 ≤ n → n ≤ 1048576 → n % 2 = 1 → clO Q n (n - 1) D = clO Q ((n + 1) / 2) ((n - 1) / 2) D := by
  intro n
  induction n using Nat.strongRecOn with
  | _ n ih =>
    intro Q D h3 hn ho
    have ht := half_two (n := n) (by omega) hn
    have hp := half_pos ((n + 1) / 2)
    have hl := half_lt (n := n) (by omega)
    generalize hq : halfN ((n + 1) / 2) = k at *
    cases Q with
    | nil => rw [clO_nil, clO_nil, if_neg (by omega), if_neg (by omega)]
    | cons q Q =>
      rw [clO_cons, ht, if_neg (show ¬ n = 1 by omega), if_neg (show ¬ n - 1 < 2 * k by omega), clO_cons, hq, if_neg (show ¬ (n + 1) / 2 = 1 by omega), if_neg (show ¬ (n - 1) / 2 < k by omega)]
      by_cases c : n - 2 * k = 1
      · rw [show n - 1 - 2 * k = (n - 1) / 2 - k by omega, show n - 2 * k = (n + 1) / 2 - k by omega]
      · rw [show n - 1 - 2 * k = n - 2 * k - 1 by omega, ih (n - 2 * k) (by omega) Q D (by omega) (by omega) (by omega), show (n - 2 * k + 1) / 2 = (n + 1) / 2 - k by omega, show (n - 2 * k - 1) / 2 = (n - 1) / 2 - k by omega]
theorem lvl_fuel : ∀ (f g i b : Nat), i ≤ f → i ≤ g → lvl f i b = lvl g i b
  | 0, 0, i, b, _, _ => rfl
  | 0, g + 1, i, b, h, _ => by
    rw [lvl, lvl, if_neg (by omega)]
  | f + 1, 0, i, b, _, h => by
    rw [lvl, lvl, if_neg (by omega)]
  | f + 1, g + 1, i, b, h1, h2 => by
    rw [lvl, lvl]
    split
    · exact lvl_fuel f g (i / 2) (b / 2) (by omega) (by omega)
    · rfl
theorem lvl_odd {i : Nat} (b : Nat) (h : i % 2 = 1) : lvl i i b = (i, b) := by
  cases i with
  | zero => omega
  | succ i => rw [lvl, if_neg (by omega)]
theorem vr_up {p : List Nat} {P : List (List Nat)} {i : Nat} {D : List Nat} (h : i % 2 = 0) (h0 : i ≠ 0) : vr (p :: P) i i D = vr (p :: P) (i / 2) (i / 2) D := by
  have e : lvl i i i = lvl (i / 2) (i / 2) (i / 2) := by
    obtain ⟨j, rfl⟩ : ∃ j, i = j + 1 := ⟨i - 1, by omega⟩
    rw [lvl, if_pos ⟨h, h0⟩]
    exact lvl_fuel j _ _ _ (by omega) (Nat.le_refl _)
  rw [vr, if_neg h0, if_pos (.inr rfl), e, vr, if_neg (by omega), if_pos (.inr rfl)]
/-- What Verify's loop leaves, where the climb ends at the root. -/
def vrO (P : List (List Nat)) (i b : Nat) (D : List Nat) : Option (List Nat) := match vr P i b D with | some (b', D') => if b' = 0 then some D' else none | none => none
theorem vr_clO : ∀ (n : Nat) (P : List (List Nat)) (i : Nat) (D : List Nat), 1 ≤ n → n ≤ 1048576 → i < n → vrO P i (n - 1) D = clO P.reverse n i D := by
  intro n
  induction n using Nat.strongRecOn with
  | _ n ih =>
    intro P i D h1 hn hi
    cases P with
    | nil =>
      rw [List.reverse_nil, clO_nil]
      unfold vrO
      rw [vr]
      simp only
      by_cases c : n = 1
      · rw [if_pos c, if_pos (by omega)]
      · rw [if_neg c, if_neg (by omega)]
    | cons p P =>
      by_cases c : n = 1
      · rw [List.reverse_cons]
        have e1 : clO (P.reverse ++ [p]) n i D = none := by
          cases P.reverse with
          | nil => rw [List.nil_append, clO_cons, if_pos c]
          | cons a Q => rw [List.cons_append, clO_cons, if_pos c]
        rw [e1]
        unfold vrO
        rw [vr, if_pos (by omega)]
      · by_cases c1 : i % 2 = 1
        · have e := clO_pair n P.reverse i p D (by omega) hn hi (.inl c1)
          have := ih ((n + 1) / 2) (by omega) P (i / 2) (stp i p D) (by omega) (by omega) (by omega)
          rw [List.reverse_cons, e, ← this]
          unfold vrO stp
          rw [vr, if_neg (by omega), if_pos (.inl c1), lvl_odd _ c1, if_pos c1, node_same, show (n + 1) / 2 - 1 = (n - 1) / 2 by omega]
        · by_cases c2 : i < n - 1
          · have e := clO_pair n P.reverse i p D (by omega) hn hi (.inr c2)
            have := ih ((n + 1) / 2) (by omega) P (i / 2) (stp i p D) (by omega) (by omega) (by omega)
            rw [List.reverse_cons, e, ← this]
            unfold vrO stp
            rw [vr, if_neg (by omega), if_neg (by omega), if_neg c1, node_same, show (n + 1) / 2 - 1 = (n - 1) / 2 by omega]
          · have ei : i = n - 1 := by omega
            subst ei
            have e := clO_up n (p :: P).reverse D (by omega) hn (by omega)
            have := ih ((n + 1) / 2) (by omega) (p :: P) ((n - 1) / 2) D (by omega) (by omega) (by omega)
            rw [e, ← this]
            unfold vrO
            rw [vr_up (by omega) (by omega), show (n + 1) / 2 - 1 = (n - 1) / 2 by omega]
/-- What Verify of the document returns. -/
def verR (R : List Nat) (n i : Int) (r : RecD) (P : List (List Nat)) : Bool :=
  if recB r = true ∧ n ≤ 1048576 ∧ 0 ≤ i ∧ i < n then (clG P.reverse n.toNat i.toNat (leafR r)).2 && decide ((clG P.reverse n.toNat i.toNat (leafR r)).1 = R) else false
theorem ver_same (R : List Nat) (n i : Int) (r : RecD) (P : List (List Nat)) : verB R n i r P = verR R n i r P := by
  unfold verB verR
  by_cases c : recB r = true ∧ n ≤ 1048576 ∧ 0 ≤ i ∧ i < n
  · rw [if_pos c, if_pos c]
    have e := vr_clO n.toNat P i.toNat (leafD r) (by omega) (by omega) (by omega)
    rw [clG_clO, show n.toNat - 1 = (n - 1).toNat by omega, leaf_same] at e
    rw [leaf_same]
    unfold vrO at e
    revert e
    generalize clG P.reverse n.toNat i.toNat (leafR r) = q
    cases vr P i.toNat (n - 1).toNat (leafR r) with
    | none =>
      intro e
      by_cases c : q.2 = true
      · rw [if_pos c] at e; cases e
      · rw [Bool.not_eq_true] at c
        rw [c]; rfl
    | some w =>
      obtain ⟨b, D⟩ := w
      intro e
      simp only at e ⊢
      by_cases c : q.2 = true
      · rw [if_pos c] at e
        by_cases c2 : b = 0
        · rw [if_pos c2] at e
          rw [c, decide_eq_true c2, Option.some.inj e]
        · rw [if_neg c2] at e; cases e
      · rw [if_neg c] at e
        rw [Bool.not_eq_true] at c
        by_cases c2 : b = 0
        · rw [if_pos c2] at e; cases e
        · rw [c, decide_eq_false c2]; rfl
  · rw [if_neg c, if_neg c]
end Go.Proofs.YtdnahgfgoajmcaaDoor

namespace Go.Proofs.YtdnahgfgoajmcaaDoor
open Go Go.Abs
attribute [local congr] thenV_congr
theorem is32 : IsFn Tryd.prog 32 Tryd.f32 := ⟨by kernel_rfl, by kernel_rfl, by kernel_rfl, by kernel_rfl⟩
set_option maxRecDepth 100000 in
/-- Verify, of the document -/
theorem r32 {h : Heap} (hG : 4 ≤ h.n0) (hr : GR h) (hz : GZ h) {R : List Nat} (wR : D32 R) {n i : Int} {r : RecD} (w : r.Wf) {v : Value} {P : List (List Nat)} (hP : PR h v P) (hg : gS v) (hl : P.length ≤ 1000000) :
    ∃ h', CW 32 [.agg (u8s R).toArray, .int .i64 n, .int .i64 i, .agg (recC r).toArray, v] h = some (.bool (verR R n i r P), h') ∧ Old h h' := by
  have cR := dig_cells wR
  have b1 := box_at h _ cR.2.2
  have o1 : Old h (h.alloc (u8s R)) := Kept.alloc _ _ _
  have g1 : (h.alloc (u8s R)).get h.next = some (u8s R) := by rw [Heap.get_alloc, if_pos rfl]
  have n1 : (h.alloc (u8s R)).next = h.next + 1 := Heap.next_alloc ..
  generalize h.alloc (u8s R) = h1 at *
  obtain ⟨h2, b2, o2, g2, n2⟩ := rec_box2 h1 w
  have O2 := o1.trans o2
  have L2 := ldN_all g2 (rec_cells w).1 (rec_cells w).2.1
  obtain ⟨h3, e3, o3⟩ := r48 (h := h2) (by rw [O2.n0]; exact hG) (hz.old O2) w
  have O3 := O2.trans o3
  have gt : bin Tryd.prog .gtr 3 (.int .i64 n) (.int .i64 1048576) = some (.bool (decide (n > 1048576))) := bin_gtr ..
  have lt0 : bin Tryd.prog .lss 3 (.int .i64 i) (.int .i64 0) = some (.bool (decide (i < 0))) := bin_lss ..
  have ge : bin Tryd.prog .geq 3 (.int .i64 i) (.int .i64 n) = some (.bool (decide (i ≥ n))) := bin_geq ..
  by_cases hc : recB r = true ∧ n ≤ 1048576 ∧ 0 ≤ i ∧ i < n
  · obtain ⟨va, c1, c2, c3⟩ := hc
    obtain ⟨iN, rfl⟩ : ∃ k : Nat, i = k := ⟨i.toNat, (Int.toNat_of_nonneg c2).symm⟩
    obtain ⟨nN, rfl⟩ : ∃ k : Nat, n = k := ⟨n.toNat, (Int.toNat_of_nonneg (by omega)).symm⟩
    have hv : verR R nN iN r P = ((clG P.reverse nN iN (leafR r)).2 && decide ((clG P.reverse nN iN (leafR r)).1 = R)) := by
      unfold verR
      rw [if_pos ⟨va, c1, c2, c3⟩, Int.toNat_natCast, Int.toNat_natCast]
    rw [va] at e3
    rw [decide_eq_false (by omega)] at gt lt0 ge
    have L3 := ldN_all (o3.get g2) (rec_cells w).1 (rec_cells w).2.1
    obtain ⟨h4, e4, o4⟩ := r72 (h := h3) (by rw [O3.n0]; exact hG) (hr.old O3) (hz.old O3) w va
    have O4 := O3.trans o4
    have wl : D32 (leafR r) := by rw [← leaf_same]; exact leafD_ok r
    obtain ⟨h5, e5, o5⟩ := r71 P.reverse (h := h4) (by rw [O4.n0]; exact hG) (hr.old O4) (n := nN) (i := iN) wl (by omega) (by omega) (by omega) (v := v) (by rw [List.reverse_reverse]; exact hP.mono O4) hg (by rw [List.length_reverse]; exact hl)
    have O5 := O4.trans o5
    have dx := clG_ok P.reverse nN iN wl
    rw [hv]
    generalize (clG P.reverse nN iN (leafR r)).1 = x at *
    generalize (clG P.reverse nN iN (leafR r)).2 = ok at *
    have cx := dig_cells dx
    obtain ⟨h6, z6, o6, g6, n6⟩ := fresh (List.replicate 32 (.int .u8 0)) h5
    obtain ⟨h7, e7, k7, g7, _, n7⟩ := stored_all (n := 32) (k' := u8s x) g6 (by rw [o6.n0]; exact h5.n0_le_next) rfl cx.1 cx.2.2
    have o7 : Old h5 h7 := Old.of_new o6 k7 (Nat.le_refl _)
    have Lx := ldN_all g7 cx.1 cx.2.1
    have LR := ldN_all (Old.get ((((o2.trans o3).trans o4).trans o5).trans o7) g1) cR.1 cR.2.1
    have eD := eqD35 dx wR
    refine ⟨h7, CW_body is32 hG rfl ((t32_eq _ _ _ _ _ _ _).trans ?_), O5.trans o7⟩
    unfold t32
    cases ok with
    | true => simp -implicitDefEqProofs only [b1, b2, L2, e3, gt, lt0, ge, L3, e4, i64n, e5, ext0, ext1, z6, e7, Lx, LR, eD, unA_not, Bool.not_true, thenV_some, pu_some, bOf_bool, fs, sf, beq_self_eq_true, guardK_true, guardK_false, Bool.false_eq_true, if_false, if_true, Bool.true_and]
    | false => simp -implicitDefEqProofs only [b1, b2, L2, e3, gt, lt0, ge, L3, e4, i64n, e5, ext0, ext1, z6, e7, Lx, LR, eD, unA_not, Bool.not_true, thenV_some, pu_some, bOf_bool, fs, sf, beq_self_eq_true, guardK_true, guardK_false, Bool.false_eq_true, if_false, if_true, Bool.false_and]
  · have hv : verR R n i r P = false := by unfold verR; rw [if_neg hc]
    rw [hv]
    refine ⟨h3, CW_body is32 hG rfl ((t32_eq _ _ _ _ _ _ _).trans ?_), O3⟩
    unfold t32
    cases va : recB r with
    | false =>
      rw [va] at e3
      simp -implicitDefEqProofs only [b1, b2, L2, e3, unA_not, Bool.not_false, thenV_some, pu_some, bOf_bool, fs, sf, beq_self_eq_true, guardK_true, guardK_false, Bool.false_eq_true, if_false, if_true, show (some true == some false) = false from rfl]
    | true =>
      rw [va] at e3
      by_cases c1 : n > 1048576
      · simp -implicitDefEqProofs only [b1, b2, L2, e3, gt, decide_eq_true c1, unA_not, Bool.not_true, thenV_some, pu_some, bOf_bool, fs, sf, beq_self_eq_true, guardK_true, guardK_false, Bool.false_eq_true, if_false, if_true, show (some true == some false) = false from rfl]
      · by_cases c2 : i < 0
        · simp -implicitDefEqProofs only [b1, b2, L2, e3, gt, lt0, decide_eq_false c1, decide_eq_true c2, unA_not, Bool.not_true, thenV_some, pu_some, bOf_bool, fs, sf, beq_self_eq_true, guardK_true, guardK_false, Bool.false_eq_true, if_false, if_true, show (some true == some false) = false from rfl]
        · have c3 : i ≥ n := by
            apply Int.not_lt.1
            intro q
            exact hc ⟨va, by omega, by omega, q⟩
          simp -implicitDefEqProofs only [b1, b2, L2, e3, gt, lt0, ge, decide_eq_false c1, decide_eq_false c2, decide_eq_true c3, unA_not, Bool.not_true, thenV_some, pu_some, bOf_bool, fs, sf, beq_self_eq_true, guardK_true, guardK_false, Bool.false_eq_true, if_false, if_true, show (some true == some false) = false from rfl]
/-- The cells of a list of digests. -/
def digsC (P : List (List Nat)) : List Value := P.flatMap u8s
theorem digsC_len : ∀ {P : List (List Nat)}, (∀ p ∈ P, D32 p) → (digsC P).length = P.length * 32
  | [], _ => rfl
  | p :: P, h => by
    have ih := digsC_len (P := P) fun q hq => h q (List.mem_cons_of_mem _ hq)
    have hp := (dig_cells (h p List.mem_cons_self)).1
    unfold digsC at ih ⊢
    rw [List.flatMap_cons, List.length_append, ih, hp, List.length_cons]
    omega
theorem digsC_get : ∀ {P : List (List Nat)}, (∀ p ∈ P, D32 p) → ∀ {j : Nat}, j < P.length → ((digsC P).drop (j * 32)).take 32 = u8s (P.getD j [])
  | [], _, j, hj => absurd hj (Nat.not_lt_zero j)
  | p :: P, h, j, hj => by
    have hp := (dig_cells (h p List.mem_cons_self)).1
    cases j with
    | zero =>
      unfold digsC
      rw [List.flatMap_cons, Nat.zero_mul, List.drop_zero, ← hp, List.take_left]
      rfl
    | succ j =>
      have ih := digsC_get (P := P) (fun q hq => h q (List.mem_cons_of_mem _ hq)) (j := j) (by rw [List.length_cons] at hj; omega)
      unfold digsC at ih ⊢
      rw [List.flatMap_cons, show (j + 1) * 32 = 32 + j * 32 by omega, ← List.drop_drop, List.drop_left' hp, List.getD_cons_succ, ih]
theorem digsC_ok : ∀ {P : List (List Nat)}, (∀ p ∈ P, D32 p) → Abs.noHoles (digsC P) = true ∧ oneCells (digsC P) = true
  | [], _ => ⟨rfl, rfl⟩
  | p :: P, h => by
    have ih := digsC_ok (P := P) fun q hq => h q (List.mem_cons_of_mem _ hq)
    have hp := dig_cells (h p List.mem_cons_self)
    unfold digsC at ih ⊢
    unfold Abs.noHoles oneCells at *
    rw [List.flatMap_cons, List.all_append, List.all_append, ih.1, ih.2, hp.2.1, hp.2.2]
    exact ⟨rfl, rfl⟩
/-- A slice of digests, its cells in one block. -/
def DgS (h : Heap) (v : Value) (P : List (List Nat)) : Prop := (∀ p ∈ P, D32 p) ∧ SlN h digK v P.length (digsC P)
theorem DgS.pr {h : Heap} {v : Value} {P : List (List Nat)} (x : DgS h v P) : PR h v P := by
  obtain ⟨hd, a, c, rfl, _, _, h0⟩ := x
  refine ⟨⟨_, _, rfl⟩, hd, fun j hj => ?_⟩
  obtain ⟨b, off, s, k, rfl, hk, hlen, hcs⟩ := h0 (by omega)
  rw [show digK.length = 32 from rfl] at hlen hcs
  have hm := mul_le (z := 32) hj
  have e : (k.drop (off + j * 32)).take 32 = u8s (P.getD j []) := by
    rw [← digsC_get hd hj, ← hcs]
    rw [List.drop_take, List.take_take, List.drop_drop, Nat.min_eq_left (by omega)]
  refine ⟨b, off + j * 32, ?_, h.lt_of_get hk, fun g hg => ?_⟩
  · unfold idxS i64n
    simp only
    rw [if_pos (by omega), Int.toNat_natCast]
  · have dp : D32 (P.getD j []) := hd _ (by
      rw [List.getD_eq_getElem?_getD, List.getElem?_eq_getElem hj]
      exact List.getElem_mem hj)
    have := ldN_at (o := off + j * 32) (n := 32) (hg.trans hk) (by omega) (by rw [e]; exact (dig_cells dp).2.1)
    rw [e] at this
    exact this
theorem DgS.mono {h h' : Heap} {v : Value} {P : List (List Nat)} (x : DgS h v P) (o : Old h h') : DgS h' v P := by
  obtain ⟨hd, a, c, rfl, hn, ht, h0⟩ := x
  refine ⟨hd, a, c, rfl, hn, ht, fun hp => ?_⟩
  obtain ⟨b, off, s, k, rfl, hk, hlen, hcs⟩ := h0 hp
  exact ⟨b, off, s, k, rfl, Old.get o hk, hlen, hcs⟩
/-- append([]Digest{}, P...): a copy. -/
theorem app_digs {g : Heap} {v : Value} {P : List (List Nat)} (x : DgS g v P) (hl : P.length ≤ 1000000) :
    ∃ v' g', appendA 32 32 (.slice (some ⟨g.next, 0, none⟩) 0 0) v (g.alloc []) = some (v', g') ∧ Old g g' ∧ PR g' v' P ∧ gS v' := by
  have o1 : Old g (g.alloc []) := Kept.alloc _ _ _
  obtain ⟨hd, a, c, rfl, hn, ht, h0⟩ := x
  by_cases hz : P.length = 0
  · have hP : P = [] := List.length_eq_zero_iff.1 hz
    subst hP
    refine ⟨.slice (some ⟨g.next, 0, none⟩) 0 0, g.alloc [], ?_, o1, ⟨⟨_, _, rfl⟩, hd, fun j hj => absurd hj (Nat.not_lt_zero j)⟩, ⟨_, _, _, rfl, Nat.le_refl _, fun h => absurd h (Nat.lt_irrefl 0)⟩⟩
    cases a with
    | none => rfl
    | some a => obtain ⟨b, off, s⟩ := a; rfl
  · obtain ⟨b, off, s, k, rfl, hk, hlen, hcs⟩ := h0 (by omega)
    rw [show digK.length = 32 from rfl] at hlen hcs
    have hl' := digsC_len hd
    have hk1 : (g.alloc []).get b = some k := Old.get o1 hk
    have hf : firstA 32 P.length (.slice (some ⟨b, off, s⟩) P.length c) (g.alloc []) = some (digsC P) := by
      unfold firstA
      simp only
      rw [if_neg (by omega), hk1]
      simp only
      rw [hcs, if_pos ⟨hlen, (digsC_ok hd).1⟩]
    have o2 : Old (g.alloc []) ((g.alloc []).alloc (digsC P)) := Kept.alloc _ _ _
    have D2 : DgS ((g.alloc []).alloc (digsC P)) (.slice (some ⟨(g.alloc []).next, 0, some 32⟩) P.length P.length) P := by
      refine ⟨hd, _, _, rfl, fun h => (by cases h), ht, fun _ => ⟨_, _, _, digsC P, rfl, by rw [Heap.get_alloc, if_pos rfl], ?_, ?_⟩⟩
      · rw [show digK.length = 32 from rfl, hl', Nat.zero_add]
        exact Nat.le_refl _
      · rw [show digK.length = 32 from rfl, List.drop_zero, ← hl', List.take_length]
    refine ⟨.slice (some ⟨(g.alloc []).next, 0, some 32⟩) P.length P.length, (g.alloc []).alloc (digsC P), ?_, o1.trans o2, D2.pr, ⟨_, _, _, rfl, Nat.le_refl _, fun _ b o s e => by cases e; rfl⟩⟩
    have hf0 : firstA 32 0 (.slice (some ⟨g.next, 0, none⟩) 0 0) (g.alloc []) = some [] := rfl
    unfold appendA
    simp only [lenA, hf, hf0]
    rw [if_neg (by
      simp only [(digsC_ok hd).2, hl', Bool.not_true, Bool.false_or, Bool.or_eq_true, Bool.not_eq_true', decide_eq_false_iff_not, decide_eq_true_eq, Nat.zero_add]
      omega), if_neg (by omega)]
    simp only [List.nil_append, Nat.zero_add, List.length_nil, Nat.zero_mul]
    rw [if_neg (by simp)]
/-- The cells of a proof's argument. -/
def prfC (R : List Nat) (n i : Int) (r : RecD) (v : Value) : List Value := u8s R ++ (([.int .i64 n, .int .i64 i] ++ recC r) ++ [v])
theorem chk_sl (g : Heap) (a : Option Addr) (n c : Nat) : chkR true (some (.slice a n c, g)) (.slice a n c) = true := by
  show (!true || veq (.slice a n c) (.slice a n c)) = true
  simp [veq]
theorem eql_b (b : Bool) : bin Tryd.prog .eql 4 (.bool b) (.bool b) = some (.bool true) := by cases b <;> kernel_rfl
theorem is6 : IsFn Tryd.prog 6 Tryd.f6 := ⟨by kernel_rfl, by kernel_rfl, by kernel_rfl, by kernel_rfl⟩
set_option maxRecDepth 100000 in
/-- The law. -/
theorem r6 {h : Heap} (hG : 4 ≤ h.n0) (hz : h.get 3 = some roundsL) (hr : GR h) (hg0 : GZ h) {R : List Nat} (wR : D32 R) {n i : Int} (hn : I64 n) (hi : I64 i) {r : RecD} (w : r.Wf) {v : Value} {P : List (List Nat)} (hP : DgS h v P) (hg : gS v) (hh : isHole v = false) (h1c : Value.oneCell' v = true) :
    ∃ h', CW 6 [.agg (prfC R n i r v).toArray] h = some (.bool true, h') := by
  have cR := dig_cells wR
  have cr := rec_cells w
  have oc : oneCells (prfC R n i r v) = true := by
    unfold prfC oneCells at *
    simp only [List.all_append, List.all_cons, List.all_nil, cR.2.2, cr.2.2, h1c, Bool.and_true, Bool.true_and]
    rfl
  have b1 := box_at h _ oc
  have o1 : Old h (h.alloc (prfC R n i r v)) := Kept.alloc _ _ _
  have g1 : (h.alloc (prfC R n i r v)).get h.next = some (prfC R n i r v) := by rw [Heap.get_alloc, if_pos rfl]
  generalize h.alloc (prfC R n i r v) = h1 at *
  have l73 : (prfC R n i r v)[73]? = some v := by
    unfold prfC
    rw [List.getElem?_append_right (by omega), List.getElem?_append_right (by rw [List.length_append, cr.1, cR.1]; exact Nat.le_refl _), List.length_append, cr.1, cR.1]
    rfl
  have l32 : (prfC R n i r v)[32]? = some (.int .i64 n) := by
    unfold prfC
    rw [List.getElem?_append_right (by omega), cR.1]
    rfl
  have l33 : (prfC R n i r v)[33]? = some (.int .i64 i) := by
    unfold prfC
    rw [List.getElem?_append_right (by omega), cR.1]
    rfl
  have LV : ∀ g, Old h1 g → ld1 (ptr h.next 73) g = some (v, g) := fun g o => ld1_at (Old.get o g1) l73 hh
  have L32 : ∀ g, Old h1 g → ld1 (ptr h.next 32) g = some (.int .i64 n, g) := fun g o => ld1_at (Old.get o g1) l32
  have L33 : ∀ g, Old h1 g → ld1 (ptr h.next 33) g = some (.int .i64 i, g) := fun g o => ld1_at (Old.get o g1) l33
  have L0 : ∀ g, Old h1 g → ldN 32 (ptr h.next 0) g = some (.agg (u8s R).toArray, g) := fun g o => ldN_mid (Old.get o g1) (A := []) (B := u8s R) (C := ([.int .i64 n, .int .i64 i] ++ recC r) ++ [v]) rfl rfl cR.1 cR.2.1
  have L34 : ∀ g, Old h1 g → ldN 39 (ptr h.next 34) g = some (.agg (recC r).toArray, g) := fun g o => ldN_mid (Old.get o g1) (A := u8s R ++ [.int .i64 n, .int .i64 i]) (B := recC r) (C := [v]) (by unfold prfC; simp only [List.append_assoc]) (by rw [List.length_append, cR.1]; rfl) cr.1 cr.2.1
  have hll := PR.len hP.pr
  have R1 : Old h1 h1 := Kept.refl _ _
  by_cases hl : P.length ≤ 100
  · have q0 : bin Tryd.prog .gtr 3 (i64n P.length) (.int .i64 100) = some (.bool false) := by unfold i64n; rw [bin_gtr, decide_eq_false (by omega)]
    have b0 : bslR 32 (.agg (List.replicate 32 (.int .u8 0)).toArray) 0 [] h1 = some (.slice (some ⟨h1.next, 0, none⟩) 0 0, h1.alloc []) := rfl
    obtain ⟨v2, h2, e2, o2, P2, G2⟩ := app_digs (hP.mono o1) (by omega)
    have O2 := o1.trans o2
    obtain ⟨h3, e3, o3⟩ := r31 (h := h2) (by rw [O2.n0]; exact hG) (Old.get O2 hz) wR hn hi w P2 (by omega)
    have O3 := O2.trans o3
    obtain ⟨h4, e4, o4⟩ := r32 (h := h3) (by rw [O3.n0]; exact hG) (hr.old O3) (hg0.old O3) wR (n := n) (i := i) w (hP.pr.mono O3) hg (by omega)
    have O4 := O3.trans o4
    have es := eql_b (verR R n i r P)
    rw [ver_same] at e3
    have kn := r14 (Old.get O4 hz)
    have M2 := o2
    have M3 := o2.trans o3
    have chkA : ∀ (r : RecD) (g : Heap), r.Wf → chkR true (some (.agg (recC r).toArray, g)) (.agg (recC r).toArray) = true := fun r g w => chk_agg _ _ (rec_typed w).kinds
    have chkD : ∀ g, chkR true (some (.agg (u8s R).toArray, g)) (.agg (u8s R).toArray) = true := fun g => chk_agg _ _ (dig_typed wR).kinds
    obtain ⟨pa, pc, hvv⟩ := hP.pr.1
    have cv : ∀ g, chkR true (some (v, g)) v = true := fun g => by rw [hvv]; exact chk_sl ..
    refine ⟨h4, CW_body is6 hG rfl ((t6_eq _ _ _).trans ?_)⟩
    unfold t6
    simp -implicitDefEqProofs only [b1, addP_ptr, Nat.zero_add, LV h1 R1, hll, q0, L0 h1 R1, L32 h1 R1, L33 h1 R1, L34 h1 R1, b0, e2, e3, e4, es, kn, L0 h2 M2, L32 h2 M2, L33 h2 M2, L34 h2 M2, LV h2 M2, L0 h3 M3, L32 h3 M3, L33 h3 M3, L34 h3 M3, LV h3 M3, chkA r _ w, chkD, cv, chkI, thenV_some, pu_some, bOf_bool, fs, sf, beq_self_eq_true, guardK_true, guardK_false, Bool.false_eq_true, if_false, if_true, Bool.and_true, Bool.true_and, Bool.and_self]
  · have q0 : bin Tryd.prog .gtr 3 (i64n P.length) (.int .i64 100) = some (.bool true) := by unfold i64n; rw [bin_gtr, decide_eq_true (by omega)]
    have k14 := r14 (Old.get o1 hz)
    refine ⟨h1, CW_body is6 hG rfl ((t6_eq _ _ _).trans ?_)⟩
    unfold t6
    simp -implicitDefEqProofs only [b1, addP_ptr, Nat.zero_add, LV h1 R1, hll, q0, k14, thenV_some, pu_some]
end Go.Proofs.YtdnahgfgoajmcaaDoor

namespace Go.Proofs.YtdnahgfgoajmcaaDoor
open Go Go.Abs
open Go.ChangeShapes Go.WideShapes Go.ChangeAt Go.RowKit
section
variable {H : Type} {enc : TypeId × Value → H} {W : World} {base : Nat} {held : Bool}
/-- A slice that can be read as data: its room, and no hidden room. -/
theorem gs_of {t e : TypeId} {z : Nat} (ht : Tryd.prog.underlying t = some (.slice e)) (he : Tryd.prog.cellsOf e = z) (hz : 0 < z) {fuel : Nat} {v : Value} {x : DataW H × List MemPlace} (h : DataW.trod enc Tryd.prog W base (fun _ => true) held fuel t [v] = some x) :
    ∃ a n c, clean W.heap.size v = .slice a n c ∧ n ≤ c ∧ (0 < n → ∀ b o s, a = some ⟨b, o, some s⟩ → False) := by
  rcases DataW.trod_slice ht h with ⟨h1, _⟩ | ⟨a, len, cap, elems, rest, n, _, h1, _, _, hlc, hcm, hl, hel, hsp, _⟩
  · cases h1
    exact ⟨none, 0, 0, rfl, Nat.le_refl _, fun h => absurd h (Nat.lt_irrefl 0)⟩
  · cases h1
    rw [he] at hel hsp
    have hpos : 0 < cap → a.spot = none ∧ a.block < W.heap.size := by
      intro h0
      have key : ∃ cs, W.cells? base (a.add (0 * z)) z = some cs := by
        by_cases hlen : 0 < len
        · have := hel 0 hlen
          rw [List.getElem?_eq_getElem (by omega), Option.bind_eq_some_iff] at this
          obtain ⟨cs, hc, _⟩ := this
          exact ⟨cs, hc⟩
        · have := (hsp rfl).2 0 (by omega)
          rw [List.getElem?_eq_getElem (by rw [(hsp rfl).1]; omega), Option.bind_eq_some_iff] at this
          obtain ⟨cs, hc, _⟩ := this
          obtain rfl : len = 0 := by omega
          exact ⟨cs, hc⟩
      obtain ⟨cs, hc⟩ := key
      obtain ⟨_, hlen, hcell⟩ := World.cells?_some hc
      have g := hcell 0 hz
      obtain ⟨c0, hc0⟩ : ∃ c0, cs[0]? = some c0 := ⟨cs[0], List.getElem?_eq_getElem (by omega)⟩
      rw [hc0, Nat.zero_mul] at g
      have g : W.cell? a = some c0 := g
      obtain ⟨e1, e2, _⟩ := view_cell g
      exact ⟨e1, e2⟩
    obtain ⟨g1, a', g2, g3⟩ := clean_slice (W := W) hlc hpos
    refine ⟨_, _, _, g2, hlc, fun h0 b o s e => ?_⟩
    have := g3 (by omega)
    subst this
    have hs := (hpos (by omega)).1
    rw [Option.some.inj e] at hs
    cases hs
theorem sl36 {fuel : Nat} {v : Value} {x : DataW H × List MemPlace} (h : DataW.trod enc Tryd.prog W base (fun _ => true) held fuel 36 [v] = some x) :
    isHole (clean W.heap.size v) = false ∧ Value.oneCell' (clean W.heap.size v) = true ∧ gS (clean W.heap.size v) ∧ ∃ P, DgS (topHeap W (view W)) (clean W.heap.size v) P := by
  obtain ⟨h1, n, cs, S⟩ := sl_of Tryd.underlying36 (ks := digK) (by kernel_rfl) (by decide) rd35 h
  obtain ⟨a, m, c, e, h2, h3⟩ := gs_of Tryd.underlying36 (z := 32) (by kernel_rfl) (by decide) h
  obtain ⟨P, hP, hcs, hd⟩ := list_of (f := u8s) (P := D32) (fun xs hx => dig_of hx) n cs S.typed
  subst hP
  subst hcs
  refine ⟨h1, by rw [e]; rfl, ⟨a, m, c, e, h2, fun h0 b o s q => (h3 h0 b o s q).elim⟩, P, hd, S⟩
theorem prfC_nh {R : List Nat} {n i : Int} {r : RecD} {v : Value} (wR : D32 R) (w : r.Wf) (hh : isHole v = false) : Abs.noHoles (prfC R n i r v) = true := by
  have cR := dig_cells wR
  have cr := rec_cells w
  unfold prfC Abs.noHoles at *
  simp only [List.all_append, List.all_cons, List.all_nil, cR.2.1, cr.2.1, hh, Bool.and_true, Bool.true_and]
  rfl
theorem cut_at (l : List Value) (a n : Nat) : l.drop a = (l.drop a).take n ++ l.drop (a + n) := by
  rw [← List.drop_drop, List.take_append_drop]
theorem trod_prf {fuel : Nat} {cs : List Value} {x : DataW H × List MemPlace} (h : DataW.trod enc Tryd.prog W base (fun _ => true) held fuel 66 cs = some x) :
    ∃ R n i r v P, cs.map (clean W.heap.size) = prfC R n i r v ∧ D32 R ∧ I64 n ∧ I64 i ∧ r.Wf ∧ DgS (topHeap W (view W)) v P ∧ gS v ∧ isHole v = false ∧ Value.oneCell' v = true := by
  obtain ⟨_, _, _, _, hl, _⟩ := DataW.trod_struct Tryd.underlying66 h
  have hl : cs.length = 74 := hl.trans (by kernel_rfl)
  obtain ⟨_, _, q0⟩ := fld Tryd.underlying66 h (i := 0) (z := 32) rfl (by kernel_rfl)
  obtain ⟨_, _, q1⟩ := fld Tryd.underlying66 h (i := 1) (z := 1) rfl (by kernel_rfl)
  obtain ⟨_, _, q2⟩ := fld Tryd.underlying66 h (i := 2) (z := 1) rfl (by kernel_rfl)
  obtain ⟨_, _, q3⟩ := fld Tryd.underlying66 h (i := 3) (z := 39) rfl (by kernel_rfl)
  obtain ⟨_, _, q4⟩ := fld Tryd.underlying66 h (i := 4) (z := 1) rfl (by kernel_rfl)
  have t0 := rd35 _ _ _ q0
  obtain ⟨R, e0, d0⟩ := dig_of t0
  obtain ⟨n, e1, _, w1⟩ := DataW.trod_int Tryd.underlying3 q1
  obtain ⟨i, e2, _, w2⟩ := DataW.trod_int Tryd.underlying3 q2
  have t3 := rd58 _ _ _ q3
  obtain ⟨r, e3, w3⟩ := rec_of t3
  have l4 : ((cs.drop 73).take 1).length = 1 := by rw [List.length_take, List.length_drop, hl]; rfl
  obtain ⟨v, e4⟩ := List.length_eq_one_iff.1 l4
  have e4' : List.take 1 (List.drop 73 cs) = [v] := e4
  obtain ⟨g1, g2, g3, P, g4⟩ := sl36 (v := v) (by rw [← e4']; exact q4)
  refine ⟨R, n, i, r, clean W.heap.size v, P, ?_, d0, wf_i64.1 w1, wf_i64.1 w2, w3, g4, g3, g1, g2⟩
  have ec : cs = (cs.drop 0).take 32 ++ ((cs.drop 32).take 1 ++ ((cs.drop 33).take 1 ++ ((cs.drop 34).take 39 ++ (cs.drop 73).take 1))) := by
    conv => lhs; rw [← List.drop_zero (l := cs), cut_at cs 0 32, cut_at cs (0 + 32) 1, cut_at cs (0 + 32 + 1) 1, cut_at cs (0 + 32 + 1 + 1) 39, cut_at cs (0 + 32 + 1 + 1 + 39) 1, List.drop_eq_nil_of_le (show cs.length ≤ 0 + 32 + 1 + 1 + 39 + 1 by omega), List.append_nil]
  have e0 : (cs.drop 0).take 32 = u8s R := e0
  have e1 : (cs.drop 32).take 1 = [.int .i64 n] := e1
  have e2 : (cs.drop 33).take 1 = [.int .i64 i] := e2
  have e3 : (cs.drop 34).take 39 = recC r := e3
  rw [e0, e1, e2, e3, e4] at ec
  rw [ec, List.map_append, List.map_append, List.map_append, List.map_append, (dig_typed d0).clean, (rec_typed w3).clean]
  rfl
end
end Go.Proofs.YtdnahgfgoajmcaaDoor

