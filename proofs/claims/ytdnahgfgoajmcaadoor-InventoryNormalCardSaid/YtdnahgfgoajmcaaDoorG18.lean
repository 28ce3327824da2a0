/-
  The inventory: New, Records, Clone, Same, rightRecords.
  Conditions: as each theorem states.
  The inventory, the plain law: what a merge leaves is told by what was merged, whatever the order.
  Conditions: as each theorem states.
  The inventory: an inventory in the heap, and its merges.
  Conditions: as each theorem states.
  The inventory: load, own; parts of a list of one's own.
  Conditions: as each theorem states.
  InventoryUnion: the steps of its loops; the plain law.
  Conditions: as each theorem states.
  The inventory: each, and what is searched with it: Buried, Base.
  Conditions: as each theorem states.
  InventoryNormal: the order of keys as strings; the plain law.
  Conditions: as each theorem states.
  The inventory: records of a list, read in parts; words for walks.
  Conditions: as each theorem states.
-/
import Derived.Test.YtdnahgfgoajmcaaDoorG17
namespace Go.Proofs.YtdnahgfgoajmcaaDoor
open Go Go.Abs
attribute [local congr] thenV_congr
theorem is33 : IsFn Tryd.prog 33 Tryd.f33 := ⟨by kernel_rfl, by kernel_rfl, by kernel_rfl, by kernel_rfl⟩
theorem is57 : IsFn Tryd.prog 57 Tryd.f57 := ⟨by kernel_rfl, by kernel_rfl, by kernel_rfl, by kernel_rfl⟩
theorem is23 : IsFn Tryd.prog 23 Tryd.f23 := ⟨by kernel_rfl, by kernel_rfl, by kernel_rfl, by kernel_rfl⟩
theorem is19 : IsFn Tryd.prog 19 Tryd.f19 := ⟨by kernel_rfl, by kernel_rfl, by kernel_rfl, by kernel_rfl⟩
theorem is24 : IsFn Tryd.prog 24 Tryd.f24 := ⟨by kernel_rfl, by kernel_rfl, by kernel_rfl, by kernel_rfl⟩
/-- New -/
theorem r33 {h : Heap} (hG : 4 ≤ h.n0) : CW 33 [] h = some (ptr h.next 0, h.alloc [.slice none 0 0]) := by
  have e1 : bldR [(.slice none 0 0)] [] = some (.agg #[.slice none 0 0]) := rfl
  have e2 : box (.agg #[.slice none 0 0]) h = some (ptr h.next 0, h.alloc [.slice none 0 0]) := rfl
  refine CW_body is33 hG rfl ((t33_eq _ _).trans ?_)
  unfold t33
  simp -implicitDefEqProofs only [e1, e2, thenV_some, pu_some]
theorem nilS22 (c : Nat) (a : Addr) (n : Nat) : bin Tryd.prog .eql 22 (.slice (some a) n c) (.slice none 0 0) = some (.bool false) := by kernel_rfl
theorem nilT22 : bin Tryd.prog .eql 22 (.slice none 0 0) (.slice none 0 0) = some (.bool true) := by kernel_rfl
/-- What is nil, or leads somewhere. -/
def nilOk (v : Value) : Prop := v = .slice none 0 0 ∨ ∃ a n c, v = .slice (some a) n c
/-- Clone -/
theorem r57 {h : Heap} (hG : 4 ≤ h.n0) {v : Value} {L : List RecD} (x : RcS h v L) (hn : nilOk v) (hl : L.length ≤ 1000000) : ∃ v' h', CW 57 [v] h = some (v', h') ∧ Old h h' ∧ RSl h' v' L := by
  rcases hn with rfl | ⟨a, n, c, rfl⟩
  · refine ⟨.slice none 0 0, h, CW_body is57 hG rfl ((t57_eq _ _ _).trans ?_), Kept.refl _ _, x.rsl⟩
    unfold t57
    simp -implicitDefEqProofs only [nilT22, thenV_some, pu_some]
  · obtain ⟨v', h', e, o, r, g⟩ := app_recs x hl
    have b0 : bslR 39 (.agg #[(.int .u8 0), (.int .u8 0), (.int .u8 0), (.int .u8 0), (.int .u8 0), (.int .u8 0), (.int .u8 0), (.int .u8 0), (.int .u8 0), (.int .u8 0), (.int .u8 0), (.int .u8 0), (.int .u8 0), (.int .u8 0), (.int .u8 0), (.int .u8 0), (.int .u8 0), (.int .u8 0), (.int .u8 0), (.int .u8 0), (.int .u8 0), (.int .u8 0), (.int .u8 0), (.int .u8 0), (.int .u8 0), (.int .u8 0), (.int .u8 0), (.int .u8 0), (.int .u8 0), (.int .u8 0), (.int .u8 0), (.int .u8 0), (.int .u8 0), (.int .i64 0), (.int .u64 0), (.int .u64 0), (.bool false), (.int .i64 0), (.int .i64 0)]) 0 [] h = some (.slice (some ⟨h.next, 0, none⟩) 0 0, h.alloc []) := rfl
    refine ⟨v', h', CW_body is57 hG rfl ((t57_eq _ _ _).trans ?_), o, r⟩
    unfold t57
    simp -implicitDefEqProofs only [nilS22, b0, e, thenV_some, pu_some]
/-- Records -/
theorem r23 {h : Heap} (hG : 4 ≤ h.n0) {vb : Nat} {va : Value} {L : List RecD} (gv : h.get vb = some [va]) (x : RcS h va L) (hn : nilOk va) (hl : L.length ≤ 1000000) : ∃ v' h', CW 23 [ptr vb 0] h = some (v', h') ∧ Old h h' ∧ RSl h' v' L := by
  obtain ⟨v', h', e, o, r⟩ := r57 hG x hn hl
  have l1 : ld1 (ptr vb 0) h = some (va, h) := ld1_at gv rfl (by rcases hn with rfl | ⟨a, n, c, rfl⟩ <;> rfl)
  have nc : nilCheckA (ptr vb 0) = some (ptr vb 0) := rfl
  refine ⟨v', h', CW_body is23 hG rfl ((t23_eq _ _ _).trans ?_), o, r⟩
  unfold t23
  simp -implicitDefEqProofs only [nil25, nc, addP_ptr, Nat.zero_add, l1, e, thenV_some, pu_some]
theorem nq58 {a b : RecD} (wa : a.Wf) (wb : b.Wf) : bin Tryd.prog .neq 58 (recV a) (recV b) = some (.bool (!(decide (a = b)))) := by
  obtain ⟨r, h1, _, h3⟩ := eq58 _ _ (rec_typed wa) (rec_typed wb)
  have : r = decide (a = b) := by
    by_cases e : a = b
    · rw [decide_eq_true e, h1.2 (by rw [e])]
    · rw [decide_eq_false e]
      cases r with
      | false => rfl
      | true => exact absurd (recC_inj wa.obj.1 wb.obj.1 (h1.1 rfl)) e
  rw [h3, this]
theorem nq3 (a b : Nat) : bin Tryd.prog .neq 3 (i64n a) (i64n b) = some (.bool (!(decide (a = b)))) := by
  rw [bin_neq]
  congr 2
  by_cases e : a = b
  · subst e; simp
  · have : (a : Int) ≠ b := by omega
    simp [e, this]
theorem results19 : Tryd.f19.results.toList = [.tmp 4] := by kernel_rfl
theorem b19_6e (C : CallF) (e : Env) (h : Heap) : b19_6 C 0 e h = k19_4 C e h := rfl
set_option maxRecDepth 100000 in
/-- Same -/
theorem r19 {h : Heap} (hG : 4 ≤ h.n0) {v w : Value} {A B : List RecD} (hv : RSl h v A) (hw : RSl h w B) (hl : A.length ≤ 1000000) : CW 19 [v, w] h = some (.bool (decide (A = B)), h) := by
  have la := hv.len
  have lb := hw.len
  refine CW_body is19 hG rfl ((t19_eq _ _ _ _).trans ?_)
  unfold t19
  simp -implicitDefEqProofs only [la, lb, nq3, thenV_some, pu_some]
  by_cases e : A.length = B.length
  · simp -implicitDefEqProofs only [decide_eq_true e, Bool.not_true]
    refine endL_fin (n := 26) (fin := fun ex y g => g = h ∧ ((ex = .exit 0 ∧ A = B) ∨ (ex = .ret ∧ A ≠ B ∧ y 4 = .bool false))) (Q := fun o : Out => o = some (.bool (decide (A = B)), h))
      (loop_fin (t19l19_11010_eq CW) (Inv := fun k y g => ∃ i, i + k = A.length ∧ y 0 = v ∧ y 1 = w ∧ y 5 = i64n i ∧ g = h ∧ A.take i = B.take i) ?_ A.length (by have : rounds = 18446744073709551616 := rfl; omega) ⟨0, by omega, rfl, rfl, rfl, rfl, rfl⟩) ?_
    · rintro k y g ⟨i, hik, y0, y1, y5, rfl, ht⟩
      unfold t19l19_11010
      simp -implicitDefEqProofs only [y0, y5, la, lss3, thenV_some, pu_some]
      by_cases hi : i < A.length
      · have hi2 : i < B.length := by omega
        obtain ⟨b, o, ix, wr, mr, lp⟩ := hv.at hi
        obtain ⟨b', o', ix', wr', mr', lp'⟩ := hw.at hi2
        have eA : A.getD i RecD.z = A[i] := by rw [List.getD_eq_getElem?_getD, List.getElem?_eq_getElem hi]; rfl
        have eB : B.getD i RecD.z = B[i] := by rw [List.getD_eq_getElem?_getD, List.getElem?_eq_getElem hi2]; rfl
        have L1 := lp g (Kept.refl _ _)
        have L2 := lp' g (Kept.refl _ _)
        simp -implicitDefEqProofs only [decide_eq_true hi, y0, y1, y5, ix, ix', L1, L2, nq58 wr wr', thenV_some, pu_some]
        by_cases hab : A.getD i RecD.z = B.getD i RecD.z
        · have a5 : bin Tryd.prog .add 3 (i64n i) (.int .i64 1) = some (i64n (i + 1)) := add31 (by omega)
          simp -implicitDefEqProofs only [decide_eq_true hab, Bool.not_true, a5, thenV_some, pu_some]
          refine Rnd.next (k - 1) (by omega) ⟨i + 1, by omega, y0, y1, rfl, rfl, ?_⟩
          rw [List.take_succ_eq_append_getElem hi, List.take_succ_eq_append_getElem hi2, ht, ← eA, ← eB, hab]
        · simp -implicitDefEqProofs only [decide_eq_false hab, Bool.not_false, thenV_some, pu_some]
          refine Rnd.ret ⟨rfl, .inr ⟨rfl, fun q => hab (by rw [q]), rfl⟩⟩
      · have hiE : i = A.length := by omega
        simp -implicitDefEqProofs only [decide_eq_false hi, thenV_some, pu_some]
        refine Rnd.out 0 ⟨rfl, .inl ⟨rfl, ?_⟩⟩
        rw [List.take_of_length_le (by omega), List.take_of_length_le (by omega)] at ht
        exact ht
    · rintro ex z g ⟨rfl, ⟨rfl, q⟩ | ⟨rfl, q, z4⟩⟩
      · simp -implicitDefEqProofs only [endL_exit, b19_6e, t19k19_4_eq]
        unfold t19k19_4
        rw [decide_eq_true q]
        rfl
      · rw [endL_ret, res_one results19 (by decide), z4, decide_eq_false q]
  · simp -implicitDefEqProofs only [decide_eq_false e, Bool.not_false, thenV_some]
    rw [decide_eq_false (fun q => e (by rw [q]))]
/-- Whether all records of lists are valid, and there are at most 120. -/
def rightB (Ls : List (List RecD)) : Bool := decide (Ls.length ≤ 40) && (Ls.all fun L => decide (L.length ≤ 120) && L.all recB) && decide (Ls.flatten.length ≤ 120)
theorem results24 : Tryd.f24.results.toList = [.tmp 2] := by kernel_rfl
theorem b24_7e (C : CallF) (e : Env) (h : Heap) : b24_7 C 0 e h = k24_5 C e h := rfl
theorem b24_18e (C : CallF) (e : Env) (h : Heap) : b24_18 C 2 e h = k24_11 C e h := rfl
theorem gtrN (a b : Nat) : bin Tryd.prog .gtr 3 (i64n a) (i64n b) = some (.bool (decide (b < a))) := by
  rw [bin_gtr]
  congr 2
  by_cases e : b < a
  · rw [decide_eq_true e, decide_eq_true (by omega)]
  · rw [decide_eq_false e, decide_eq_false (by omega)]
theorem gtrC (a : Nat) (n : Int) (b : Nat) (e : n = b) : bin Tryd.prog .gtr 3 (i64n a) (.int .i64 n) = some (.bool (decide (b < a))) := by subst e; exact gtrN a b
theorem leq3 (a : Nat) (n : Int) (b : Nat) (e : n = b) : bin Tryd.prog .leq 3 (i64n a) (.int .i64 n) = some (.bool (decide (a ≤ b))) := by
  subst e
  rw [show bin Tryd.prog .leq 3 (i64n a) (.int .i64 (b : Int)) = some (.bool (decide ((a : Int) ≤ b))) by rw [bin_int]; simp [binI]]
  congr 2
  by_cases e : a ≤ b
  · rw [decide_eq_true e, decide_eq_true (by omega)]
  · rw [decide_eq_false e, decide_eq_false (by omega)]
set_option maxRecDepth 100000 in
/-- The inner loop of rightRecords: a list's records. -/
theorem rr_loop {h0 h : Heap} (hG : 4 ≤ h0.n0) (O : Old h0 h) {v : Value} {Ls : List (List RecD)} (hv : LLS h0 v Ls) {i : Nat} (hi : i < Ls.length) (hl : Ls[i].length ≤ 1000000) {x : Nat → Value} (x0 : x 0 = v) (x4 : x 4 = i64n i) (x5 : x 5 = i64n 0) :
    Fin 48 (fun ex y g => Old h0 g ∧ ((ex = .exit 2 ∧ Ls[i].all recB = true ∧ y 0 = x 0 ∧ y 3 = x 3 ∧ y 4 = x 4) ∨ (ex = .ret ∧ Ls[i].all recB = false ∧ y 2 = .bool false))) (iter (codeA Tryd.prog CW (partOf Tryd.f24 [1, 1, 1, 0, 1, 0, 0, 1, 0, 0, 1, 1, 1, 0, 0])) rounds (mkF 48 x) h) := by
  obtain ⟨b, o, w, ix, hb, hld, R⟩ := hv.2 i hi
  have RS := R.rsl
  have rl := RS.len
  generalize Ls[i] = L at *
  refine loop_fin (t24l24_11101001001110_eq CW) (Inv := fun k y g => ∃ j, j + k = L.length ∧ y 0 = v ∧ y 4 = i64n i ∧ y 5 = i64n j ∧ y 3 = x 3 ∧ Old h0 g ∧ L.all recB = (L.drop j).all recB) ?_ L.length (by have : rounds = 18446744073709551616 := rfl; omega) ⟨0, by omega, x0, x4, x5, rfl, O, by rw [List.drop_zero]⟩
  rintro k y g ⟨j, hjk, y0, y4, y5, y3, Og, ha⟩
  have ld : ld1 (ptr b o) g = some (w, g) := hld g (Kept.get Og b hb (fun h => h))
  unfold t24l24_11101001001110
  simp -implicitDefEqProofs only [y0, y4, y5, ix, ld, rl, lss3, thenV_some, pu_some]
  by_cases hj : j < L.length
  · obtain ⟨b', o', ix', wr, mr, lp⟩ := RS.at hj
    have hd : L.drop j = L.getD j RecD.z :: L.drop (j + 1) := by
      rw [List.drop_eq_getElem_cons hj, List.getD_eq_getElem?_getD, List.getElem?_eq_getElem hj]
      rfl
    rw [hd, List.all_cons] at ha
    generalize L.getD j RecD.z = r at *
    have L1 := lp g Og
    obtain ⟨g', e', o'⟩ := r42 (h := g) (by rw [Og.n0]; exact hG) wr
    cases hr : recB r with
    | true =>
      rw [hr] at e' ha
      rw [Bool.true_and] at ha
      have a5 : bin Tryd.prog .add 3 (i64n j) (.int .i64 1) = some (i64n (j + 1)) := add31 (by omega)
      simp -implicitDefEqProofs only [decide_eq_true hj, y0, y4, y5, ix, ld, ix', L1, e', unA_not, Bool.not_true, a5, thenV_some, pu_some]
      exact Rnd.next (k - 1) (by omega) ⟨j + 1, by omega, y0, y4, rfl, y3, Og.trans o', ha⟩
    | false =>
      rw [hr] at e' ha
      simp -implicitDefEqProofs only [decide_eq_true hj, y0, y4, y5, ix, ld, ix', L1, e', unA_not, Bool.not_false, thenV_some, pu_some]
      exact Rnd.ret ⟨Og.trans o', .inr ⟨rfl, by rw [ha, Bool.false_and], rfl⟩⟩
  · have hjE : j = L.length := by omega
    rw [hjE, List.drop_length] at ha
    simp -implicitDefEqProofs only [decide_eq_false hj, thenV_some, pu_some]
    exact Rnd.out 2 ⟨Og, .inl ⟨rfl, ha, y0.trans x0.symm, y3, y4.trans x4.symm⟩⟩
def sumL (Ls : List (List RecD)) : Nat := Ls.flatten.length
theorem sumL_take {Ls : List (List RecD)} {i : Nat} (hi : i < Ls.length) : sumL (Ls.take (i + 1)) = sumL (Ls.take i) + Ls[i].length := by
  unfold sumL
  rw [List.take_succ_eq_append_getElem hi, List.flatten_append, List.length_append]
  simp
theorem all_take {Ls : List (List RecD)} {i : Nat} (hi : i < Ls.length) (p : List RecD → Bool) : (Ls.take (i + 1)).all p = ((Ls.take i).all p && p Ls[i]) := by
  rw [List.take_succ_eq_append_getElem hi, List.all_append]
  simp
set_option maxRecDepth 100000 in
/-- rightRecords -/
theorem r24 {h : Heap} (hG : 4 ≤ h.n0) {v : Value} {Ls : List (List RecD)} (hv : LLS h v Ls) : ∃ h', CW 24 [v] h = some (.bool (rightB Ls), h') ∧ Old h h' := by
  have hll := hv.len
  have key : ∃ o : Out, t24 CW v h = o ∧ ∃ h', o = some (.bool (rightB Ls), h') ∧ Old h h' := by
    refine ⟨_, rfl, ?_⟩
    unfold t24
    simp -implicitDefEqProofs only [hll, gtrC Ls.length 40 40 rfl, thenV_some, pu_some]
    by_cases h40 : 40 < Ls.length
    · simp -implicitDefEqProofs only [decide_eq_true h40]
      refine ⟨h, ?_, Kept.refl _ _⟩
      unfold rightB
      rw [decide_eq_false (by omega : ¬ Ls.length ≤ 40)]
      rfl
    · simp -implicitDefEqProofs only [decide_eq_false h40]
      refine endL_fin (n := 48) (fin := fun ex y g => Old h g ∧ ((ex = .exit 0 ∧ (Ls.all fun L => decide (L.length ≤ 120) && L.all recB) = true ∧ y 3 = i64n (sumL Ls)) ∨ (ex = .ret ∧ (Ls.all fun L => decide (L.length ≤ 120) && L.all recB) = false ∧ y 2 = .bool false))) (Q := fun o : Out => ∃ h', o = some (.bool (rightB Ls), h') ∧ Old h h')
        (loop_fin (t24l24_111010_eq CW) (Inv := fun k y g => ∃ i, i + k = Ls.length ∧ y 0 = v ∧ y 3 = i64n (sumL (Ls.take i)) ∧ y 4 = i64n i ∧ Old h g ∧ ((Ls.take i).all fun L => decide (L.length ≤ 120) && L.all recB) = true ∧ sumL (Ls.take i) ≤ i * 120) ?_ Ls.length (by have : rounds = 18446744073709551616 := rfl; omega) ⟨0, by omega, rfl, rfl, rfl, Kept.refl _ _, by simp, by simp [sumL]⟩) ?_
      · rintro k y g ⟨i, hik, y0, y3, y4, O, hall, hs⟩
        unfold t24l24_111010
        simp -implicitDefEqProofs only [y0, y4, hll, lss3, thenV_some, pu_some]
        by_cases hi : i < Ls.length
        · obtain ⟨b, o, w, ix, hb, hld, R⟩ := hv.2 i hi
          have ld : ld1 (ptr b o) g = some (w, g) := hld g (Kept.get O b hb (fun h => h))
          have rl := R.rsl.len
          simp -implicitDefEqProofs only [decide_eq_true hi, ix, ld, rl, gtrC Ls[i].length 120 120 rfl, thenV_some, pu_some]
          by_cases h120 : 120 < Ls[i].length
          · simp -implicitDefEqProofs only [decide_eq_true h120, thenV_some]
            refine Rnd.ret ⟨O, .inr ⟨rfl, ?_, rfl⟩⟩
            rw [List.all_eq_false]
            exact ⟨Ls[i], List.getElem_mem hi, by rw [decide_eq_false (by omega : ¬ Ls[i].length ≤ 120), Bool.false_and]; exact Bool.false_ne_true⟩
          · have a3 : bin Tryd.prog .add 3 (i64n (sumL (Ls.take i))) (i64n Ls[i].length) = some (i64n (sumL (Ls.take (i + 1)))) := by
              rw [sumL_take hi]
              exact add3 (by omega)
            simp -implicitDefEqProofs only [decide_eq_false h120, y3, ld, rl, a3, thenV_some, pu_some]
            refine endL_fin (rr_loop hG O hv hi (by omega) y0 y4 rfl) ?_
            rintro ex z g2 ⟨O2, ⟨rfl, ha, z0, z3, z4⟩ | ⟨rfl, ha, z2⟩⟩
            · simp -implicitDefEqProofs only [endL_exit, b24_18e, t24k24_11_eq]
              unfold t24k24_11
              have z4' : z 4 = i64n i := z4.trans y4
              have a4 : bin Tryd.prog .add 3 (i64n i) (.int .i64 1) = some (i64n (i + 1)) := add31 (by omega)
              simp -implicitDefEqProofs only [z4', a4, thenV_some, pu_some]
              refine Rnd.next (k - 1) (by omega) ⟨i + 1, by omega, z0.trans y0, z3, rfl, O2, ?_, ?_⟩
              · rw [all_take hi, hall, ha, decide_eq_true (by omega : Ls[i].length ≤ 120)]
                rfl
              · rw [sumL_take hi]
                omega
            · rw [endL_ret]
              refine Rnd.ret ⟨O2, .inr ⟨rfl, ?_, z2⟩⟩
              rw [List.all_eq_false]
              exact ⟨Ls[i], List.getElem_mem hi, by rw [ha, Bool.and_false]; exact Bool.false_ne_true⟩
        · have hiE : i = Ls.length := by omega
          rw [hiE, List.take_length] at hall y3
          simp -implicitDefEqProofs only [decide_eq_false hi, thenV_some]
          exact Rnd.out 0 ⟨O, .inl ⟨rfl, hall, y3⟩⟩
      · rintro ex z g ⟨O, ⟨rfl, hall, z3⟩ | ⟨rfl, hall, z2⟩⟩
        · simp -implicitDefEqProofs only [endL_exit, b24_7e, t24k24_5_eq]
          unfold t24k24_5
          simp -implicitDefEqProofs only [z3, leq3 (sumL Ls) 120 120 rfl, thenV_some, pu_some]
          refine ⟨g, ?_, O⟩
          unfold rightB
          rw [hall, decide_eq_true (by omega : Ls.length ≤ 40)]
          rfl
        · rw [endL_ret, res_one results24 (by decide), z2]
          refine ⟨g, ?_, O⟩
          unfold rightB
          rw [hall, Bool.and_false, Bool.false_and]
  obtain ⟨o, e, h', e', q⟩ := key
  exact ⟨h', CW_body is24 hG rfl ((t24_eq _ _ _).trans (e.trans e')), q⟩
end Go.Proofs.YtdnahgfgoajmcaaDoor

namespace Go.Proofs.YtdnahgfgoajmcaaDoor
open Go Go.Abs
/-- Lists of numbers, by the first place in which they differ. -/
def lexI : List Int → List Int → Int
  | x :: a, y :: b => if x < y then -1 else if y < x then 1 else lexI a b
  | _, _ => 0
theorem lexI_neg : ∀ a b : List Int, lexI b a = - lexI a b
  | [], [] => rfl
  | [], _ :: _ => rfl
  | _ :: _, [] => rfl
  | x :: a, y :: b => by
    unfold lexI
    by_cases h1 : x < y
    · have h2 : ¬ y < x := by omega
      simp [h1, h2]
    · by_cases h2 : y < x
      · simp [h1, h2]
      · simp only [h1, h2, if_false]
        exact lexI_neg a b
theorem lexI_trans : ∀ a b c : List Int, a.length = b.length → b.length = c.length → lexI a b ≤ 0 → lexI b c ≤ 0 → lexI a c ≤ 0
  | [], _, _, _, _, _, _ => by unfold lexI; exact Int.le_refl _
  | x :: a, [], _, h, _, _, _ => by cases h
  | x :: a, y :: b, [], _, h, _, _ => by cases h
  | x :: a, y :: b, z :: c, l1, l2, h1, h2 => by
    unfold lexI at h1 h2 ⊢
    by_cases e1 : x < y
    · by_cases e2 : y < z
      · rw [if_pos (by omega)]; decide
      · rw [if_neg e2] at h2
        by_cases e3 : z < y
        · rw [if_pos e3] at h2; omega
        · rw [if_pos (by omega)]; decide
    · rw [if_neg e1] at h1
      by_cases e4 : y < x
      · rw [if_pos e4] at h1; omega
      · rw [if_neg e4] at h1
        by_cases e2 : y < z
        · rw [if_pos (by omega)]; decide
        · rw [if_neg e2] at h2
          by_cases e3 : z < y
          · rw [if_pos e3] at h2; omega
          · rw [if_neg e3] at h2
            rw [if_neg (by omega), if_neg (by omega)]
            exact lexI_trans a b c (by simpa using l1) (by simpa using l2) h1 h2
theorem lexI_eq : ∀ a b : List Int, a.length = b.length → lexI a b = 0 → a = b
  | [], [], _, _ => rfl
  | [], _ :: _, h, _ => by cases h
  | _ :: _, [], h, _ => by cases h
  | x :: a, y :: b, l, h => by
    unfold lexI at h
    by_cases e1 : x < y
    · rw [if_pos e1] at h; omega
    · rw [if_neg e1] at h
      by_cases e2 : y < x
      · rw [if_pos e2] at h; omega
      · rw [if_neg e2] at h
        rw [lexI_eq a b (by simpa using l) h, show x = y by omega]
/-- What the age of a record is told by. -/
def ageL (r : RecD) : List Int := [r.inc, r.num, if r.held then 1 else 0, r.k, r.n]
theorem cmpR_lex (a b : RecD) : cmpR a b = lexI (ageL a) (ageL b) := by
  have key : ∀ (x y z : Int), (if cmpI x y = 0 then z else cmpI x y) = if x < y then -1 else if y < x then 1 else z := by
    intro x y z
    unfold cmpI
    by_cases h1 : x < y
    · simp [h1]
    · by_cases h2 : y < x
      · simp [h1, h2]
      · simp [h1, h2]
  have hh : (if a.held = b.held then (0 : Int) else if a.held then 1 else -1) = cmpI (if a.held then 1 else 0) (if b.held then 1 else 0) := by
    unfold cmpI
    cases a.held <;> cases b.held <;> simp
  unfold cmpR
  rw [hh]
  unfold ageL
  simp only [orL, key, lexI]
theorem cmpR_neg (a b : RecD) : cmpR b a = - cmpR a b := by rw [cmpR_lex, cmpR_lex, lexI_neg]
theorem cmpR_trans {a b c : RecD} (h1 : cmpR a b ≤ 0) (h2 : cmpR b c ≤ 0) : cmpR a c ≤ 0 := by
  rw [cmpR_lex] at *
  exact lexI_trans (ageL a) (ageL b) (ageL c) (by rfl) (by rfl) h1 h2
theorem cmpR_self (a : RecD) : cmpR a a = 0 := by
  have := cmpR_neg a a
  omega
theorem cmpR_eq {a b : RecD} (hp : atB a b = true) (h : cmpR a b = 0) : a = b := by
  rw [cmpR_lex] at h
  have e := lexI_eq (ageL a) (ageL b) (by rfl) h
  unfold ageL at e
  simp only [List.cons.injEq, and_true] at e
  obtain ⟨e1, e2, e3, e4, e5⟩ := e
  obtain ⟨p1, p2, p3⟩ := atB_iff.1 hp
  have e6 : a.held = b.held := by
    cases h1 : a.held <;> cases h2 : b.held <;> rw [h1, h2] at e3 <;> first | rfl | (simp at e3)
  exact RecD.ext p1 p2 p3 (by omega) (by omega) e6 e4 e5
theorem cmpR_inc {a b : RecD} (h : cmpR a b ≤ 0) : a.inc ≤ b.inc := by
  rw [cmpR_lex] at h
  unfold ageL lexI at h
  by_cases h1 : (a.inc : Int) < b.inc
  · omega
  · rw [if_neg h1] at h
    by_cases h2 : (b.inc : Int) < a.inc
    · rw [if_pos h2] at h; omega
    · omega
/-- The newest of its place. -/
def Top (L : List RecD) (x : RecD) : Prop := x ∈ L ∧ ∀ y ∈ L, atB x y = true → cmpR y x ≤ 0
/-- Buried, or below its holder's base. -/
def Void (L : List RecD) (x : RecD) : Prop := x.kind = 3 ∧ ((∃ y ∈ L, y.kind = 2 ∧ y.obj = x.obj) ∨ ∃ y ∈ L, y.kind = 1 ∧ y.holder = x.holder ∧ x.inc < y.inc)
/-- What is left of a list. -/
def Nf (L : List RecD) (x : RecD) : Prop := Top L x ∧ ¬ Void L x
/-- What the map holds of what was seen. -/
structure MOf (P M : List RecD) : Prop where
  dist : Dist M
  sub : ∀ x ∈ M, x ∈ P
  cov : ∀ y ∈ P, ∃ z ∈ M, atB y z = true ∧ cmpR y z ≤ 0
theorem Dist.eq {M : List RecD} (d : Dist M) {x y : RecD} (hx : x ∈ M) (hy : y ∈ M) (h : atB x y = true) : x = y := by
  unfold Dist at d
  rw [List.pairwise_iff_getElem] at d
  obtain ⟨i, hi, rfl⟩ := List.mem_iff_getElem.1 hx
  obtain ⟨j, hj, rfl⟩ := List.mem_iff_getElem.1 hy
  rcases Nat.lt_trichotomy i j with h1 | h1 | h1
  · rw [d i j hi hj h1] at h; cases h
  · subst h1; rfl
  · rw [atB_comm, d j i hj hi h1] at h; cases h
theorem MOf.mem {P M : List RecD} (m : MOf P M) (x : RecD) : x ∈ M ↔ Top P x := by
  constructor
  · intro hx
    refine ⟨m.sub x hx, fun y hy h => ?_⟩
    obtain ⟨z, hz, h1, h2⟩ := m.cov y hy
    have : x = z := m.dist.eq hx hz (atB_trans h h1)
    rw [this]; exact h2
  · rintro ⟨h1, h2⟩
    obtain ⟨z, hz, h3, h4⟩ := m.cov x h1
    have h5 := h2 z (m.sub z hz) h3
    have h6 := cmpR_neg x z
    have : x = z := cmpR_eq h3 (by omega)
    rw [this]; exact hz
theorem fnd_none {r : RecD} {M : List RecD} (h : fnd r M = none) : ∀ x ∈ M, atB r x = false := by
  unfold fnd at h
  rw [List.find?_eq_none] at h
  intro x hx
  have := h x hx
  simpa using this
theorem mem_putM {M : List RecD} {r x : RecD} (d : Dist M) : x ∈ putM M r ↔ (x ∈ M ∧ atB r x = false) ∨ x = r := by
  unfold putM
  cases h : idx r M with
  | none =>
    have hn := idx_none_all h
    rw [List.mem_append, List.mem_singleton]
    constructor
    · rintro (h1 | h1)
      · exact .inl ⟨h1, hn x h1⟩
      · exact .inr h1
    · rintro (h1 | h1)
      · exact .inl h1.1
      · exact .inr h1
  | some i =>
    obtain ⟨hi, ha, _⟩ := idx_some h
    constructor
    · intro hx
      obtain ⟨j, hj, rfl⟩ := List.mem_iff_getElem.1 hx
      rw [List.getElem_set]
      split
      · exact .inr rfl
      · rename_i hne
        have hj' : j < M.length := by simpa using hj
        refine .inl ⟨List.getElem_mem hj', ?_⟩
        cases e : atB r M[j] with
        | false => rfl
        | true =>
          have hd := d
          unfold Dist at hd
          rw [List.pairwise_iff_getElem] at hd
          have h3 : atB M[i] M[j] = true := atB_trans (by rw [atB_comm]; exact ha) e
          rcases Nat.lt_or_gt_of_ne hne with h1 | h1
          · rw [hd i j hi hj' h1] at h3; cases h3
          · rw [atB_comm, hd j i hj' hi h1] at h3; cases h3
    · rintro (⟨h1, h2⟩ | rfl)
      · obtain ⟨j, hj, rfl⟩ := List.mem_iff_getElem.1 h1
        have hne : i ≠ j := fun e => by subst e; rw [ha] at h2; cases h2
        exact List.mem_iff_getElem.2 ⟨j, by simpa using hj, by
          show (M.set i r)[j]'_ = M[j]
          rw [List.getElem_set, if_neg hne]⟩
      · exact List.mem_iff_getElem.2 ⟨i, by simpa using hi, by
          show (M.set i x)[i]'_ = x
          rw [List.getElem_set_self]⟩
theorem MOf.step {P M : List RecD} (m : MOf P M) (r : RecD) : MOf (P ++ [r]) (mstep M r) := by
  have hneg := fun a b => cmpR_neg a b
  unfold mstep
  split
  · rename_i hn
    refine ⟨putM_dist m.dist r, fun x hx => ?_, fun y hy => ?_⟩
    · rcases putM_mem hx with h | rfl
      · exact List.mem_append_left _ (m.sub x h)
      · exact List.mem_append_right _ List.mem_cons_self
    · rcases List.mem_append.1 hy with h | h
      · obtain ⟨z, hz, h1, h2⟩ := m.cov y h
        cases e : atB r z with
        | false => exact ⟨z, (mem_putM m.dist).2 (.inl ⟨hz, e⟩), h1, h2⟩
        | true =>
          refine ⟨r, (mem_putM m.dist).2 (.inr rfl), atB_trans h1 (by rw [atB_comm]; exact e), ?_⟩
          cases hf : fnd r M with
          | none => rw [fnd_none hf z hz] at e; cases e
          | some q =>
            have hq := fnd_mem hf
            have : q = z := m.dist.eq hq.1 hz (atB_trans (by rw [atB_comm]; exact hq.2) e)
            subst this
            unfold needs at hn
            rw [hf] at hn
            simp only [Option.isSome_some, Bool.not_true, Option.getD_some, Bool.false_or, decide_eq_true_eq] at hn
            have h5 := hneg r q
            exact cmpR_trans h2 (by omega)
      · rw [List.mem_singleton.1 h]
        exact ⟨r, (mem_putM m.dist).2 (.inr rfl), atB_self r, by rw [cmpR_self]; exact Int.le_refl _⟩
  · rename_i hn
    refine ⟨m.dist, fun x hx => List.mem_append_left _ (m.sub x hx), fun y hy => ?_⟩
    rcases List.mem_append.1 hy with h | h
    · exact m.cov y h
    · rw [List.mem_singleton.1 h]
      cases hf : fnd r M with
      | none => exact absurd (by unfold needs; rw [hf]; rfl) hn
      | some q =>
        have hq := fnd_mem hf
        refine ⟨q, hq.1, hq.2, ?_⟩
        unfold needs at hn
        rw [hf] at hn
        simp only [Option.isSome_some, Bool.not_true, Option.getD_some, Bool.false_or, decide_eq_true_eq] at hn
        omega
theorem mof_fold : ∀ (L P M : List RecD), MOf P M → MOf (P ++ L) (L.foldl mstep M)
  | [], P, M, m => by rw [List.append_nil]; exact m
  | r :: L, P, M, m => by
    have := mof_fold L (P ++ [r]) (mstep M r) (m.step r)
    rw [List.append_assoc] at this
    exact this
theorem mof_newest (L : List RecD) : MOf L (newest L) := by
  have := mof_fold L [] [] ⟨.nil, (fun _ h => by cases h), (fun _ h => by cases h)⟩
  rwa [List.nil_append] at this
theorem newest_mem (L : List RecD) (x : RecD) : x ∈ newest L ↔ Top L x := (mof_newest L).mem x
theorem keep_iff {L : List RecD} (v : Vld L) (x : RecD) : keepR (newest L) x = true ↔ ¬ Void L x := by
  have m := mof_newest L
  have hg : (fnd (graveP x.obj) (newest L)).isSome = true ↔ ∃ y ∈ L, y.kind = 2 ∧ y.obj = x.obj := by
    constructor
    · intro h
      obtain ⟨q, hq⟩ := Option.isSome_iff_exists.1 h
      obtain ⟨h1, h2⟩ := fnd_mem hq
      obtain ⟨e1, e2, _⟩ := atB_iff.1 h2
      exact ⟨q, m.sub q h1, e1.symm, e2.symm⟩
    · rintro ⟨y, hy, h1, h2⟩
      obtain ⟨z, hz, h3, _⟩ := m.cov y hy
      have hh : y.holder = 0 := by
        rcases recB_cases (v y hy).2 with h | h | h
        · omega
        · rw [h.2]; rfl
        · omega
      cases hf : fnd (graveP x.obj) (newest L) with
      | some q => rfl
      | none =>
        have := fnd_none hf z hz
        rw [show atB (graveP x.obj) z = true from atB_trans (b := y) (atB_iff.2 ⟨h1.symm, h2.symm, hh.symm⟩) h3] at this
        cases this
  have hb : x.inc < ((fnd (baseP x.holder) (newest L)).getD RecD.z).inc ↔ ∃ y ∈ L, y.kind = 1 ∧ y.holder = x.holder ∧ x.inc < y.inc := by
    constructor
    · intro h
      cases hf : fnd (baseP x.holder) (newest L) with
      | none =>
        rw [hf] at h
        exact absurd h (Nat.not_lt_zero _)
      | some q =>
        rw [hf] at h
        obtain ⟨h1, h2⟩ := fnd_mem hf
        obtain ⟨e1, _, e3⟩ := atB_iff.1 h2
        exact ⟨q, m.sub q h1, e1.symm, e3.symm, h⟩
    · rintro ⟨y, hy, h1, h2, h3⟩
      obtain ⟨z, hz, h4, h5⟩ := m.cov y hy
      have ho : y.obj = z32 := by
        rcases recB_cases (v y hy).2 with h | h | h
        · rw [h.2.1]; rfl
        · omega
        · omega
      have h6 : atB (baseP x.holder) z = true := atB_trans (b := y) (atB_iff.2 ⟨h1.symm, ho.symm, h2.symm⟩) h4
      cases hf : fnd (baseP x.holder) (newest L) with
      | none => rw [fnd_none hf z hz] at h6; cases h6
      | some q =>
        obtain ⟨q1, q2⟩ := fnd_mem hf
        have : q = z := m.dist.eq q1 hz (atB_trans (by rw [atB_comm]; exact q2) h6)
        subst this
        have := cmpR_inc h5
        exact Nat.lt_of_lt_of_le h3 this
  unfold keepR Void
  rw [Bool.not_eq_true', ← Bool.not_eq_true, Bool.and_eq_true, Bool.or_eq_true, decide_eq_true_eq, decide_eq_true_eq, hg, hb]
/-- What a merge leaves, by membership. -/
theorem merged_mem {A B : List RecD} (v : Vld (A ++ B)) (x : RecD) : x ∈ merged A B ↔ Nf (A ++ B) x := by
  show x ∈ sortR _ ↔ _
  rw [(sortR_perm _).mem_iff, List.mem_filter, newest_mem, keep_iff v]
  exact Iff.rfl
/-- Two lists in order with the same members are one. -/
theorem KS.ext {A B : List RecD} (ha : KS A) (hb : KS B) (h : ∀ x, x ∈ A ↔ x ∈ B) : A = B := by
  have nd : ∀ {L : List RecD}, KS L → L.Nodup := fun {L} k => by
    refine List.Pairwise.imp (fun {a b} hh e => ?_) k
    subst e
    have : cmpK a a = 0 := Go.Proofs.YtdnahgfgoajmcaaDoor.cb_self _
    omega
  exact ha.uniq hb ((List.perm_ext_iff_of_nodup (nd ha) (nd hb)).2 h)
theorem Nf.congr {A B : List RecD} (h : ∀ x, x ∈ A ↔ x ∈ B) (x : RecD) : Nf A x ↔ Nf B x := by
  unfold Nf Top Void
  simp only [h]
/-- The newest of a place in a list. -/
theorem top_of {L : List RecD} {y : RecD} (hy : y ∈ L) : ∃ z, Top L z ∧ atB y z = true ∧ cmpR y z ≤ 0 := by
  obtain ⟨z, hz, h1, h2⟩ := (mof_newest L).cov y hy
  exact ⟨z, (newest_mem L z).1 hz, h1, h2⟩
/-- What is merged upon what is left of a list is merged upon the list. -/
theorem nf_nf {S L B : List RecD} (hS : ∀ x, x ∈ S ↔ Nf L x) (x : RecD) : Nf (S ++ B) x ↔ Nf (L ++ B) x := by
  have sub : ∀ y ∈ S, y ∈ L := fun y hy => ((hS y).1 hy).1.1
  have subA : ∀ y ∈ S ++ B, y ∈ L ++ B := fun y hy => by
    rcases List.mem_append.1 hy with h | h
    · exact List.mem_append_left _ (sub y h)
    · exact List.mem_append_right _ h
  -- graves and bases of the list are left, in their newest form
  have grv : ∀ y ∈ L, y.kind = 2 → ∃ z ∈ S, z.kind = 2 ∧ z.obj = y.obj := fun y hy hk => by
    obtain ⟨z, hz, h1, _⟩ := top_of hy
    obtain ⟨e1, e2, _⟩ := atB_iff.1 h1
    exact ⟨z, (hS z).2 ⟨hz, fun hv => by have := hv.1; omega⟩, by omega, e2.symm⟩
  have bas : ∀ y ∈ L, y.kind = 1 → ∃ z ∈ S, z.kind = 1 ∧ z.holder = y.holder ∧ y.inc ≤ z.inc := fun y hy hk => by
    obtain ⟨z, hz, h1, h2⟩ := top_of hy
    obtain ⟨e1, _, e3⟩ := atB_iff.1 h1
    exact ⟨z, (hS z).2 ⟨hz, fun hv => by have := hv.1; omega⟩, by omega, e3.symm, cmpR_inc h2⟩
  have vd : ∀ {x : RecD}, Void (L ++ B) x → Void (S ++ B) x := fun {x} hv => by
    refine ⟨hv.1, ?_⟩
    rcases hv.2 with ⟨y, hy, h1, h2⟩ | ⟨y, hy, h1, h2, h3⟩
    · rcases List.mem_append.1 hy with h | h
      · obtain ⟨z, hz, e1, e2⟩ := grv y h h1
        exact .inl ⟨z, List.mem_append_left _ hz, e1, e2.trans h2⟩
      · exact .inl ⟨y, List.mem_append_right _ h, h1, h2⟩
    · rcases List.mem_append.1 hy with h | h
      · obtain ⟨z, hz, e1, e2, e3⟩ := bas y h h1
        exact .inr ⟨z, List.mem_append_left _ hz, e1, e2.trans h2, by omega⟩
      · exact .inr ⟨y, List.mem_append_right _ h, h1, h2, h3⟩
  have vd' : ∀ {x : RecD}, Void (S ++ B) x → Void (L ++ B) x := fun {x} hv => by
    refine ⟨hv.1, ?_⟩
    rcases hv.2 with ⟨y, hy, h⟩ | ⟨y, hy, h⟩
    · exact .inl ⟨y, subA y hy, h⟩
    · exact .inr ⟨y, subA y hy, h⟩
  constructor
  · rintro ⟨⟨hx, ht⟩, hv⟩
    refine ⟨⟨subA x hx, fun y hy hp => ?_⟩, fun h => hv (vd h)⟩
    rcases List.mem_append.1 hy with h | h
    · -- the newest of the place in the list
      obtain ⟨z, hz, h1, h2⟩ := top_of h
      by_cases hzv : Void L z
      · -- it is void, and so is x, unless it is newer
        have hxz := atB_trans hp h1
        by_cases hc : cmpR z x ≤ 0
        · exact cmpR_trans h2 hc
        · exfalso
          have hn := cmpR_neg x z
          have hinc := cmpR_inc (a := x) (b := z) (by omega)
          obtain ⟨e1, e2, e3⟩ := atB_iff.1 hxz
          refine hv (vd ⟨by have := hzv.1; omega, ?_⟩)
          rcases hzv.2 with ⟨q, hq, g1, g2⟩ | ⟨q, hq, g1, g2, g3⟩
          · exact .inl ⟨q, List.mem_append_left _ hq, g1, g2.trans e2.symm⟩
          · exact .inr ⟨q, List.mem_append_left _ hq, g1, g2.trans e3.symm, by omega⟩
      · have hzS : z ∈ S := (hS z).2 ⟨hz, hzv⟩
        exact cmpR_trans h2 (ht z (List.mem_append_left _ hzS) (atB_trans hp h1))
    · exact ht y (List.mem_append_right _ h) hp
  · rintro ⟨⟨hx, ht⟩, hv⟩
    refine ⟨⟨?_, fun y hy hp => ht y (subA y hy) hp⟩, fun h => hv (vd' h)⟩
    rcases List.mem_append.1 hx with h | h
    · refine List.mem_append_left _ ((hS x).2 ⟨⟨h, fun y hy hp => ht y (List.mem_append_left _ hy) hp⟩, fun h2 => hv ⟨h2.1, ?_⟩⟩)
      rcases h2.2 with ⟨q, hq, g⟩ | ⟨q, hq, g⟩
      · exact .inl ⟨q, List.mem_append_left _ hq, g⟩
      · exact .inr ⟨q, List.mem_append_left _ hq, g⟩
    · exact List.mem_append_right _ h
end Go.Proofs.YtdnahgfgoajmcaaDoor

namespace Go.Proofs.YtdnahgfgoajmcaaDoor
open Go Go.Abs
attribute [local congr] thenV_congr
noncomputable abbrev YV : CallF := callL [(25, s25)]
abbrev SV : List Nat := [14, 19, 23, 24, 26, 27, 28, 29, 30, 33, 42, 57]
theorem YV_sound : CSound Tryd.prog YV := callL_sound _ (by
  intro p hp
  simp only [List.mem_cons, List.not_mem_nil, or_false] at hp
  subst hp
  exact c25)
/-- Calls of which Merge's is known. -/
noncomputable def CV : CallF := CC2 Tryd.prog XX YV SV
theorem YV_none {f : FuncId} (hf : f ≠ 25) (args : List Value) (h : Heap) : YV f args h = none := by
  show (if f = 25 then s25 args h else none) = none
  rw [if_neg hf]
theorem CV_up {f : FuncId} {args : List Value} {h : Heap} {r : Value × Heap} (hS : SV.contains f = true) (hf : f ≠ 25) (e : CW f args h = some r) : CV f args h = some r := CC2_up hS (YV_none hf _ _) e
theorem CV_body {f : FuncId} {fn : Func} (i : IsFn Tryd.prog f fn) {args : List Value} {h : Heap} {r : Value × Heap} (hg : 4 ≤ h.n0) (hS : SV.contains f = false) (hf : f ≠ 25) (e : bodyK Tryd.prog CV fn args h = some r) : CV f args h = some r :=
  CC2_body i (by rw [globals4]; exact hg) hS (YV_none hf _ _) e
theorem r14V {h : Heap} (g : h.get 3 = some roundsL) : CV 14 [] h = some (.bool true, h) := CV_up rfl (by decide) (r14 g)
/-- Blocks of different lengths. -/
theorem ne_len {h : Heap} {b c : Nat} {k : Blk} {w : Value} (e : h.get b = some k) (hc : h.get c = some [w]) (hl : k.length ≠ 1) : b ≠ c := fun q => by
  subst q
  rw [e] at hc
  cases hc
  exact hl rfl
theorem RcS.keepC {h h' : Heap} {v w : Value} {P : List RecD} {c : Nat} (x : RcS h v P) (k : Kept h h' (· = c)) (hc : h.get c = some [w]) : RcS h' v P := by
  obtain ⟨hd, a, d, rfl, hn, ht, h0⟩ := x
  refine ⟨hd, a, d, rfl, hn, ht, fun hp => ?_⟩
  obtain ⟨b, off, s, q, rfl, hk, hlen, hcs⟩ := h0 hp
  rw [show recK.length = 39 from rfl] at hlen
  exact ⟨b, off, s, q, rfl, k.getE hk (ne_len hk hc (by omega)), by rw [show recK.length = 39 from rfl]; exact hlen, hcs⟩
theorem ldN_len {h : Heap} {n b o : Nat} {r : Value × Heap} (hn : 0 < n) (e : ldN n (ptr b o) h = some r) : ∃ k, h.get b = some k ∧ o + n ≤ k.length := by
  unfold ldN ptr at e
  simp only at e
  split at e
  · rename_i k hk
    split at e
    · rename_i hh
      refine ⟨k, hk, ?_⟩
      first | exact hh.1 | omega | exact (by simpa using hh : _ ∧ _).1
    · cases e
  · cases e
theorem RSl.keepC {h h' : Heap} {v w : Value} {L : List RecD} {c : Nat} (x : RSl h v L) (k : Kept h h' (· = c)) (hc : h.get c = some [w]) : RSl h' v L := by
  refine ⟨x.1, x.2.1, fun j hj => ?_⟩
  obtain ⟨b, q, h1, h2, h3⟩ := x.2.2 j hj
  obtain ⟨kk, hk, hl⟩ := ldN_len (by decide) (h3 h rfl)
  have hb : h'.get b = h.get b := k.get b h2 (ne_len hk hc (by omega))
  exact ⟨b, q, h1, Nat.lt_of_lt_of_le h2 k.next, fun g e => h3 g (e.trans hb)⟩
/-- An inventory: its records, in order. -/
structure IvH (h : Heap) (vb : Nat) (L : List RecD) : Prop where
  n0 : h.n0 ≤ vb
  ex : ∃ va, h.get vb = some [va] ∧ RcS h va L ∧ nilOk va
  vld : Vld L
  ks : KS L
theorem IvH.cell {h : Heap} {vb : Nat} {L : List RecD} (x : IvH h vb L) : ∃ w, h.get vb = some [w] := by
  obtain ⟨va, h1, _⟩ := x.ex
  exact ⟨va, h1⟩
theorem IvH.old {h h' : Heap} {vb : Nat} {L : List RecD} (x : IvH h vb L) (o : Old h h') : IvH h' vb L := by
  obtain ⟨va, h1, h2, h3⟩ := x.ex
  exact ⟨by rw [o.n0]; exact x.n0, ⟨va, Old.get o h1, h2.mono o, h3⟩, x.vld, x.ks⟩
theorem IvH.keepC {h h' : Heap} {vb c : Nat} {L : List RecD} {w : Value} (x : IvH h vb L) (k : Kept h h' (· = c)) (hc : h.get c = some [w]) (hne : vb ≠ c) : IvH h' vb L := by
  obtain ⟨va, h1, h2, h3⟩ := x.ex
  exact ⟨by rw [k.n0]; exact x.n0, ⟨va, k.getE h1 hne, h2.keepC k hc, h3⟩, x.vld, x.ks⟩
theorem recsC_typed {P : List RecD} (hd : ∀ p ∈ P, RecD.Wf p) : TypedN recK P.length (recsC P) := by
  refine ⟨recsC_len hd, fun i hi => ?_⟩
  rw [show recK.length = 39 from rfl, recsC_get hd hi]
  refine rec_typed (hd _ ?_)
  rw [List.getD_eq_getElem?_getD, List.getElem?_eq_getElem hi]
  exact List.getElem_mem hi
theorem RcS.of_blk {h : Heap} {b n c : Nat} {s : Option Nat} {P : List RecD} (hd : ∀ p ∈ P, RecD.Wf p) (hn : n = P.length) (hg : h.get b = some (recsC P)) : RcS h (.slice (some ⟨b, 0, s⟩) n c) P := by
  subst hn
  have hl := recsC_len hd
  refine ⟨hd, some ⟨b, 0, s⟩, c, rfl, (fun h => by cases h), recsC_typed hd, fun _ => ⟨b, 0, s, recsC P, rfl, hg, ?_, ?_⟩⟩
  · rw [show recK.length = 39 from rfl, hl, Nat.zero_add]
    exact Nat.le_refl _
  · rw [show recK.length = 39 from rfl, List.drop_zero, ← hl, List.take_length]
theorem RLst.rcs {h : Heap} {N : Nat} {v : Value} {L : List RecD} (x : RLst h N v L) : RcS h v L := by
  obtain ⟨hw, b, s, rfl, h1, _⟩ := x
  exact RcS.of_blk hw rfl h1
/-- Merge, and where its records lie. -/
theorem r25B {h : Heap} {vb : Nat} {v : Value} {L R : List RecD} (I : IvH h vb L) (x : RSl h v R) (vr : ∀ r ∈ R, recB r = true) (hL : L.length ≤ 500000) (hR : R.length ≤ 500000) :
    ∃ h', CV 25 [ptr vb 0, v] h = some (.int .i64 0, h') ∧ IvH h' vb (merged L R) ∧ Kept h h' (· = vb) ∧ ∀ va b, h'.get vb = some [va] → slB va = some b → b = h.next := by
  obtain ⟨va, gv, ra, na⟩ := I.ex
  have ok : MrgOk [ptr vb 0, v] h vb va L v R := ⟨rfl, I.n0, gv, ra.rsl, x, I.vld, hL, hR⟩
  have hi : invB R = false := by
    unfold invB
    rw [List.any_eq_false]
    intro r hr
    rw [vr r hr]
    decide
  have e := s25_eq ok
  rw [if_neg (by rw [hi]; exact Bool.false_ne_true)] at e
  have vl : Vld (L ++ R) := fun r hr => by
    rcases List.mem_append.1 hr with h1 | h1
    · exact I.vld r h1
    · exact ⟨x.2.1 r h1, vr r h1⟩
  obtain ⟨wv, wk⟩ := merged_wf vl
  generalize merged L R = M at *
  have vlt := h.lt_of_get gv
  have gB := mrgH_getB (h := h) M I.n0 gv
  have k : Kept h (mrgH h vb M) (· = vb) := ⟨rfl, by rw [mrgH_next]; omega, fun c hc hn => by rw [gB, if_neg (by omega), if_neg hn]⟩
  have g1 : (mrgH h vb M).get vb = some [.slice (some ⟨h.next, 0, if M = [] then none else some 39⟩) M.length M.length] := Heap.get_of_getB _ (by rw [gB, if_neg (by omega), if_pos rfl])
  have g2 : (mrgH h vb M).get h.next = some (recsC M) := Heap.get_of_getB _ (by rw [gB, if_pos rfl])
  refine ⟨_, CC2_known e, ⟨I.n0, ⟨_, g1, RcS.of_blk (fun r hr => (wv r hr).1) rfl g2, .inr ⟨_, _, _, rfl⟩⟩, wv, wk⟩, k, fun va' b' e1 e2 => ?_⟩
  rw [g1] at e1
  cases e1
  cases hM : M.length with
  | zero => rw [hM] at e2; cases e2
  | succ n => rw [hM] at e2; cases e2; rfl
/-- Merge -/
theorem r25 {h : Heap} {vb : Nat} {v : Value} {L R : List RecD} (I : IvH h vb L) (x : RSl h v R) (vr : ∀ r ∈ R, recB r = true) (hL : L.length ≤ 500000) (hR : R.length ≤ 500000) :
    ∃ h', CV 25 [ptr vb 0, v] h = some (.int .i64 0, h') ∧ IvH h' vb (merged L R) ∧ Kept h h' (· = vb) := by
  obtain ⟨h', e, i, k, _⟩ := r25B I x vr hL hR
  exact ⟨h', e, i, k⟩
theorem RcS.keepS {h h' : Heap} {v : Value} {P : List RecD} {c : Nat} (x : RcS h v P) (k : Kept h h' (· = c)) (hc : slB v ≠ some c) : RcS h' v P := by
  obtain ⟨hd, a, d, rfl, hn, ht, h0⟩ := x
  refine ⟨hd, a, d, rfl, hn, ht, fun hp => ?_⟩
  obtain ⟨b, off, s, q, rfl, hk, hlen, hcs⟩ := h0 hp
  refine ⟨b, off, s, q, rfl, k.getE hk (fun e => hc ?_), hlen, hcs⟩
  have e : b = c := e
  cases hP : P.length with
  | zero => rw [hP] at hp; exact absurd hp (Nat.lt_irrefl 0)
  | succ n => rw [e]; rfl
theorem IvH.keepS {h h' : Heap} {vb c : Nat} {L : List RecD} (x : IvH h vb L) (k : Kept h h' (· = c)) (hne : vb ≠ c) (hs : ∀ va, h.get vb = some [va] → slB va ≠ some c) : IvH h' vb L := by
  obtain ⟨va, h1, h2, h3⟩ := x.ex
  exact ⟨by rw [k.n0]; exact x.n0, ⟨va, k.getE h1 hne, h2.keepS k (hs va h1), h3⟩, x.vld, x.ks⟩
/-- Many records more. -/
theorem RLst.pushL {h : Heap} {N : Nat} {v w : Value} {L P : List RecD} (x : RLst h N v L) (y : RcS h w P) (h0 : h.n0 ≤ N) (hN : N ≤ h.next) (hl : L.length ≤ 1000000) (hp : P.length ≤ 1000000) :
    ∃ v' h', appendA 39 88 v w h = some (v', h') ∧ RLst h' N v' (L ++ P) ∧ Kept h h' (· = rlB v) ∧ (rlB v' = rlB v ∨ rlB v' = h.next) := by
  obtain ⟨hw, b, s, rfl, g1, g2, g3⟩ := x
  obtain ⟨hd, a, c, rfl, hn, ht, hy⟩ := y
  by_cases hz : P.length = 0
  · have hP : P = [] := List.length_eq_zero_iff.1 hz
    subst hP
    refine ⟨.slice (some ⟨b, 0, s⟩) L.length L.length, h, ?_, by rw [List.append_nil]; exact ⟨hw, b, s, rfl, g1, g2, g3⟩, Kept.refl _ _, .inl rfl⟩
    have hf : firstA 39 0 (.slice a 0 c) h = some [] := by
      unfold firstA
      cases a with
      | none => rfl
      | some a => obtain ⟨b', off, s'⟩ := a; rfl
    unfold appendA
    simp only [List.length_nil, lenA, hf]
    rw [if_neg (by simp [oneCells]; omega), if_pos (by omega), if_pos trivial]
  · obtain ⟨b', off, s', k, rfl, hk, hlen, hcs⟩ := hy (by omega)
    rw [show recK.length = 39 from rfl] at hlen hcs
    have cr := recsC_ok hd
    have lp := recsC_len hd
    have lc := recsC_len hw
    have ok := recsC_ok hw
    have hw' : ∀ q ∈ L ++ P, RecD.Wf q := fun q hq => by
      rcases List.mem_append.1 hq with h1 | h1
      · exact hw q h1
      · exact hd q h1
    have lT : (L ++ P).length = L.length + P.length := List.length_append
    have hne : L ++ P ≠ [] := fun e => by
      have := congrArg List.length e
      rw [lT, List.length_nil] at this
      omega
    have hf : firstA 39 P.length (.slice (some ⟨b', off, s'⟩) P.length c) h = some (recsC P) := by
      unfold firstA
      simp only
      rw [if_neg (by omega), hk]
      simp only
      rw [hcs, if_pos ⟨hlen, cr.1⟩]
    have hcond : (!(oneCells (recsC P)) || !(decide ((L.length + P.length) * 88 ≤ 140737488355328)) || !(decide (L.length + P.length ≤ 4611686018427387904)) || decide ((recsC P).length ≠ P.length * 39)) = false := by
      rw [cr.2, decide_eq_true (by omega : (L.length + P.length) * 88 ≤ 140737488355328), decide_eq_true (by omega : L.length + P.length ≤ 4611686018427387904), decide_eq_false (by rw [lp]; simp)]
      rfl
    have hfo : firstA 39 L.length (.slice (some ⟨b, 0, s⟩) L.length L.length) h = some (recsC L) := by
      unfold firstA
      simp only
      by_cases hz2 : L.length * 39 = 0
      · rw [if_pos hz2]
        rw [List.length_eq_zero_iff.1 (by omega : L.length = 0)]
        rfl
      · have e : ((recsC L).drop 0).take (L.length * 39) = recsC L := by rw [List.drop_zero, List.take_of_length_le (by omega)]
        rw [if_neg hz2, g1]
        simp only
        rw [e, if_pos ⟨by omega, ok.1⟩]
    have fin : ∀ g : Heap, N ≤ g.next → RLst (g.alloc (recsC L ++ recsC P)) N (.slice (some ⟨g.next, 0, some 39⟩) (L.length + P.length) (L.length + P.length)) (L ++ P) := fun g hg =>
      ⟨hw', g.next, some 39, by rw [lT], by rw [Heap.get_alloc, if_pos rfl, recsC_app], hg, .inr ⟨hne, rfl⟩⟩
    rcases g3 with ⟨_, rfl⟩ | ⟨_, rfl⟩
    · refine ⟨.slice (some ⟨h.next, 0, some 39⟩) (L.length + P.length) (L.length + P.length), h.alloc (recsC L ++ recsC P), ?_, fin h hN, (Kept.alloc _ _ _), .inr rfl⟩
      unfold appendA
      simp only [lenA, hf]
      rw [if_neg (by rw [hcond]; decide), if_neg (by omega)]
      simp only [hfo]
      rw [if_neg (by omega)]
    · refine ⟨.slice (some ⟨h.next, 0, some 39⟩) (L.length + P.length) (L.length + P.length), (h.kill b).alloc (recsC L ++ recsC P), ?_, fin (h.kill b) hN, ?_, .inr rfl⟩
      · unfold appendA
        simp only [lenA, hf]
        rw [if_neg (by rw [hcond]; decide), if_neg (by omega)]
        simp only [hfo]
        rw [if_neg (by omega), if_pos (by rw [g1]; simp; omega)]
      · refine ⟨rfl, by simp, fun q hq hb => ?_⟩
        rw [Heap.getB_alloc, Heap.next_kill, if_neg (by omega)]
        unfold Heap.kill
        rw [h.getB_put (by omega) (h.lt_of_get g1), if_neg (show ¬ q = b from hb)]
end Go.Proofs.YtdnahgfgoajmcaaDoor

namespace Go.Proofs.YtdnahgfgoajmcaaDoor
open Go Go.Abs
attribute [local congr] thenV_congr
theorem is15 : IsFn Tryd.prog 15 Tryd.f15 := ⟨by kernel_rfl, by kernel_rfl, by kernel_rfl, by kernel_rfl⟩
/-- own, as a list of one's own. -/
theorem r26L {h : Heap} (hG : 4 ≤ h.n0) {v : Value} {L : List RecD} (x : RcS h v L) (hl : L.length ≤ 1000000) : ∃ v' h', CW 26 [v] h = some (v', h') ∧ Old h h' ∧ RLst h' h.next v' L := by
  have o1 : Old h (h.alloc []) := Kept.alloc _ _ _
  have r0 : RLst (h.alloc []) h.next (.slice (some ⟨h.next, 0, none⟩) 0 0) [] := ⟨(fun _ h => by cases h), h.next, none, rfl, by rw [Heap.get_alloc, if_pos rfl]; rfl, Nat.le_refl _, .inl ⟨rfl, rfl⟩⟩
  obtain ⟨v', h', e, r, k, _⟩ := r0.pushL (x.mono o1) (by rw [o1.n0]; exact h.n0_le_next) o1.next (by decide) hl
  rw [List.nil_append] at r
  have b0 : bslR 39 (.agg #[(.int .u8 0), (.int .u8 0), (.int .u8 0), (.int .u8 0), (.int .u8 0), (.int .u8 0), (.int .u8 0), (.int .u8 0), (.int .u8 0), (.int .u8 0), (.int .u8 0), (.int .u8 0), (.int .u8 0), (.int .u8 0), (.int .u8 0), (.int .u8 0), (.int .u8 0), (.int .u8 0), (.int .u8 0), (.int .u8 0), (.int .u8 0), (.int .u8 0), (.int .u8 0), (.int .u8 0), (.int .u8 0), (.int .u8 0), (.int .u8 0), (.int .u8 0), (.int .u8 0), (.int .u8 0), (.int .u8 0), (.int .u8 0), (.int .u8 0), (.int .i64 0), (.int .u64 0), (.int .u64 0), (.bool false), (.int .i64 0), (.int .i64 0)]) 0 [] h = some (.slice (some ⟨h.next, 0, none⟩) 0 0, h.alloc []) := rfl
  refine ⟨v', h', CW_body is26 hG rfl ((t26_eq _ _ _).trans ?_), Old.of_new o1 k (Nat.le_refl _), r⟩
  unfold t26
  simp -implicitDefEqProofs only [b0, e, thenV_some, pu_some]
theorem merged_nil : merged [] [] = [] := List.eq_nil_of_length_eq_zero (by
  unfold merged
  simp only [List.append_nil]
  rw [(sortR_perm _).length_eq]
  rfl)
/-- load -/
theorem r15 {h : Heap} (hG : 4 ≤ h.n0) {v : Value} {L : List RecD} (x : RcS h v L) (vr : ∀ r ∈ L, recB r = true) (hl : L.length ≤ 500000) :
    ∃ vb h', CV 15 [v] h = some (.tuple #[ptr vb 0, .int .i64 0], h') ∧ IvH h' vb (merged [] L) ∧ Old h h' ∧ h.next ≤ vb := by
  have e1 := CV_up (f := 33) rfl (by decide) (r33 hG)
  have o1 : Old h (h.alloc [.slice none 0 0]) := Kept.alloc _ _ _
  have i1 : IvH (h.alloc [.slice none 0 0]) h.next [] := ⟨h.n0_le_next, ⟨.slice none 0 0, by rw [Heap.get_alloc, if_pos rfl], ⟨(fun _ h => by cases h), none, 0, rfl, fun _ => rfl, recsC_typed (P := []) (fun _ h => by cases h), fun h => absurd h (Nat.lt_irrefl 0)⟩, .inl rfl⟩, (fun _ h => by cases h), .nil⟩
  generalize h.alloc [.slice none 0 0] = h1 at *
  obtain ⟨v2, h2, e2, o2, r2⟩ := r26L (h := h1) (by rw [o1.n0]; exact hG) (x.mono o1) (by omega)
  have e2 := CV_up (f := 26) rfl (by decide) e2
  obtain ⟨h3, e3, i3, k3⟩ := r25 (i1.old o2) r2.rcs.rsl vr (by decide) hl
  refine ⟨h.next, h3, CV_body is15 hG rfl (by decide) ((t15_eq _ _ _).trans ?_), i3, Old.of_new (o1.trans o2) k3 (Nat.le_refl _), Nat.le_refl _⟩
  unfold t15
  simp -implicitDefEqProofs only [e1, nil25, e2, e3, thenV_some, pu_some]
theorem RLst.take {h : Heap} {N : Nat} {v : Value} {L : List RecD} (x : RLst h N v L) (hL : L ≠ []) {j : Nat} (hj : j ≤ L.length) : ∃ v', slR 39 v none (some (i64n j)) none = some v' ∧ RcS h v' (L.take j) := by
  obtain ⟨hw, b, s, rfl, g1, g2, g3⟩ := x
  rcases g3 with ⟨h1, _⟩ | ⟨_, rfl⟩
  · exact absurd h1 hL
  · have hd : ∀ p ∈ L.take j, RecD.Wf p := fun p hp => hw p (List.mem_of_mem_take hp)
    have hl := recsC_len hw
    have hlt := recsC_len hd
    have hlen : (L.take j).length = j := by rw [List.length_take]; omega
    have hcs : (recsC L).take (j * 39) = recsC (L.take j) := by
      have e : recsC L = recsC (L.take j) ++ recsC (L.drop j) := by rw [← recsC_app, List.take_append_drop]
      rw [e, List.take_left' (by rw [hlt, hlen])]
    refine ⟨.slice (some ⟨b, 0, some 39⟩) j L.length, ?_, hd, some ⟨b, 0, some 39⟩, L.length, by rw [hlen], (fun h => by cases h), recsC_typed hd, fun _ => ⟨b, 0, some 39, recsC L, rfl, g1, ?_, ?_⟩⟩
    · unfold slR sliceSl
      simp only [bnd_hi hj (Nat.le_refl _)]
      rw [if_pos ⟨True.intro, by decide⟩]
      rfl
    · rw [show recK.length = 39 from rfl, hl, hlen, Nat.zero_add]
      exact Nat.mul_le_mul_right _ hj
    · rw [show recK.length = 39 from rfl, List.drop_zero, hlen, hcs]
theorem RLst.drop {h : Heap} {N : Nat} {v : Value} {L : List RecD} (x : RLst h N v L) (hL : L ≠ []) {j : Nat} (hj : j ≤ L.length) : ∃ v', slR 39 v (some (i64n j)) none none = some v' ∧ RcS h v' (L.drop j) := by
  obtain ⟨hw, b, s, rfl, g1, g2, g3⟩ := x
  rcases g3 with ⟨h1, _⟩ | ⟨_, rfl⟩
  · exact absurd h1 hL
  · have hd : ∀ p ∈ L.drop j, RecD.Wf p := fun p hp => hw p (List.mem_of_mem_drop hp)
    have hl := recsC_len hw
    have hlt := recsC_len hd
    have hlen : (L.drop j).length = L.length - j := List.length_drop ..
    have hm : (L.length - j) * 39 = L.length * 39 - j * 39 := Nat.sub_mul ..
    have hjm : j * 39 ≤ L.length * 39 := Nat.mul_le_mul_right _ hj
    have hdt : (L.take j).length = j := by rw [List.length_take]; omega
    have hcs : (recsC L).drop (j * 39) = recsC (L.drop j) := by
      have e : recsC L = recsC (L.take j) ++ recsC (L.drop j) := by rw [← recsC_app, List.take_append_drop]
      rw [e, List.drop_left' (by rw [recsC_len fun p hp => hw p (List.mem_of_mem_take hp), hdt])]
    have hb : boundsA L.length L.length (some (i64n j)) none none = some (j, L.length, L.length) := by
      have a1 : boundA L.length L.length none = some L.length := rfl
      have a2 : boundA 0 L.length (some (i64n j)) = some j := by
        unfold boundA i64n
        simp only
        rw [if_pos (by omega)]
        rfl
      unfold boundsA
      simp only [a1, a2]
    refine ⟨.slice (some ⟨b, 0 + j * 39, some 39⟩) (L.length - j) (L.length - j), ?_, hd, some ⟨b, 0 + j * 39, some 39⟩, L.length - j, by rw [hlen], (fun h => by cases h), recsC_typed hd, fun _ => ⟨b, 0 + j * 39, some 39, recsC L, rfl, g1, ?_, ?_⟩⟩
    · unfold slR sliceSl
      simp only [hb]
      rw [if_pos ⟨True.intro, by decide⟩]
    · rw [show recK.length = 39 from rfl, hl, hlen]
      omega
    · rw [show recK.length = 39 from rfl, Nat.zero_add, hcs, hlen, List.take_of_length_le (by rw [hlt, hlen]; exact Nat.le_refl _)]
theorem RLst.keep2 {h h' : Heap} {N : Nat} {v w : Value} {L : List RecD} {c : Nat} (x : RLst h N v L) (k : Kept h h' (· = c)) (hc : h.get c = some [w]) : RLst h' N v L := by
  have hb := x.blk
  have hl := recsC_len x.1
  exact x.keep k (fun e => ne_len hb.2 hc (by omega) e)
end Go.Proofs.YtdnahgfgoajmcaaDoor

namespace Go.Proofs.YtdnahgfgoajmcaaDoor
open Go Go.Abs
attribute [local congr] thenV_congr
theorem merged_len (A B : List RecD) : (merged A B).length ≤ A.length + B.length := by
  have h1 := newest_len (A ++ B)
  rw [List.length_append] at h1
  have h2 := List.length_filter_le (keepR (newest (A ++ B))) (newest (A ++ B))
  show (sortR _).length ≤ _
  rw [(sortR_perm _).length_eq]
  omega
/-- A list that holds what is left of another. -/
def Is (T P : List RecD) : Prop := ∀ x, x ∈ T ↔ Nf P x
theorem Vld.app {A B : List RecD} (a : Vld A) (b : Vld B) : Vld (A ++ B) := fun r hr => by
  rcases List.mem_append.1 hr with h | h
  · exact a r h
  · exact b r h
theorem Is.merge {T P R : List RecD} (h : Is T P) (vT : Vld T) (vR : Vld R) : Is (merged T R) (P ++ R) := fun x => by
  rw [merged_mem (vT.app vR)]
  exact nf_nf h x
theorem Is.congr {T P Q : List RecD} (h : Is T P) (e : ∀ x, x ∈ P ↔ x ∈ Q) : Is T Q := fun x => by rw [h x]; exact Nf.congr e x
theorem Is.self {T P : List RecD} (h : Is T P) (vT : Vld T) : Is (merged T T) P := by
  refine (h.merge vT vT).congr fun x => ?_
  rw [List.mem_append]
  constructor
  · rintro (h1 | h1)
    · exact h1
    · exact ((h x).1 h1).1.1
  · exact .inl
theorem Is.nil : Is [] [] := fun x => ⟨(fun h => by cases h), (fun h => by cases h.1.1)⟩
theorem Is.uniq {A B P : List RecD} (ha : Is A P) (hb : Is B P) (ka : KS A) (kb : KS B) : A = B := ka.ext kb fun x => (ha x).trans (hb x).symm
theorem merged_is {L : List RecD} (v : Vld L) : Is (merged [] L) L := fun x => by
  have := merged_mem (A := []) (B := L) (by rw [List.nil_append]; exact v) x
  rw [List.nil_append] at this
  exact this
theorem rem_nat {i n : Nat} (h : 0 < n) : bin Tryd.prog .rem 3 (i64n i) (i64n n) = some (i64n (i % n)) := by
  rw [bin_int]
  show (if (n : Int) = 0 then none else some (Value.int .i64 ((i : Int).tmod n))) = _
  rw [if_neg (by omega)]
  congr 2
theorem rem_nat' {i n : Nat} {m : Int} (e : m = n) (h : 0 < n) : bin Tryd.prog .rem 3 (i64n i) (.int .i64 m) = some (i64n (i % n)) := by subst e; exact rem_nat h
theorem rem_int {z : Int} {n : Nat} (h : 0 < n) : bin Tryd.prog .rem 3 (.int .i64 z) (i64n n) = some (.int .i64 (z.tmod n)) := by
  rw [bin_int]
  show (if (n : Int) = 0 then none else some (Value.int .i64 (z.tmod n))) = _
  rw [if_neg (by omega)]
theorem RLst.weak {h : Heap} {N M : Nat} {v : Value} {L : List RecD} (x : RLst h N v L) (hm : M ≤ N) : RLst h M v L := by
  obtain ⟨hw, b, s, rfl, g1, g2, g3⟩ := x
  exact ⟨hw, b, s, rfl, g1, Nat.le_trans hm g2, g3⟩
/-- One record of a list, merged. -/
theorem un_merge {g : Heap} {c N j : Nat} {v : Value} {T L : List RecD} (I : IvH g c T) (rl : RLst g N v L) (hj : j < L.length) (vL : ∀ r ∈ L, recB r = true) (lT : T.length ≤ 500000) :
    ∃ b o g2, idxS 39 v (i64n j) = some (ptr b o) ∧ ldN 39 (ptr b o) g = some (recV L[j], g) ∧ bslR 39 (.agg #[(.int .u8 0), (.int .u8 0), (.int .u8 0), (.int .u8 0), (.int .u8 0), (.int .u8 0), (.int .u8 0), (.int .u8 0), (.int .u8 0), (.int .u8 0), (.int .u8 0), (.int .u8 0), (.int .u8 0), (.int .u8 0), (.int .u8 0), (.int .u8 0), (.int .u8 0), (.int .u8 0), (.int .u8 0), (.int .u8 0), (.int .u8 0), (.int .u8 0), (.int .u8 0), (.int .u8 0), (.int .u8 0), (.int .u8 0), (.int .u8 0), (.int .u8 0), (.int .u8 0), (.int .u8 0), (.int .u8 0), (.int .u8 0), (.int .u8 0), (.int .i64 0), (.int .u64 0), (.int .u64 0), (.bool false), (.int .i64 0), (.int .i64 0)]) 1 [(0, recV L[j])] g = some (.slice (some ⟨g.next, 0, none⟩) 1 1, g.alloc (recC L[j])) ∧
      CV 25 [ptr c 0, .slice (some ⟨g.next, 0, none⟩) 1 1] (g.alloc (recC L[j])) = some (.int .i64 0, g2) ∧ IvH g2 c (merged T [L[j]]) ∧ Kept g g2 (· = c) := by
  obtain ⟨b, o, ix, wr, mr, lp⟩ := rl.rcs.rsl.at hj
  have e : L.getD j RecD.z = L[j] := by rw [List.getD_eq_getElem?_getD, List.getElem?_eq_getElem hj]; rfl
  rw [e] at wr mr lp
  have oa : Old g (g.alloc (recC L[j])) := Kept.alloc _ _ _
  have R1 : RcS (g.alloc (recC L[j])) (.slice (some ⟨g.next, 0, none⟩) 1 1) [L[j]] := RcS.of_blk (fun p hp => by rw [List.mem_singleton.1 hp]; exact wr) rfl (by rw [recsC_one, Heap.get_alloc, if_pos rfl])
  obtain ⟨g2, e2, i2, k2⟩ := r25 (I.old oa) R1.rsl (fun r hr => by rw [List.mem_singleton.1 hr]; exact vL _ mr) lT (by simp)
  exact ⟨b, o, g2, ix, lp g (Kept.refl _ _), bsl_rec wr g, e2, i2, (Kept.mono oa (fun _ _ h => h.elim)).trans k2⟩
/-- An inventory merged with its own records. -/
theorem un_self {g : Heap} {c : Nat} {T : List RecD} (hG : 4 ≤ g.n0) (I : IvH g c T) (lT : T.length ≤ 500000) :
    ∃ w g3 g4, CV 23 [ptr c 0] g = some (w, g3) ∧ CV 25 [ptr c 0, w] g3 = some (.int .i64 0, g4) ∧ IvH g4 c (merged T T) ∧ Kept g g4 (· = c) := by
  obtain ⟨va, gv, ra, na⟩ := I.ex
  obtain ⟨w, g3, e3, o3, r3⟩ := r23 hG gv ra na (by omega)
  obtain ⟨g4, e4, i4, k4⟩ := r25 (I.old o3) r3 (fun r hr => (I.vld r hr).2) lT lT
  exact ⟨w, g3, g4, CV_up (f := 23) rfl (by decide) e3, e4, i4, (Kept.mono o3 (fun _ _ h => h.elim)).trans k4⟩
/-- A list without one of its records. -/
theorem un_cut {g : Heap} {N j : Nat} {v : Value} {L : List RecD} (hG : 4 ≤ g.n0) (hN : N ≤ g.next) (rl : RLst g N v L) (hj : j < L.length) (hl : L.length ≤ 1000000) :
    ∃ va vo vd v' g5 g6, slR 39 v none (some (i64n j)) none = some va ∧ CV 26 [va] g = some (vo, g5) ∧ slR 39 v (some (i64n (j + 1))) none none = some vd ∧ appendA 39 88 vo vd g5 = some (v', g6) ∧ RLst g6 N v' (L.take j ++ L.drop (j + 1)) ∧ Old g g6 := by
  have hne : L ≠ [] := fun e => by rw [e] at hj; exact absurd hj (Nat.not_lt_zero j)
  obtain ⟨va, e1, r1⟩ := rl.take hne (Nat.le_of_lt hj)
  obtain ⟨vd, e2, r2⟩ := rl.drop hne (j := j + 1) hj
  obtain ⟨vo, g5, e3, o3, r3⟩ := r26L hG r1 (by rw [List.length_take]; omega)
  obtain ⟨v', g6, e4, r4, k4, _⟩ := r3.pushL (r2.mono o3) (by rw [o3.n0]; exact g.n0_le_next) o3.next (by rw [List.length_take]; omega) (by rw [List.length_drop]; omega)
  have hb := r3.blk
  exact ⟨va, vo, vd, v', g5, g6, e1, CV_up (f := 26) rfl (by decide) e3, e2, e4, r4.weak hN, o3.also k4 (fun d hd q => by
    have : d = rlB vo := q
    omega)⟩
theorem mem_cut {α : Type} {L : List α} {j : Nat} (hj : j < L.length) (x : α) : x ∈ L ↔ x = L[j] ∨ x ∈ L.take j ++ L.drop (j + 1) := by
  have e : L = L.take j ++ L[j] :: L.drop (j + 1) := by
    rw [← List.drop_eq_getElem_cons hj, List.take_append_drop]
  constructor
  · intro h
    rw [e, List.mem_append, List.mem_cons] at h
    rcases h with h | h | h
    · exact .inr (List.mem_append_left _ h)
    · exact .inl h
    · exact .inr (List.mem_append_right _ h)
  · rintro (h | h)
    · rw [h]; exact List.getElem_mem hj
    · rcases List.mem_append.1 h with h | h
      · exact List.mem_of_mem_take h
      · exact List.mem_of_mem_drop h
/-- The inventory of all lists, one after another. -/
def mergeAll (Ls : List (List RecD)) : List RecD := Ls.foldl merged []
theorem right_vld {Ls : List (List RecD)} (h : rightB Ls = true) : Ls.length ≤ 40 ∧ (∀ L ∈ Ls, L.length ≤ 120 ∧ ∀ r ∈ L, recB r = true) ∧ Ls.flatten.length ≤ 120 := by
  unfold rightB at h
  simp only [Bool.and_eq_true, decide_eq_true_eq, List.all_eq_true] at h
  exact ⟨h.1.1, fun L hL => ⟨(h.1.2 L hL).1, (h.1.2 L hL).2⟩, h.2⟩
theorem mergeAll_len (Ls : List (List RecD)) : (mergeAll Ls).length ≤ Ls.flatten.length := by
  have key : ∀ (Ls : List (List RecD)) (S : List RecD), (Ls.foldl merged S).length ≤ S.length + Ls.flatten.length := by
    intro Ls
    induction Ls with
    | nil => intro S; simp
    | cons L Ls ih =>
      intro S
      have h1 := ih (merged S L)
      have h2 := merged_len S L
      rw [List.foldl_cons, List.flatten_cons, List.length_append]
      omega
  have := key Ls []
  rw [List.length_nil, Nat.zero_add] at this
  exact this
theorem mergeAll_take {Ls : List (List RecD)} {i : Nat} (hi : i < Ls.length) : mergeAll (Ls.take (i + 1)) = merged (mergeAll (Ls.take i)) Ls[i] := by
  unfold mergeAll
  rw [List.take_succ_eq_append_getElem hi, List.foldl_append]
  rfl
theorem flat_take {Ls : List (List RecD)} {i : Nat} (hi : i < Ls.length) : (Ls.take (i + 1)).flatten = (Ls.take i).flatten ++ Ls[i] := by
  rw [List.take_succ_eq_append_getElem hi, List.flatten_append]
  simp
end Go.Proofs.YtdnahgfgoajmcaaDoor

namespace Go.Proofs.YtdnahgfgoajmcaaDoor
open Go Go.Abs
attribute [local congr] thenV_congr
theorem is68 : IsFn Tryd.prog 68 Tryd.f68 := ⟨by kernel_rfl, by kernel_rfl, by kernel_rfl, by kernel_rfl⟩
theorem is120 : IsFn Tryd.prog 120 Tryd.f120 := ⟨by kernel_rfl, by kernel_rfl, by kernel_rfl, by kernel_rfl⟩
theorem is28 : IsFn Tryd.prog 28 Tryd.f28 := ⟨by kernel_rfl, by kernel_rfl, by kernel_rfl, by kernel_rfl⟩
theorem is29 : IsFn Tryd.prog 29 Tryd.f29 := ⟨by kernel_rfl, by kernel_rfl, by kernel_rfl, by kernel_rfl⟩
theorem results120 : Tryd.f120.results.toList = [] := by kernel_rfl
theorem results28 : Tryd.f28.results.toList = [.cell 4 4] := by kernel_rfl
theorem results29 : Tryd.f29.results.toList = [.cell 4 32] := by kernel_rfl
theorem body120 : hasBody Tryd.prog 120 = true := by kernel_rfl
/-- each -/
theorem r68 {h : Heap} (hG : 4 ≤ h.n0) (vb kd : Nat) : CW 68 [ptr vb 0, .int .u8 (kd : Int)] h = some (.func (.func 120) #[] #[ptr h.next 0, ptr (h.next + 1) 0], (h.alloc [ptr vb 0]).alloc [.int .u8 (kd : Int)]) := by
  have b1 : box (ptr vb 0) h = some (ptr h.next 0, h.alloc [ptr vb 0]) := rfl
  have b2 : box (.int .u8 (kd : Int)) (h.alloc [ptr vb 0]) = some (ptr (h.next + 1) 0, (h.alloc [ptr vb 0]).alloc [.int .u8 (kd : Int)]) := rfl
  refine CW_body is68 hG rfl ((t68_eq _ _ _ _).trans ?_)
  unfold t68
  simp -implicitDefEqProofs only [b1, b2, thenV_some, pu_some]
theorem u8_eqn (n k : Nat) : ((n : Int) == k) = decide (n = k) := by
  by_cases h : n = k
  · subst h; simp
  · rw [decide_eq_false h, beq_eq_false_iff_ne]
    omega
theorem b120_3e (C : CallF) (e : Env) (h : Heap) : b120_3 C 0 e h = resultsA Tryd.prog Tryd.f120.results.toList e h := rfl
set_option maxRecDepth 100000 in
/-- The iterator of each: the yield function is called with the records of the kind, in their order. -/
theorem r120 {h : Heap} (hG : 4 ≤ h.n0) {L c1 c2 vb kd : Nat} {va : Value} {R : List RecD} (hR : R.length ≤ 1000000) (Inv : Nat → Heap → Prop) (Fn : Heap → Prop)
    (hread : ∀ j g, Inv j g → ld1 (ptr c1 0) g = some (ptr vb 0, g) ∧ ld1 (ptr c2 0) g = some (.int .u8 (kd : Int), g) ∧ ld1 (ptr vb 0) g = some (va, g) ∧ RSl g va R)
    (hold : ∀ j g g', Inv j g → Old g g' → Inv j g')
    (hskip : ∀ j g (hj : j < R.length), R[j].kind ≠ kd → Inv j g → Inv (j + 1) g)
    (hstep : ∀ j g (hj : j < R.length), R[j].kind = kd → Inv j g → ∃ b g', CW (yid Tryd.prog L) [recV R[j]] g = some (.bool b, g') ∧ (b = true → Inv (j + 1) g') ∧ (b = false → Fn g')) (h0 : Inv 0 h) :
    ∃ h', CW 120 [.func (.yield L) #[] #[], ptr c1 0, ptr c2 0] h = some (.tuple #[], h') ∧ (Inv R.length h' ∨ Fn h') := by
  have key : ∃ o : Out, t120 CW (.func (.yield L) #[] #[]) (ptr c1 0) (ptr c2 0) h = o ∧ ∃ h', o = some (.tuple #[], h') ∧ (Inv R.length h' ∨ Fn h') := by
    refine ⟨_, rfl, ?_⟩
    unfold t120
    obtain ⟨q1, q2, q3, q4⟩ := hread _ _ h0
    have hll := q4.len
    have nc : nilCheckA (ptr vb 0) = some (ptr vb 0) := rfl
    simp -implicitDefEqProofs only [q1, nil25, nc, addP_ptr, Nat.zero_add, q3, hll, thenV_some, pu_some]
    refine endL_fin (n := 28) (fin := fun ex y g => (ex = .exit 0 ∧ Inv R.length g) ∨ (ex = .ret ∧ Fn g)) (Q := fun o : Out => ∃ h', o = some (.tuple #[], h') ∧ (Inv R.length h' ∨ Fn h'))
      (loop_fin (t120l120_110_eq CW) (Inv := fun k y g => ∃ i, i + k = R.length ∧ y 0 = .func (.yield L) #[] #[] ∧ y 2 = ptr c2 0 ∧ y 11 = va ∧ y 12 = i64n R.length ∧ y 13 = i64n i ∧ Inv i g) ?_ R.length (by have : rounds = 18446744073709551616 := rfl; omega) ⟨0, by omega, rfl, rfl, rfl, rfl, rfl, h0⟩) ?_
    · rintro k y g ⟨i, hik, y0, y2, y11, y12, y13, hi⟩
      unfold t120l120_110
      simp -implicitDefEqProofs only [y12, y13, lss3, thenV_some, pu_some]
      by_cases hlt : i < R.length
      · obtain ⟨_, _, _, P1⟩ := hread _ _ hi
        obtain ⟨b, o, ix, wr, mr, lp⟩ := P1.at hlt
        have er : R.getD i RecD.z = R[i] := by rw [List.getD_eq_getElem?_getD, List.getElem?_eq_getElem hlt]; rfl
        rw [er] at wr mr lp
        have L1 := lp g (Kept.refl _ _)
        obtain ⟨g1, g2, e1, e2, o2, gg⟩ := rec_var g wr
        have hi2 := hold _ _ _ hi o2
        obtain ⟨_, l2, _, _⟩ := hread _ _ hi2
        have A := r_ld wr gg
        have a13 : bin Tryd.prog .add 3 (i64n i) (.int .i64 1) = some (i64n (i + 1)) := add31 (by omega)
        by_cases hk : R[i].kind = kd
        · obtain ⟨bb, g3, e3, s1, s2⟩ := hstep i g2 hlt hk hi2
          have e3' : callA Tryd.prog CW (.func (.yield L) #[] #[]) [recV R[i]] g2 = some (.bool bb, g3) := e3
          simp -implicitDefEqProofs only [decide_eq_true hlt, y0, y2, y11, ix, L1, e1, e2, addP_ptr, Nat.zero_add, A.l0, l2, bin_eql, u8_eqn, decide_eq_true hk, show (bOf (.bool true) == some true) = true from rfl, guardK_true, A.all, e3', unA_not, if_true, thenV_some, pu_some]
          cases bb with
          | true =>
            simp -implicitDefEqProofs only [Bool.not_true, y13, a13, thenV_some, pu_some]
            exact Rnd.next (k - 1) (by omega) ⟨i + 1, by omega, y0, y2, y11, y12, rfl, s1 rfl⟩
          | false =>
            simp -implicitDefEqProofs only [Bool.not_false]
            exact Rnd.ret (.inr ⟨rfl, s2 rfl⟩)
        · have hs := hskip i g2 hlt hk hi2
          simp -implicitDefEqProofs only [decide_eq_true hlt, y0, y2, y11, ix, L1, e1, e2, addP_ptr, Nat.zero_add, A.l0, l2, bin_eql, u8_eqn, decide_eq_false hk, show (bOf (.bool false) == some true) = false from rfl, guardK_false, Bool.false_eq_true, if_false, y13, a13, thenV_some, pu_some]
          exact Rnd.next (k - 1) (by omega) ⟨i + 1, by omega, y0, y2, y11, y12, rfl, hs⟩
      · have hE : i = R.length := by omega
        subst hE
        simp -implicitDefEqProofs only [decide_eq_false hlt, thenV_some]
        exact Rnd.out 0 (.inl ⟨rfl, hi⟩)
    · rintro ex z g (⟨rfl, hi⟩ | ⟨rfl, hf⟩)
      · simp -implicitDefEqProofs only [endL_exit, b120_3e]
        rw [results120]
        exact ⟨g, rfl, .inl hi⟩
      · rw [endL_ret, results120]
        exact ⟨g, rfl, .inr hf⟩
  obtain ⟨o9, e, h', e', q⟩ := key
  exact ⟨h', CW_body is120 hG rfl ((t120_eq _ _ _ _ _).trans (e.trans e')), q⟩
theorem take_find {R : List RecD} {Q : RecD → Bool} {j : Nat} (hj : j < R.length) (h : (R.take j).find? Q = none) : (Q R[j] = false → (R.take (j + 1)).find? Q = none) ∧ (Q R[j] = true → R.find? Q = some R[j]) := by
  constructor
  · intro hq
    rw [List.take_succ_eq_append_getElem hj, List.find?_append, h]
    rw [List.find?_cons_of_neg (by rw [hq]; decide)]
    rfl
  · intro hq
    have e : R = R.take j ++ R[j] :: R.drop (j + 1) := by rw [← List.drop_eq_getElem_cons hj, List.take_append_drop]
    conv => lhs; rw [e]
    rw [List.find?_append, h, List.find?_cons_of_pos hq]
    rfl
set_option maxRecDepth 100000 in
/-- A search over the records of a kind, by a loop that returns from within. -/
theorem each_find {c : Code} {n : Nat} (h5 : 9 ≤ n) (hc0 : c = .rangeFunc (.tmp 7) #[8] (rgA c) (rgB c)) (oa : codeOk Tryd.prog (rgA c) = true) (ob : codeOk Tryd.prog (rgB c) = true)
    (hA : ∀ x g, codeA Tryd.prog CW (rgA c) (mkF n x) g = thenV (newC zrC g) fun y5 g => thenV (stN 39 y5 (x 8) g) fun _ g => some (.normal, mkF n (up x [(5, y5)]), g))
    {p : RecD → Bool} {val : RecD → Value} {ab rb : Nat} {A : List Value} {v0 : Value}
    (hB : ∀ (x : Nat → Value) (g : Heap) (r : RecD) (q5 : Nat), r.Wf → 4 ≤ g.n0 → g.n0 ≤ rb → x 5 = ptr q5 0 → x 3 = ptr ab 0 → x 4 = ptr rb 0 → g.get q5 = some (recC r) → g.get ab = some A → g.get rb = some [v0] →
      (p r = false → ∃ y g', codeA Tryd.prog CW (rgB c) (mkF n x) g = some (.normal, y, g') ∧ Old g g') ∧ (p r = true → ∃ y g', codeA Tryd.prog CW (rgB c) (mkF n x) g = some (.ret, y, g') ∧ Kept g g' (· = rb) ∧ g'.get rb = some [val r]))
    {h0 h : Heap} (hG : 4 ≤ h0.n0) (O : Old h0 h) {vb c1 c2 kd : Nat} {va : Value} {R : List RecD} (hR : R.length ≤ 1000000) (gv : h0.get vb = some [va]) (hva : isHole va = false) (RS : RSl h0 va R)
    (hrb : h0.next ≤ rb) (g1 : h.get c1 = some [ptr vb 0]) (g2 : h.get c2 = some [.int .u8 (kd : Int)]) (ga : h.get ab = some A) (gr : h.get rb = some [v0]) (n1 : c1 ≠ rb) (n2 : c2 ≠ rb) (n3 : ab ≠ rb)
    {x : Nat → Value} (x3 : x 3 = ptr ab 0) (x4 : x 4 = ptr rb 0) (x7 : x 7 = .func (.func 120) #[] #[ptr c1 0, ptr c2 0]) :
    ∃ h', Kept h h' (· = rb) ∧ ((codeA Tryd.prog CW c (mkF n x) h = some (.normal, mkF n x, h') ∧ R.find? (fun r => decide (r.kind = kd) && p r) = none ∧ h'.get rb = some [v0]) ∨
      (codeA Tryd.prog CW c (mkF n x) h = some (.ret, mkF n x, h') ∧ ∃ r, R.find? (fun r => decide (r.kind = kd) && p r) = some r ∧ h'.get rb = some [val r])) := by
  generalize hca : rgA c = ca at *
  generalize hcb : rgB c = cb at *
  generalize hQ : (fun r : RecD => decide (r.kind = kd) && p r) = Q
  have hGh : 4 ≤ h.n0 := by rw [O.n0]; exact hG
  have Lp0 := LpR.new h (mkF n x) [8] ca cb
  have k0 : Old h (h.allocB (.obj (.loop .ready none (mkF n x) [8] ca cb))) := Kept.allocO _ _ _
  have hrbn := h.lt_of_get gr
  have h1n := h.lt_of_get g1
  have h2n := h.lt_of_get g2
  have han := h.lt_of_get ga
  have hvn := h0.lt_of_get gv
  have hOn := O.next
  have n0rb : h.n0 ≤ rb := by rw [O.n0]; exact Nat.le_trans h0.n0_le_next hrb
  generalize hh1 : h.allocB (.obj (.loop .ready none (mkF n x) [8] ca cb)) = h1 at *
  have hn1 : h1.next = h.next + 1 := by rw [← hh1]; rfl
  obtain ⟨h2, e2, hres⟩ := r120 (h := h1) (by rw [k0.n0]; exact hGh) (L := h.next) (c1 := c1) (c2 := c2) (vb := vb) (kd := kd) (va := va) (R := R) hR
    (fun j g => Kept h g (fun b => b = rb ∨ b = h.next) ∧ LpR g h.next (mkF n x) [8] ca cb ∧ h1.next ≤ g.next ∧ g.get rb = some [v0] ∧ (R.take j).find? Q = none)
    (fun g => Kept h g (fun b => b = rb ∨ b = h.next) ∧ LpD g h.next (mkF n x) [8] ca cb ∧ h1.next ≤ g.next ∧ ∃ r, R.find? Q = some r ∧ g.get rb = some [val r])
    (fun j g ⟨K, _, _, _, _⟩ => by
      have Og : Old h0 g := O.also K (fun d hd q => by rcases q with q | q <;> omega)
      refine ⟨ld1_at (K.getE g1 (fun q => by rcases q with q | q; exact n1 q; omega)) rfl rfl, ld1_at (K.getE g2 (fun q => by rcases q with q | q; exact n2 q; omega)) rfl rfl, ld1_at (Old.get Og gv) rfl hva, RS.mono Og⟩)
    (fun j g g' ⟨K, R1, hn, gg, hf⟩ o => ⟨K.trans (o.mono (fun _ _ h => h.elim)), R1.keep o (fun h => h), Nat.le_trans hn o.next, Old.get o gg, hf⟩)
    (fun j g hj hk ⟨K, R1, hn, gg, hf⟩ => ⟨K, R1, hn, gg, (take_find hj hf).1 (by rw [← hQ]; simp [hk])⟩)
    (fun j g hj hk ⟨K, R1, hn, gg, hf⟩ => by
      have G : 4 ≤ g.n0 := by rw [K.n0]; exact hGh
      have wr : R[j].Wf := RS.2.1 _ (List.getElem_mem hj)
      have hq : Q R[j] = p R[j] := by rw [← hQ]; simp [hk]
      have tf := take_find hj hf
      rw [hq] at tf
      generalize R[j] = r at *
      obtain ⟨g3, g4, z3, e4, o4, g4'⟩ := rec_var g wr
      have ha : codeA Tryd.prog CW ca (putAll (mkF n x) ([8].zip [recV r])) g = some (.normal, mkF n (up (up x [(8, recV r)]) [(5, ptr g.next 0)]), g4) := by
        show codeA Tryd.prog CW ca ((mkF n x).set 8 (recV r)) g = _
        rw [mkF_set, hA]
        have y8 : up x [(8, recV r)] 8 = recV r := rfl
        simp -implicitDefEqProofs only [y8, z3, e4, thenV_some, pu_some]
      have R4 : LpR g4 h.next (mkF n x) [8] ca cb := R1.keep o4 (fun h => h)
      have R4' := R4
      unfold LpR at R4'
      have kS : Kept g4 (g4.setO h.next (.loop .busy none (mkF n x) [8] ca cb)) (· = h.next) := Go.Abs.Kept.setO R4' rfl
      have gS : ∀ b, (g4.setO h.next (.loop .busy none (mkF n x) [8] ca cb)).get b = g4.get b := fun b => Heap.get_setO R4' _ b
      generalize hg5 : g4.setO h.next (.loop .busy none (mkF n x) [8] ca cb) = g5 at *
      have G5 : 4 ≤ g5.n0 := by rw [kS.n0, o4.n0]; exact G
      have q5 : g5.get g.next = some (recC r) := (gS _).trans g4'
      have qr : g5.get rb = some [v0] := (gS _).trans (Old.get o4 gg)
      have qa : g5.get ab = some A := (gS _).trans (Old.get o4 (K.getE ga (fun q => by rcases q with q | q; exact n3 q; omega)))
      obtain ⟨B1, B2⟩ := hB (up (up x [(8, recV r)]) [(5, ptr g.next 0)]) g5 r g.next wr G5 (by rw [kS.n0, o4.n0, K.n0]; exact n0rb) rfl x3 x4 q5 qa qr
      have ho4 := o4.next
      have hk5 := kS.next
      cases hp : p r with
      | false =>
        obtain ⟨y6, g6, eb, o6⟩ := B1 hp
        obtain ⟨g8, e8, R8, n8, m8, s8, b8⟩ := LpR.round (B := fun _ => False) R1 rfl oa ob ha o4 (fun h => h) (by rw [hg5]; exact eb) (by rw [hg5]; exact o6)
        have ho6 := o6.next
        have K8 : Kept g g8 (fun b => b = rb ∨ b = h.next) := by
          refine ⟨m8, by omega, fun b hb hq => ?_⟩
          have q2 : ¬ b = h.next := fun q => hq (.inr q)
          rw [b8 b q2, o6.getB b (by omega) (fun h => h), kS.getB b (by omega) q2]
          exact Kept.getB o4 b hb (fun h => h)
        exact ⟨true, g8, CW_yield G e8, fun _ => ⟨K.trans K8, R8, by omega, (s8 rb).trans (Old.get o6 qr), tf.1 hp⟩, fun h => by cases h⟩
      | true =>
        obtain ⟨y6, g6, eb, k6, g6r⟩ := B2 hp
        obtain ⟨g8, e8, R8, n8, m8, s8, b8⟩ := LpR.round_ret (B := (· = rb)) R1 rfl oa ob ha (o4.mono (fun _ _ h => h.elim)) (show ¬ h.next = rb by omega) (by rw [hg5]; exact eb) (by rw [hg5]; exact k6)
        have ho6 := k6.next
        have K8 : Kept g g8 (fun b => b = rb ∨ b = h.next) := by
          refine ⟨m8, by omega, fun b hb hq => ?_⟩
          have q1 : ¬ b = rb := fun q => hq (.inl q)
          have q2 : ¬ b = h.next := fun q => hq (.inr q)
          rw [b8 b q2, k6.getB b (by omega) q1, kS.getB b (by omega) q2]
          exact Kept.getB o4 b hb (fun h => h)
        exact ⟨false, g8, CW_yield G e8, (fun h => by cases h), fun _ => ⟨K.trans K8, R8, by omega, r, tf.2 hp, (s8 rb).trans g6r⟩⟩)
    ⟨k0.mono (fun _ _ h => h.elim), Lp0, Nat.le_refl _, Old.get k0 gr, by simp⟩
  have hv : ev (mkF n x) (.tmp 7) = .func (.func 120) #[] #[ptr c1 0, ptr c2 0] := (ev_mkF (by omega) x).trans x7
  have run : codeA Tryd.prog CW c (mkF n x) h = endLoopA h.next (mkF n x) h2 := by
    refine code_range (v := .tuple #[]) (h2 := h2) (ps := #[8]) (by rw [hca, hcb]; exact hc0) hv body120 ?_
    rw [hca, hcb]
    show CW 120 [.func (.yield h.next) #[] #[], ptr c1 0, ptr c2 0] (h.allocB (.obj (.loop .ready none (mkF n x) [8] ca cb))) = _
    rw [hh1]
    exact e2
  have kfin : ∀ h3, Kept h h2 (fun b => b = rb ∨ b = h.next) → Kept h2 h3 (· = h.next) → Kept h h3 (· = rb) := fun h3 K k3 =>
    ⟨k3.n0.trans K.n0, Nat.le_trans K.next k3.next, fun b hb hq => by
      rw [k3.getB b (by have := K.next; omega) (by omega), K.getB b hb (fun q => by rcases q with q | q; exact hq q; omega)]⟩
  rcases hres with ⟨K, R2, hn, gg, hf⟩ | ⟨K, R2, hn, r, hf, gg⟩
  · obtain ⟨h3, e3, k3, _⟩ := R2.fin (e0 := mkF n x)
    rw [List.take_length] at hf
    exact ⟨h3, kfin h3 K k3, .inl ⟨run.trans e3, hf, k3.getE gg (by omega)⟩⟩
  · obtain ⟨h3, e3, k3, _⟩ := R2.fin (e0 := mkF n x)
    exact ⟨h3, kfin h3 K k3, .inr ⟨run.trans e3, r, hf, k3.getE gg (by omega)⟩⟩
theorem ld_one {t z : Nat} (h1 : aggT Tryd.prog t = some false) (h2 : sizeT Tryd.prog t = some z) (v : Value) (h : Heap) : ld Tryd.prog t v h = ld1 v h := by
  unfold ld
  rw [h1, h2]
theorem res_cell1 {rs : List ResultVar} {n k t z : Nat} (hr : rs = [.cell k t]) (h1 : aggT Tryd.prog t = some false) (h2 : sizeT Tryd.prog t = some z) (hk : k < n) (x : Nat → Value) {h : Heap} {v : Value} (e : ld1 (x k) h = some (v, h)) : resultsA Tryd.prog rs (mkF n x) h = some (v, h) := by
  subst hr
  simp only [resultsA, resultA, getD_mkF hk, ld_one h1 h2, e]
  rfl
theorem agg4 : aggT Tryd.prog 4 = some false := by kernel_rfl
theorem siz4' : sizeT Tryd.prog 4 = some 1 := by kernel_rfl
theorem siz32' : sizeT Tryd.prog 32 = some 1 := by kernel_rfl
theorem agg32 : aggT Tryd.prog 32 = some false := by kernel_rfl
theorem rng28 : partOf Tryd.f28 [1, 0, 1, 0] = .rangeFunc (.tmp 7) #[8] (rgA (partOf Tryd.f28 [1, 0, 1, 0])) (rgB (partOf Tryd.f28 [1, 0, 1, 0])) := by kernel_rfl
theorem rng28a : codeOk Tryd.prog (rgA (partOf Tryd.f28 [1, 0, 1, 0])) = true := by kernel_rfl
theorem rng28b : codeOk Tryd.prog (rgB (partOf Tryd.f28 [1, 0, 1, 0])) = true := by kernel_rfl
theorem rng29 : partOf Tryd.f29 [1, 0, 1, 0] = .rangeFunc (.tmp 7) #[8] (rgA (partOf Tryd.f29 [1, 0, 1, 0])) (rgB (partOf Tryd.f29 [1, 0, 1, 0])) := by kernel_rfl
theorem rng29a : codeOk Tryd.prog (rgA (partOf Tryd.f29 [1, 0, 1, 0])) = true := by kernel_rfl
theorem rng29b : codeOk Tryd.prog (rgB (partOf Tryd.f29 [1, 0, 1, 0])) = true := by kernel_rfl
theorem endN_n {α : Type} (e : Env) (h : Heap) (n r : Env → Heap → Option α) (x : Nat → Env → Heap → Option α) : endN (some (.normal, e, h)) n r x = n e h := rfl
theorem endN_r {α : Type} (e : Env) (h : Heap) (n r : Env → Heap → Option α) (x : Nat → Env → Heap → Option α) : endN (some (.ret, e, h)) n r x = r e h := rfl
theorem hole_nil {v : Value} (h : nilOk v) : isHole v = false := by rcases h with rfl | ⟨a, n, c, rfl⟩ <;> rfl
/-- What Buried tells. -/
def buriedB (R : List RecD) (o : List Nat) : Bool := (R.find? fun r => decide (r.kind = 2) && decide (r.obj = o)).isSome
set_option maxRecDepth 100000 in
/-- Buried -/
theorem r28 {h : Heap} (hG : 4 ≤ h.n0) {vb : Nat} {va : Value} {R : List RecD} (gv : h.get vb = some [va]) (RS : RSl h va R) (hn : nilOk va) (hR : R.length ≤ 1000000) {o : List Nat} (ho : D32 o) :
    ∃ h', CW 28 [ptr vb 0, .agg (u8s o).toArray] h = some (.bool (buriedB R o), h') ∧ Old h h' := by
  have dc := dig_cells ho
  have b1 := box_at h (u8s o) dc.2.2
  have o1 : Old h (h.alloc (u8s o)) := Kept.alloc _ _ _
  have g1 : (h.alloc (u8s o)).get h.next = some (u8s o) := by rw [Heap.get_alloc, if_pos rfl]
  have n1 : (h.alloc (u8s o)).next = h.next + 1 := rfl
  generalize h.alloc (u8s o) = h1 at *
  obtain ⟨h2, z2, o2, g2, n2⟩ := fresh [.bool false] h1
  rw [n1] at z2 g2 n2
  have e3 := r68 (h := h2) (by rw [o2.n0, o1.n0]; exact hG) vb 2
  rw [n2] at e3
  have e3 : CW 68 [ptr vb 0, .int .u8 2] h2 = _ := e3
  have o3 : Old h2 ((h2.alloc [ptr vb 0]).alloc [.int .u8 ((2 : Nat) : Int)]) := (Kept.alloc _ _ _ : Old h2 (h2.alloc [ptr vb 0])).trans (Kept.alloc _ _ _)
  have q1 : ((h2.alloc [ptr vb 0]).alloc [.int .u8 ((2 : Nat) : Int)]).get (h.next + 1 + 1) = some [ptr vb 0] := by
    rw [Heap.get_alloc, Heap.next_alloc, if_neg (by omega), Heap.get_alloc, if_pos (by omega)]
  have q2 : ((h2.alloc [ptr vb 0]).alloc [.int .u8 ((2 : Nat) : Int)]).get (h.next + 1 + 1 + 1) = some [.int .u8 ((2 : Nat) : Int)] := by
    rw [Heap.get_alloc, Heap.next_alloc, if_pos (by omega)]
  generalize (h2.alloc [ptr vb 0]).alloc [.int .u8 ((2 : Nat) : Int)] = h3 at *
  have ga := Old.get o3 (Old.get o2 g1)
  have gr := Old.get o3 g2
  have O := (o1.trans o2).trans o3
  let X : Nat → Value := up (bs [ptr vb 0, .agg (u8s o).toArray]) [(3, ptr h.next 0), (4, ptr (h.next + 1) 0), (6, ptr vb 0), (7, .func (.func 120) #[] #[ptr (h.next + 1 + 1) 0, ptr (h.next + 1 + 1 + 1) 0])]
  obtain ⟨h4, K4, hres⟩ := each_find (n := 13) (by decide) rng28 rng28a rng28b (p := fun r => decide (r.obj = o)) (val := fun _ => .bool true) (ab := h.next) (rb := h.next + 1) (A := u8s o) (v0 := .bool false)
    (fun x g => t28l28_1010a_eq CW x g)
    (fun x g r q5 wr hg hr x5 x3 x4 g5 gA gR => by
      have l1 := (r_ld wr g5).l1
      have l3 := ldN_all gA dc.1 dc.2.1
      constructor
      · intro hp
        refine ⟨_, g, (t28l28_1010b_eq CW x g).trans (by
         unfold t28l28_1010b
         simp -implicitDefEqProofs only [x5, x3, addP_ptr, Nat.zero_add, l1, l3, eqD35 wr.obj ho, hp, thenV_some, pu_some]
         rfl), Kept.refl _ _⟩
      · intro hp
        have st : stN 1 (ptr (h.next + 1) 0) (.bool true) g = some (undef, g.set (h.next + 1) [.bool true]) := stN1_at gR (Nat.zero_lt_one) hr rfl rfl
        refine ⟨_, g.set (h.next + 1) [.bool true], (t28l28_1010b_eq CW x g).trans (by
          unfold t28l28_1010b
          simp -implicitDefEqProofs only [x5, x3, x4, addP_ptr, Nat.zero_add, l1, l3, eqD35 wr.obj ho, hp, st, thenV_some, pu_some]
          rfl), Kept.set hr gR (.inr rfl), (by
          unfold Heap.set
          rw [g.get_put hr (g.lt_of_get gR), if_pos rfl]
          rfl)⟩)
    hG O (vb := vb) (c1 := h.next + 1 + 1) (c2 := h.next + 1 + 1 + 1) (kd := 2) (va := va) hR gv (hole_nil hn) RS (by omega) q1 q2 ga gr (by omega) (by omega) (by omega) (x := X) rfl rfl rfl
  have hnn := h.n0_le_next
  rcases hres with ⟨er, hf, g4⟩ | ⟨er, r, hf, g4⟩
  · have n4 : h4.n0 ≤ h.next + 1 := by rw [K4.n0, O.n0]; omega
    have st : stN 1 (ptr (h.next + 1) 0) (.bool false) h4 = some (undef, h4.set (h.next + 1) [.bool false]) := stN1_at g4 (Nat.zero_lt_one) n4 rfl rfl
    have ks : Kept h4 (h4.set (h.next + 1) [.bool false]) (· = h.next + 1) := Kept.set n4 g4 (.inr rfl)
    have g5 : (h4.set (h.next + 1) [.bool false]).get (h.next + 1) = some [.bool false] := by
      unfold Heap.set
      rw [h4.get_put n4 (h4.lt_of_get g4), if_pos rfl]
      rfl
    refine ⟨h4.set (h.next + 1) [.bool false], CW_body is28 hG rfl ((t28_eq _ _ _ _).trans ?_), O.also (K4.trans ks) (fun d hd q => by omega)⟩
    unfold t28
    simp -implicitDefEqProofs only [b1, z2, e3, thenV_some, pu_some]
    refine (congrArg (fun o => endN o (k28_1 CW) (resultsA Tryd.prog Tryd.f28.results.toList) (b28_3 CW)) er).trans ?_
    rw [endN_n, t28k28_1_eq]
    unfold t28k28_1
    have x4 : X 4 = ptr (h.next + 1) 0 := rfl
    simp -implicitDefEqProofs only [x4, st, thenV_some]
    have hb : buriedB R o = false := by unfold buriedB; rw [hf]; rfl
    rw [hb]
    exact res_cell1 results28 agg4 siz4' (by decide) _ (ld1_at g5 rfl rfl)
  · refine ⟨h4, CW_body is28 hG rfl ((t28_eq _ _ _ _).trans ?_), O.also K4 (fun d hd q => by omega)⟩
    unfold t28
    simp -implicitDefEqProofs only [b1, z2, e3, thenV_some, pu_some]
    refine (congrArg (fun o => endN o (k28_1 CW) (resultsA Tryd.prog Tryd.f28.results.toList) (b28_3 CW)) er).trans ?_
    rw [endN_r]
    have hb : buriedB R o = true := by unfold buriedB; rw [hf]; rfl
    rw [hb]
    exact res_cell1 results28 agg4 siz4' (by decide) _ (ld1_at g4 rfl rfl)
/-- What Base tells. -/
def baseN (R : List RecD) (n : Int) : Nat := ((R.find? fun r => decide (r.kind = 1) && decide (r.holder = n)).getD RecD.z).inc
theorem eqI (a b : Int) : bin Tryd.prog .eql 3 (.int .i64 a) (.int .i64 b) = some (.bool (decide (a = b))) := by rw [bin_eql]; rfl
set_option maxRecDepth 100000 in
/-- Base -/
theorem r29 {h : Heap} (hG : 4 ≤ h.n0) {vb : Nat} {va : Value} {R : List RecD} (gv : h.get vb = some [va]) (RS : RSl h va R) (hn : nilOk va) (hR : R.length ≤ 1000000) (hl : Int) :
    ∃ h', CW 29 [ptr vb 0, .int .i64 hl] h = some (.int .u64 (baseN R hl : Int), h') ∧ Old h h' := by
  have b1 : box (.int .i64 hl) h = some (ptr h.next 0, h.alloc [.int .i64 hl]) := rfl
  have o1 : Old h (h.alloc [.int .i64 hl]) := Kept.alloc _ _ _
  have g1 : (h.alloc [.int .i64 hl]).get h.next = some [.int .i64 hl] := by rw [Heap.get_alloc, if_pos rfl]
  have n1 : (h.alloc [.int .i64 hl]).next = h.next + 1 := rfl
  generalize h.alloc [.int .i64 hl] = h1 at *
  obtain ⟨h2, z2, o2, g2, n2⟩ := fresh [.int .u64 0] h1
  rw [n1] at z2 g2 n2
  have e3 := r68 (h := h2) (by rw [o2.n0, o1.n0]; exact hG) vb 1
  rw [n2] at e3
  have e3 : CW 68 [ptr vb 0, .int .u8 1] h2 = _ := e3
  have o3 : Old h2 ((h2.alloc [ptr vb 0]).alloc [.int .u8 ((1 : Nat) : Int)]) := (Kept.alloc _ _ _ : Old h2 (h2.alloc [ptr vb 0])).trans (Kept.alloc _ _ _)
  have q1 : ((h2.alloc [ptr vb 0]).alloc [.int .u8 ((1 : Nat) : Int)]).get (h.next + 1 + 1) = some [ptr vb 0] := by
    rw [Heap.get_alloc, Heap.next_alloc, if_neg (by omega), Heap.get_alloc, if_pos (by omega)]
  have q2 : ((h2.alloc [ptr vb 0]).alloc [.int .u8 ((1 : Nat) : Int)]).get (h.next + 1 + 1 + 1) = some [.int .u8 ((1 : Nat) : Int)] := by
    rw [Heap.get_alloc, Heap.next_alloc, if_pos (by omega)]
  generalize (h2.alloc [ptr vb 0]).alloc [.int .u8 ((1 : Nat) : Int)] = h3 at *
  have ga := Old.get o3 (Old.get o2 g1)
  have gr := Old.get o3 g2
  have O := (o1.trans o2).trans o3
  let X : Nat → Value := up (bs [ptr vb 0, .int .i64 hl]) [(3, ptr h.next 0), (4, ptr (h.next + 1) 0), (6, ptr vb 0), (7, .func (.func 120) #[] #[ptr (h.next + 1 + 1) 0, ptr (h.next + 1 + 1 + 1) 0])]
  obtain ⟨h4, K4, hres⟩ := each_find (n := 15) (by decide) rng29 rng29a rng29b (p := fun r => decide (r.holder = hl)) (val := fun r => .int .u64 (r.inc : Int)) (ab := h.next) (rb := h.next + 1) (A := [.int .i64 hl]) (v0 := .int .u64 0)
    (fun x g => t29l29_1010a_eq CW x g)
    (fun x g r q5 wr hg hr x5 x3 x4 g5 gA gR => by
      have l33 := (r_ld wr g5).l33
      have l34 := (r_ld wr g5).l34
      have l3 : ld1 (ptr h.next 0) g = some (.int .i64 hl, g) := ld1_at gA rfl rfl
      constructor
      · intro hp
        refine ⟨_, g, (t29l29_1010b_eq CW x g).trans (by
         unfold t29l29_1010b
         simp -implicitDefEqProofs only [x5, x3, addP_ptr, Nat.zero_add, l33, l3, eqI, hp, thenV_some, pu_some]
         rfl), Kept.refl _ _⟩
      · intro hp
        have st : stN 1 (ptr (h.next + 1) 0) (.int .u64 (r.inc : Int)) g = some (undef, g.set (h.next + 1) [.int .u64 (r.inc : Int)]) := stN1_at gR (Nat.zero_lt_one) hr rfl rfl
        refine ⟨_, g.set (h.next + 1) [.int .u64 (r.inc : Int)], (t29l29_1010b_eq CW x g).trans (by
          unfold t29l29_1010b
          simp -implicitDefEqProofs only [x5, x3, x4, addP_ptr, Nat.zero_add, l33, l34, l3, eqI, hp, st, thenV_some, pu_some]
          rfl), Kept.set hr gR (.inr rfl), (by
          unfold Heap.set
          rw [g.get_put hr (g.lt_of_get gR), if_pos rfl]
          rfl)⟩)
    hG O (vb := vb) (c1 := h.next + 1 + 1) (c2 := h.next + 1 + 1 + 1) (kd := 1) (va := va) hR gv (hole_nil hn) RS (by omega) q1 q2 ga gr (by omega) (by omega) (by omega) (x := X) rfl rfl rfl
  have hnn := h.n0_le_next
  rcases hres with ⟨er, hf, g4⟩ | ⟨er, r, hf, g4⟩
  · have n4 : h4.n0 ≤ h.next + 1 := by rw [K4.n0, O.n0]; omega
    have st : stN 1 (ptr (h.next + 1) 0) (.int .u64 0) h4 = some (undef, h4.set (h.next + 1) [.int .u64 0]) := stN1_at g4 (Nat.zero_lt_one) n4 rfl rfl
    have ks : Kept h4 (h4.set (h.next + 1) [.int .u64 0]) (· = h.next + 1) := Kept.set n4 g4 (.inr rfl)
    have g5 : (h4.set (h.next + 1) [.int .u64 0]).get (h.next + 1) = some [.int .u64 0] := by
      unfold Heap.set
      rw [h4.get_put n4 (h4.lt_of_get g4), if_pos rfl]
      rfl
    refine ⟨h4.set (h.next + 1) [.int .u64 0], CW_body is29 hG rfl ((t29_eq _ _ _ _).trans ?_), O.also (K4.trans ks) (fun d hd q => by omega)⟩
    unfold t29
    simp -implicitDefEqProofs only [b1, z2, e3, thenV_some, pu_some]
    refine (congrArg (fun o => endN o (k29_1 CW) (resultsA Tryd.prog Tryd.f29.results.toList) (b29_3 CW)) er).trans ?_
    rw [endN_n, t29k29_1_eq]
    unfold t29k29_1
    have x4 : X 4 = ptr (h.next + 1) 0 := rfl
    simp -implicitDefEqProofs only [x4, st, thenV_some]
    have hb : baseN R hl = 0 := by unfold baseN; rw [hf]; rfl
    rw [hb]
    exact res_cell1 results29 agg32 siz32' (by decide) _ (ld1_at g5 rfl rfl)
  · refine ⟨h4, CW_body is29 hG rfl ((t29_eq _ _ _ _).trans ?_), O.also K4 (fun d hd q => by omega)⟩
    unfold t29
    simp -implicitDefEqProofs only [b1, z2, e3, thenV_some, pu_some]
    refine (congrArg (fun o => endN o (k29_1 CW) (resultsA Tryd.prog Tryd.f29.results.toList) (b29_3 CW)) er).trans ?_
    rw [endN_r]
    have hb : baseN R hl = r.inc := by unfold baseN; rw [hf]; rfl
    rw [hb]
    exact res_cell1 results29 agg32 siz32' (by decide) _ (ld1_at g4 rfl rfl)
end Go.Proofs.YtdnahgfgoajmcaaDoor

namespace Go.Proofs.YtdnahgfgoajmcaaDoor
open Go Go.Abs
attribute [local congr] thenV_congr
open Go.Lib (compareBytes)
theorem less_cb : ∀ a b : List UInt8, Op.bytesLess a b = decide (compareBytes a b < 0)
  | [], [] => rfl
  | _ :: _, [] => rfl
  | [], _ :: _ => rfl
  | x :: a, y :: b => by
    rw [cb_cons]
    unfold Op.bytesLess
    rw [less_cb a b]
    by_cases e1 : x.toNat < y.toNat
    · have h1 : x < y := UInt8.lt_iff_toNat_lt.2 e1
      rw [if_pos e1]
      simp [h1]
    · have h1 : ¬ x < y := fun h => e1 (UInt8.lt_iff_toNat_lt.1 h)
      rw [if_neg e1]
      by_cases e2 : y.toNat < x.toNat
      · have h2 : x ≠ y := fun h => by subst h; omega
        rw [if_pos e2]
        simp [h1, h2]
      · have h2 : x = y := UInt8.toNat_inj.1 (by omega)
        subst h2
        rw [if_neg e2]
        simp
theorem geq_str (a b : ByteArray) : bin Tryd.prog .geq 9 (.string a) (.string b) = some (.bool (!(Op.bytesLess a.toList b.toList))) := by
  unfold bin eqOk
  simp only [if_true]
  unfold binA
  simp only [ground, flat, Bool.and_self, if_true]
  have e : (binOp .geq 9 (.string a) (.string b)) = pure (.bool (!(Op.bytesLess a.toList b.toList))) := rfl
  rw [e]
  rfl
theorem geq_key (a b : RecD) : bin Tryd.prog .geq 9 (.string (strOf (keyB a))) (.string (strOf (keyB b))) = some (.bool (!(decide (cmpK a b < 0)))) := by
  have hl : ∀ l : List Nat, (strOf l).toList = l.map UInt8.ofNat := fun l => Go.ByteArray.toList_mk _
  rw [geq_str, less_cb, hl, hl]
  rfl
theorem buried_iff {S : List RecD} {o : List Nat} : buriedB S o = true ↔ ∃ y ∈ S, y.kind = 2 ∧ y.obj = o := by
  unfold buriedB
  rw [List.find?_isSome]
  simp [Bool.and_eq_true]
theorem base_of {S : List RecD} {n : Int} {i : Nat} (h : i < baseN S n) : ∃ y ∈ S, y.kind = 1 ∧ y.holder = n ∧ i < y.inc := by
  unfold baseN at h
  cases hf : S.find? fun r => decide (r.kind = 1) && decide (r.holder = n) with
  | none => rw [hf] at h; exact absurd h (Nat.not_lt_zero _)
  | some y =>
    rw [hf] at h
    have h1 := List.find?_some hf
    simp only [Bool.and_eq_true, decide_eq_true_eq] at h1
    exact ⟨y, List.mem_of_find?_eq_some hf, h1.1, h1.2, h⟩
theorem base_ge {S : List RecD} (d : Dist S) (v : Vld S) {y : RecD} (hy : y ∈ S) (hk : y.kind = 1) : y.inc ≤ baseN S y.holder := by
  unfold baseN
  cases hf : S.find? fun r => decide (r.kind = 1) && decide (r.holder = y.holder) with
  | none =>
    rw [List.find?_eq_none] at hf
    have := hf y hy
    simp [hk] at this
  | some z =>
    have h1 := List.find?_some hf
    simp only [Bool.and_eq_true, decide_eq_true_eq] at h1
    have hz := List.mem_of_find?_eq_some hf
    have ob : ∀ q ∈ S, q.kind = 1 → q.obj = z32 := fun q hq hk => by
      rcases recB_cases (v q hq).2 with h | h | h
      · rw [h.2.1]; rfl
      · omega
      · omega
    have : y = z := d.eq hy hz (atB_iff.2 ⟨by omega, by rw [ob y hy hk, ob z hz h1.1], h1.2.symm⟩)
    rw [this]
    exact Nat.le_refl _
/-- Whether a record is void by what the inventory tells. -/
def voidB (S : List RecD) (r : RecD) : Bool := decide (r.kind = 3) && (buriedB S r.obj || decide (r.inc < baseN S r.holder))
theorem void_of {S : List RecD} {r : RecD} (h : voidB S r = true) : Void S r := by
  unfold voidB at h
  simp only [Bool.and_eq_true, Bool.or_eq_true, decide_eq_true_eq] at h
  refine ⟨h.1, ?_⟩
  rcases h.2 with h | h
  · exact .inl (buried_iff.1 h)
  · obtain ⟨y, hy, h1, h2, h3⟩ := base_of h
    exact .inr ⟨y, hy, h1, h2, h3⟩
theorem void_iff {S : List RecD} (d : Dist S) (v : Vld S) (r : RecD) : voidB S r = true ↔ Void S r := by
  refine ⟨void_of, fun h => ?_⟩
  unfold voidB
  simp only [Bool.and_eq_true, Bool.or_eq_true, decide_eq_true_eq]
  refine ⟨h.1, ?_⟩
  rcases h.2 with h | ⟨y, hy, h1, h2, h3⟩
  · exact .inl (buried_iff.2 h)
  · have := base_ge d v hy h1
    rw [h2] at this
    exact .inr (by omega)
theorem newer_iff {a b : RecD} (va : recB a = true) (vb : recB b = true) : newerB a b = true ↔ atB a b = true ∧ cmpR a b > 0 := by
  unfold newerB
  rw [va, vb]
  simp [Bool.and_eq_true]
/-- What is left was merged, is not void, and nothing that was merged is newer. -/
theorem nf_left {S L : List RecD} (h : Is S L) (v : Vld L) {r : RecD} (hr : r ∈ S) : voidB S r = false ∧ r ∈ L ∧ ∀ q ∈ L, newerB q r = false := by
  obtain ⟨⟨h1, h2⟩, h3⟩ := (h r).1 hr
  refine ⟨?_, h1, fun q hq => ?_⟩
  · cases e : voidB S r with
    | false => rfl
    | true =>
      have hv := void_of e
      refine absurd ⟨hv.1, ?_⟩ h3
      rcases hv.2 with ⟨y, hy, g⟩ | ⟨y, hy, g⟩
      · exact .inl ⟨y, ((h y).1 hy).1.1, g⟩
      · exact .inr ⟨y, ((h y).1 hy).1.1, g⟩
  · cases e : newerB q r with
    | false => rfl
    | true =>
      obtain ⟨e1, e2⟩ := (newer_iff (v q hq).2 (v r h1).2).1 e
      have := h2 q hq (by rw [atB_comm]; exact e1)
      omega
/-- Every record that was merged is there, or void, or older than one that is there. -/
theorem nf_covered {S L : List RecD} (h : Is S L) (v : Vld L) (d : Dist S) (vS : Vld S) {r : RecD} (hr : r ∈ L) : voidB S r = true ∨ ∃ q ∈ S, q = r ∨ newerB q r = true := by
  obtain ⟨z, hz, h1, h2⟩ := top_of hr
  have vz := v z hz.1
  by_cases hv : Void L z
  · refine .inl ((void_iff d vS r).2 ?_)
    obtain ⟨e1, e2, e3⟩ := atB_iff.1 h1
    have hinc := cmpR_inc h2
    refine ⟨by have := hv.1; omega, ?_⟩
    rcases hv.2 with ⟨y, hy, g1, g2⟩ | ⟨y, hy, g1, g2, g3⟩
    · obtain ⟨w, hw, w1, _⟩ := top_of hy
      obtain ⟨f1, f2, _⟩ := atB_iff.1 w1
      exact .inl ⟨w, (h w).2 ⟨hw, fun q => by have := q.1; omega⟩, by omega, by rw [← f2, g2, e2]⟩
    · obtain ⟨w, hw, w1, w2⟩ := top_of hy
      obtain ⟨f1, _, f3⟩ := atB_iff.1 w1
      have := cmpR_inc w2
      exact .inr ⟨w, (h w).2 ⟨hw, fun q => by have := q.1; omega⟩, by omega, by rw [← f3, g2, e3], by omega⟩
  · refine .inr ⟨z, (h z).2 ⟨hz, hv⟩, ?_⟩
    by_cases hc : cmpR r z = 0
    · exact .inl (cmpR_eq h1 hc).symm
    · have hn := cmpR_neg r z
      exact .inr ((newer_iff vz.2 (v r hr).2).2 ⟨by rw [atB_comm]; exact h1, by omega⟩)
end Go.Proofs.YtdnahgfgoajmcaaDoor

namespace Go.Proofs.YtdnahgfgoajmcaaDoor
open Go Go.Abs
attribute [local congr] thenV_congr
/-- A record of a list, read. -/
theorem RSl.rd {h : Heap} {v : Value} {L : List RecD} (x : RSl h v L) {j : Nat} (hj : j < L.length) : ∃ b o, idxS 39 v (i64n j) = some (ptr b o) ∧ L[j].Wf ∧ ∀ g : Heap, Old h g → ldN 39 (ptr b o) g = some (recV L[j], g) := by
  obtain ⟨b, o, ix, wr, _, lp⟩ := x.at hj
  have e : L.getD j RecD.z = L[j] := by rw [List.getD_eq_getElem?_getD, List.getElem?_eq_getElem hj]; rfl
  rw [e] at wr lp
  exact ⟨b, o, ix, wr, lp⟩
theorem any_take {α : Type} {L : List α} {i : Nat} (hi : i < L.length) (p : α → Bool) : (L.take (i + 1)).any p = ((L.take i).any p || p L[i]) := by
  rw [List.take_succ_eq_append_getElem hi, List.any_append]
  simp
theorem bt : (bOf (.bool true) == some true) = true := rfl
theorem bt' : (bOf (.bool true) == some false) = false := rfl
theorem bf : (bOf (.bool false) == some false) = true := rfl
theorem bf' : (bOf (.bool false) == some true) = false := rfl
theorem bu : (bOf undef == some false) = false := rfl
/-- The parts of a record that can be read whole. -/
theorem rec_parts {b o : Nat} {g : Heap} {r : RecD} (w : r.Wf) (e : ldN 39 (ptr b o) g = some (recV r, g)) :
    ld1 (ptr b (o + 0)) g = some (.int .u8 (r.kind : Int), g) ∧ ldN 32 (ptr b (o + 1)) g = some (.agg (u8s r.obj).toArray, g) ∧ ld1 (ptr b (o + 33)) g = some (.int .i64 r.holder, g) ∧ ld1 (ptr b (o + 34)) g = some (.int .u64 (r.inc : Int), g) := by
  obtain ⟨k, hk, hl⟩ := ldN_len (by decide) e
  have hh : (k.drop o).take 39 = recC r := by
    unfold ldN ptr at e
    simp only [hk] at e
    split at e
    · simp only [Option.some.injEq, Prod.mk.injEq, Value.agg.injEq, and_true] at e
      exact congrArg Array.toList e
    · cases e
  have ho : (u8s r.obj).length = 32 := by rw [List.length_map]; exact w.obj.1
  have at_ : ∀ i v, i < 39 → (recC r)[i]? = some v → k[o + i]? = some v := fun i v hi h => by
    rw [← hh, List.getElem?_take, if_pos hi, List.getElem?_drop] at h
    exact h
  have tl : ∀ i v, [Value.int .i64 r.holder, .int .u64 (r.inc : Int), .int .u64 (r.num : Int), .bool r.held, .int .i64 r.k, .int .i64 r.n][i]? = some v → (recC r)[33 + i]? = some v := fun i v e => by
    unfold recC
    rw [show 33 + i = (32 + i) + 1 by omega, List.getElem?_cons_succ, List.getElem?_append_right (by omega), ho, Nat.add_sub_cancel_left]
    exact e
  refine ⟨ld1_at hk (at_ 0 _ (by decide) rfl) rfl, ?_, ld1_at hk (at_ 33 _ (by decide) (tl 0 _ rfl)) rfl, ld1_at hk (at_ 34 _ (by decide) (tl 1 _ rfl)) rfl⟩
  have h32 : (k.drop (o + 1)).take 32 = u8s r.obj := by
    have e1 : ((recC r).drop 1).take 32 = u8s r.obj := by
      unfold recC
      rw [List.drop_succ_cons, List.drop_zero, List.take_left' ho]
    rw [← e1, ← hh, List.drop_take, List.take_take, List.drop_drop]
    rfl
  have := ldN_at (o := o + 1) (n := 32) hk (by omega) (by rw [h32]; exact (dig_typed w.obj).all.1)
  rw [h32] at this
  exact this
theorem eq56 (n : Nat) : bin Tryd.prog .eql 56 (.int .u8 (n : Int)) (.int .u8 3) = some (.bool (decide (n = 3))) := by rw [bin_eql, u8_eq3]
theorem lss32 (a b : Nat) : bin Tryd.prog .lss 32 (.int .u64 (a : Int)) (.int .u64 (b : Int)) = some (.bool (decide (a < b))) := by
  rw [bin_lss]
  congr 2
  rw [decide_eq_decide]
  omega
theorem sub31 {i : Nat} (h : 0 < i) (hi : i ≤ 1000000) : bin Tryd.prog .sub 3 (i64n i) (.int .i64 1) = some (i64n (i - 1)) := by
  unfold i64n
  rw [bin_sub, wrap_i64 (by omega) (by omega)]
  congr 2
  omega
theorem chkJ (r : Out) (v : Value) : chkR false r v = true := rfl
end Go.Proofs.YtdnahgfgoajmcaaDoor

