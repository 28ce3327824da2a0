/-
  InventoryUnion: the walk.
  Conditions: the package variables hold what they hold at the start.
  InventoryNormal: the walk.
  Conditions: the package variables hold what they hold at the start.
-/
import Derived.Test.YtdnahgfgoajmcaaDoorG18
namespace Go.Proofs.YtdnahgfgoajmcaaDoor
open Go Go.Abs
attribute [local congr] thenV_congr
theorem is4 : IsFn Tryd.prog 4 Tryd.f4 := ⟨by kernel_rfl, by kernel_rfl, by kernel_rfl, by kernel_rfl⟩
theorem b4_11e (C : CallF) (e : Env) (h : Heap) : b4_11 C 0 e h = k4_9 C e h := rfl
theorem b4_20e (C : CallF) (e : Env) (h : Heap) : b4_20 C 2 e h = k4_18 C e h := rfl
theorem nil_rcs (h : Heap) : RcS h (.slice none 0 0) [] := ⟨(fun _ h => by cases h), none, 0, rfl, (fun _ => rfl), recsC_typed (P := []) (fun _ h => by cases h), fun h => absurd h (Nat.lt_irrefl 0)⟩
theorem RcS.slB_lt {h : Heap} {v : Value} {P : List RecD} {b : Nat} (x : RcS h v P) (e : slB v = some b) : b < h.next := by
  obtain ⟨hd, a, d, rfl, hn, ht, h0⟩ := x
  cases hP : P.length with
  | zero => rw [hP] at e; cases a <;> cases e
  | succ n =>
    obtain ⟨b', off, s, q, rfl, hk, _⟩ := h0 (by omega)
    rw [hP] at e
    cases e
    exact h.lt_of_get hk
theorem nqE (n : Int) : bin Tryd.prog .neq 26 (.int .i64 n) (.int .i64 n) = some (.bool false) := by rw [bin_neq]; simp
set_option maxRecDepth 100000 in
/-- The first loop: all lists are merged, and laid one behind another. -/
theorem un_loop1 {h0 g0 : Heap} (hG : 4 ≤ h0.n0) (O : Old h0 g0) {a : Nat} {v va : Value} {Ls : List (List RecD)} (hv : LLS h0 v Ls) (hr : rightB Ls = true) (I : IvH g0 a []) (ha : h0.next ≤ a) (rl : RLst g0 h0.next va []) (sp : ∀ w b, g0.get a = some [w] → slB w = some b → b ≠ rlB va)
    {x : Nat → Value} (x0 : x 0 = v) (x5 : x 5 = va) (x6 : x 6 = ptr a 0) (x8 : x 8 = i64n 0) :
    Fin 133 (fun ex y g => ex = .exit 0 ∧ Old h0 g ∧ IvH g a (mergeAll Ls) ∧ Is (mergeAll Ls) Ls.flatten ∧ RLst g h0.next (y 5) Ls.flatten ∧ y 1 = x 1 ∧ y 6 = ptr a 0) (iter (codeA Tryd.prog CV (partOf Tryd.f4 [1, 1, 1, 1, 1, 0, 1, 0, 0])) rounds (mkF 133 x) g0) := by
  obtain ⟨hr1, hr2, hr3⟩ := right_vld hr
  have hll := hv.len
  refine loop_fin (t4l4_11111010_eq CV) (Inv := fun k y g => ∃ i, i + k = Ls.length ∧ y 0 = v ∧ y 1 = x 1 ∧ y 6 = ptr a 0 ∧ y 8 = i64n i ∧ Old h0 g ∧ IvH g a (mergeAll (Ls.take i)) ∧ Is (mergeAll (Ls.take i)) (Ls.take i).flatten ∧ RLst g h0.next (y 5) (Ls.take i).flatten ∧ ∀ va b, g.get a = some [va] → slB va = some b → b ≠ rlB (y 5)) ?_ Ls.length (by have : rounds = 18446744073709551616 := rfl; omega) ⟨0, by omega, x0, rfl, x6, x8, O, I, Is.nil, by rw [x5]; exact rl, by rw [x5]; exact sp⟩
  rintro k y g ⟨i, hik, y0, y1, y6, y8, Og, Ig, Si, Ri, Sp⟩
  unfold t4l4_11111010
  simp -implicitDefEqProofs only [y0, y8, hll, lss3, thenV_some, pu_some]
  by_cases hi : i < Ls.length
  · obtain ⟨b, o, w, ix, hb, hld, R⟩ := hv.2 i hi
    obtain ⟨q1, q2⟩ := hr2 _ (List.getElem_mem hi)
    have hn : 4 ≤ g.n0 := by rw [Og.n0]; exact hG
    have ld : ∀ q, Old h0 q → ld1 (ptr b o) q = some (w, q) := fun q oq => hld q (Kept.get oq b hb (fun h => h))
    have lsum : (mergeAll (Ls.take i)).length ≤ 500000 := by
      have h1 := mergeAll_len (Ls.take i)
      have h2 : (Ls.take i).flatten.length ≤ Ls.flatten.length := by
        conv => rhs; rw [← List.take_append_drop i Ls, List.flatten_append, List.length_append]
        omega
      omega
    obtain ⟨v2, g2, e2, o2, r2⟩ := r26L hn (R.mono Og) (by omega)
    have e2 := CV_up (f := 26) rfl (by decide) e2
    have I2 := Ig.old o2
    obtain ⟨g3, e3, I3, k3, new3⟩ := r25B I2 r2.rcs.rsl q2 lsum (by omega)
    obtain ⟨wc, hc⟩ := I2.cell
    have O2 := Og.trans o2
    have O3 : Old h0 g3 := O2.also k3 (fun d hd q => by omega)
    have R3 := (Ri.old o2).keep2 k3 hc
    obtain ⟨v4, g4, e4, r4, k4, b4⟩ := R3.pushL (R.mono O3) (by rw [O3.n0]; exact h0.n0_le_next) O3.next (by
      have h2 : (Ls.take i).flatten.length ≤ Ls.flatten.length := by
        conv => rhs; rw [← List.take_append_drop i Ls, List.flatten_append, List.length_append]
        omega
      omega) (by omega)
    have hb4 := R3.blk
    have O4 : Old h0 g4 := O3.also k4 (fun d hd q => by
      have : d = rlB (y 5) := q
      omega)
    have hvl : Vld Ls[i] := fun r hr => ⟨R.1 r hr, q2 r hr⟩
    have a8 : bin Tryd.prog .add 3 (i64n i) (.int .i64 1) = some (i64n (i + 1)) := add31 (by omega)
    simp -implicitDefEqProofs only [decide_eq_true hi, y6, ix, ld g Og, e2, e3, nqE, ld g3 O3, e4, a8, thenV_some, pu_some]
    have hl5 := recsC_len R3.1
    obtain ⟨wc3, hc3⟩ := I3.cell
    have hne : a ≠ rlB (y 5) := fun e => ne_len hb4.2 hc3 (by omega) e.symm
    have hlt5 : rlB (y 5) < g2.next := g2.lt_of_get (Ri.old o2).blk.2
    have hg2 := o2.next
    have sep3 : ∀ w b, g3.get a = some [w] → slB w = some b → b ≠ rlB (y 5) := fun w b e1 e2 e3 => by
      have := new3 w b e1 e2
      omega
    have I4 : IvH g4 a (mergeAll (Ls.take (i + 1))) := by
      rw [mergeAll_take hi]
      exact I3.keepS k4 hne fun w e1 e2 => sep3 w _ e1 e2 rfl
    have sep4 : ∀ w b, g4.get a = some [w] → slB w = some b → b ≠ rlB v4 := fun w b e1 e2 => by
      have e1' : g3.get a = some [w] := by
        rw [hc3, ← e1, k4.getE hc3 hne]
      rcases b4 with q | q
      · rw [q]; exact sep3 w b e1' e2
      · rw [q]
        obtain ⟨va3, p1, p2, _⟩ := I3.ex
        rw [p1] at e1'
        cases e1'
        have := p2.slB_lt e2
        omega
    refine Rnd.next (k - 1) (by omega) ⟨i + 1, by omega, y0, y1, y6, rfl, O4, I4, ?_, ?_, sep4⟩
    · rw [mergeAll_take hi, flat_take hi]
      exact Si.merge Ig.vld hvl
    · rw [flat_take hi]
      exact r4
  · have hiE : i = Ls.length := by omega
    rw [hiE, List.take_length] at Ig Si Ri
    simp -implicitDefEqProofs only [decide_eq_false hi, thenV_some]
    exact Rnd.out 0 ⟨rfl, Og, Ig, Si, Ri, y1, y6⟩
/-- The place that a number of the order names. -/
def pickJ (ns : List Int) (i n : Nat) : Nat := if ns.length = 0 then 0 else
  let z := (ns.getD (i % ns.length) 0).tmod n
  (if z < 0 then z + n else z).toNat
theorem tmod_bd (z : Int) (n : Nat) (h : 0 < n) : - (n : Int) < z.tmod n ∧ z.tmod n < n := by
  have h1 := Int.natAbs_tmod z n
  have h2 : z.natAbs % (n : Int).natAbs < (n : Int).natAbs := Nat.mod_lt _ (by simpa using h)
  rw [← h1] at h2
  have h3 : (n : Int).natAbs = n := Int.natAbs_natCast n
  omega
theorem pickJ_lt (ns : List Int) (i : Nat) {n : Nat} (h : 0 < n) : pickJ ns i n < n := by
  unfold pickJ
  split
  · exact h
  · have := tmod_bd (ns.getD (i % ns.length) 0) n h
    simp only
    split <;> omega
set_option maxRecDepth 100000 in
set_option maxHeartbeats 2000000 in
/-- The second loop: record after record is merged. -/
theorem un_loop2 {h0 g0 : Heap} (hG : 4 ≤ h0.n0) (O : Old h0 g0) {a c : Nat} {vo vl : Value} {ns : List Int} {S All : List RecD} (ho : InS h0 vo ns) (Ia : IvH g0 a S) (Ic : IvH g0 c []) (hac : a ≠ c) (hc : h0.next ≤ c) (rl : RLst g0 h0.next vl All) (hv : Vld All) (hl : All.length ≤ 120)
    {x : Nat → Value} (x1 : x 1 = vo) (x6 : x 6 = ptr a 0) (x10 : x 10 = ptr c 0) (x12 : x 12 = vl) (x13 : x 13 = i64n 0) :
    Fin 133 (fun ex y g => ex = .exit 2 ∧ Old h0 g ∧ IvH g a S ∧ (∃ T, IvH g c T ∧ Is T All) ∧ y 6 = ptr a 0 ∧ y 10 = ptr c 0) (iter (codeA Tryd.prog CV (partOf Tryd.f4 [1, 1, 1, 1, 1, 1, 1, 1, 1, 1, 0, 1, 0, 0])) rounds (mkF 133 x) g0) := by
  have hol := ho.len
  refine loop_fin (t4l4_1111111111010_eq CV) (Inv := fun k y g => ∃ i L P T, L.length = k ∧ i + k = All.length ∧ y 1 = vo ∧ y 6 = ptr a 0 ∧ y 10 = ptr c 0 ∧ y 13 = i64n i ∧ Old h0 g ∧ IvH g a S ∧ IvH g c T ∧ Is T P ∧ RLst g h0.next (y 12) L ∧ (∀ q, q ∈ All ↔ q ∈ P ++ L) ∧ Vld L ∧ P.length = i) ?_ All.length (by have : rounds = 18446744073709551616 := rfl; omega) ⟨0, All, [], [], rfl, by omega, x1, x6, x10, x13, O, Ia, Ic, Is.nil, by rw [x12]; exact rl, fun q => by simp, hv, rfl⟩
  rintro k y g ⟨i, L, P, T, hLk, hik, y1, y6, y10, y13, Og, Iag, Icg, hT, Rl, hmem, hvL, hPi⟩
  have hll := Rl.rcs.rsl.len
  have hvP : Vld P := fun q hq => hv q ((hmem q).2 (List.mem_append_left _ hq))
  have hTP : T = merged [] P := hT.uniq (merged_is hvP) Icg.ks (merged_wf (A := []) (by rw [List.nil_append]; exact hvP)).2
  have hTl : T.length ≤ 120 := by
    have h1 := merged_len [] P
    rw [← hTP, List.length_nil] at h1
    omega
  unfold t4l4_1111111111010
  simp -implicitDefEqProofs only [hll, gtrC L.length 0 0 rfl, thenV_some, pu_some]
  by_cases hn : 0 < L.length
  · have hj := pickJ_lt ns i hn
    -- what is done with the record that is picked
    obtain ⟨b, o, g2, f1, f2, f3, f4, I2, K2⟩ := un_merge Icg Rl hj (fun r hr => (hvL r hr).2) (by omega)
    obtain ⟨wc, hcc⟩ := Icg.cell
    have O2 : Old h0 g2 := Og.also K2 (fun d hd q => by omega)
    have hn2 : 4 ≤ g2.n0 := by rw [O2.n0]; exact hG
    have lT2 := merged_len T [L[pickJ ns i L.length]]
    rw [List.length_singleton] at lT2
    obtain ⟨w, g3, g4, f5, f6, I4, K4⟩ := un_self hn2 I2 (by omega)
    obtain ⟨wc2, hcc2⟩ := I2.cell
    have O4 : Old h0 g4 := O2.also K4 (fun d hd q => by omega)
    have R2 := Rl.keep2 K2 hcc
    have R4 := R2.keep2 K4 hcc2
    have Ia2 := Iag.keepC K2 hcc hac
    have Ia4 := Ia2.keepC K4 hcc2 hac
    have hlL : L.length ≤ 1000000 := by omega
    obtain ⟨va2, vo2, vd2, v2', p5, p6, c1, c2, c3, c4, c5, c6⟩ := un_cut hn2 O2.next R2 hj hlL
    obtain ⟨va4, vo4, vd4, v4', q5, q6, d1, d2, d3, d4, d5, d6⟩ := un_cut (by rw [O4.n0]; exact hG) O4.next R4 hj hlL
    have hr : Vld [L[pickJ ns i L.length]] := fun q hq => by rw [List.mem_singleton.1 hq]; exact hvL _ (List.getElem_mem hj)
    have S2 := hT.merge Icg.vld hr
    have S4 := S2.self I2.vld
    have hlen : (L.take (pickJ ns i L.length) ++ L.drop (pickJ ns i L.length + 1)).length = k - 1 := by
      rw [List.length_append, List.length_take, List.length_drop]
      omega
    have hmem' : ∀ q, q ∈ All ↔ q ∈ (P ++ [L[pickJ ns i L.length]]) ++ (L.take (pickJ ns i L.length) ++ L.drop (pickJ ns i L.length + 1)) := fun q => by
      rw [hmem q, List.mem_append, List.mem_append, List.mem_append (s := P), List.mem_singleton, mem_cut hj q, or_assoc]
    have hvL' : Vld (L.take (pickJ ns i L.length) ++ L.drop (pickJ ns i L.length + 1)) := fun q hq => hvL q ((mem_cut hj q).2 (.inr hq))
    have hP' : (P ++ [L[pickJ ns i L.length]]).length = i + 1 := by rw [List.length_append, List.length_singleton, hPi]
    have r3 := rem_nat' (i := i) (n := 3) (m := 3) rfl (by decide)
    have a13 : bin Tryd.prog .add 3 (i64n i) (.int .i64 1) = some (i64n (i + 1)) := add31 (by omega)
    have aj : bin Tryd.prog .add 3 (i64n (pickJ ns i L.length)) (.int .i64 1) = some (i64n (pickJ ns i L.length + 1)) := add31 (by omega)
    have bt : (bOf (.bool true) == some true) = true := rfl
    have bt' : (bOf (.bool true) == some false) = false := rfl
    have bf : (bOf (.bool false) == some false) = true := rfl
    have bf' : (bOf (.bool false) == some true) = false := rfl
    by_cases h0n : 0 < ns.length
    · have hm : i % ns.length < ns.length := Nat.mod_lt _ h0n
      obtain ⟨wz, bo, oo, ixo, hbo, ldo⟩ := ho.2 _ hm
      have lo : ld1 (ptr bo oo) g = some (.int .i64 ns[i % ns.length], g) := ldo g (Kept.get Og bo hbo (fun h => h))
      have hz := tmod_bd ns[i % ns.length] L.length hn
      have hpj : pickJ ns i L.length = (if ns[i % ns.length].tmod L.length < 0 then ns[i % ns.length].tmod L.length + L.length else ns[i % ns.length].tmod L.length).toNat := by
        unfold pickJ
        rw [if_neg (by omega), List.getD_eq_getElem?_getD, List.getElem?_eq_getElem hm]
        rfl
      have hr1 := rem_nat (i := i) h0n
      have hr2 := rem_int (z := ns[i % ns.length]) hn
      by_cases hneg : ns[i % ns.length].tmod L.length < 0
      · rw [if_pos hneg] at hpj
        have ha : bin Tryd.prog .add 3 (.int .i64 (ns[i % ns.length].tmod L.length)) (i64n L.length) = some (i64n (pickJ ns i L.length)) := by
          rw [bin_add, wrap_i64 (by omega) (by omega)]
          congr 2
          omega
        have hls : bin Tryd.prog .lss 3 (.int .i64 (ns[i % ns.length].tmod L.length)) (.int .i64 0) = some (.bool true) := by rw [bin_lss, decide_eq_true hneg]
        simp -implicitDefEqProofs only [decide_eq_true hn, decide_eq_true h0n, y1, hol, gtrC ns.length 0 0 rfl, y13, hr1, ixo, lo, hll, hr2, hls, ha, thenV_some, pu_some]
        by_cases h3 : i % 3 = 0
        · have e3q : bin Tryd.prog .eql 3 (i64n (i % 3)) (.int .i64 0) = some (.bool true) := by rw [h3]; rfl
          simp -implicitDefEqProofs only [y10, f1, f2, f3, f4, nqE, bf, bf', bt, bt', guardK_true, guardK_false, y13, r3, e3q, f5, f6, if_true, Bool.false_eq_true, if_false, d1, d2, aj, d3, d4, a13, thenV_some, pu_some]
          exact Rnd.next (k - 1) (by omega) ⟨i + 1, _, _, _, hlen, by omega, y1, y6, y10, rfl, O4.trans d6, Ia4.old d6, I4.old d6, S4, d5, hmem', hvL', hP'⟩
        · have e3q : bin Tryd.prog .eql 3 (i64n (i % 3)) (.int .i64 0) = some (.bool false) := by
            rw [bin_eql, beq_eq_false_iff_ne.2 (by omega)]
          simp -implicitDefEqProofs only [y10, f1, f2, f3, f4, nqE, bf, bf', bt, bt', guardK_true, guardK_false, y13, r3, e3q, if_true, Bool.false_eq_true, if_false, c1, c2, aj, c3, c4, a13, thenV_some, pu_some]
          exact Rnd.next (k - 1) (by omega) ⟨i + 1, _, _, _, hlen, by omega, y1, y6, y10, rfl, O2.trans c6, Ia2.old c6, I2.old c6, S2, c5, hmem', hvL', hP'⟩
      · rw [if_neg hneg] at hpj
        have hr2 : bin Tryd.prog .rem 3 (.int .i64 ns[i % ns.length]) (i64n L.length) = some (i64n (pickJ ns i L.length)) := by
          rw [hr2]
          congr 2
          omega
        have hls : bin Tryd.prog .lss 3 (i64n (pickJ ns i L.length)) (.int .i64 0) = some (.bool false) := by rw [bin_lss, decide_eq_false (by omega)]
        simp -implicitDefEqProofs only [decide_eq_true hn, decide_eq_true h0n, y1, hol, gtrC ns.length 0 0 rfl, y13, hr1, ixo, lo, hll, hr2, hls, thenV_some, pu_some]
        by_cases h3 : i % 3 = 0
        · have e3q : bin Tryd.prog .eql 3 (i64n (i % 3)) (.int .i64 0) = some (.bool true) := by rw [h3]; rfl
          simp -implicitDefEqProofs only [y10, f1, f2, f3, f4, nqE, bf, bf', bt, bt', guardK_true, guardK_false, y13, r3, e3q, f5, f6, if_true, Bool.false_eq_true, if_false, d1, d2, aj, d3, d4, a13, thenV_some, pu_some]
          exact Rnd.next (k - 1) (by omega) ⟨i + 1, _, _, _, hlen, by omega, y1, y6, y10, rfl, O4.trans d6, Ia4.old d6, I4.old d6, S4, d5, hmem', hvL', hP'⟩
        · have e3q : bin Tryd.prog .eql 3 (i64n (i % 3)) (.int .i64 0) = some (.bool false) := by
            rw [bin_eql, beq_eq_false_iff_ne.2 (by omega)]
          simp -implicitDefEqProofs only [y10, f1, f2, f3, f4, nqE, bf, bf', bt, bt', guardK_true, guardK_false, y13, r3, e3q, if_true, Bool.false_eq_true, if_false, c1, c2, aj, c3, c4, a13, thenV_some, pu_some]
          exact Rnd.next (k - 1) (by omega) ⟨i + 1, _, _, _, hlen, by omega, y1, y6, y10, rfl, O2.trans c6, Ia2.old c6, I2.old c6, S2, c5, hmem', hvL', hP'⟩
    · have hpj : (Value.int .i64 0) = i64n (pickJ ns i L.length) := by
        unfold pickJ
        rw [if_pos (by omega)]
        rfl
      simp -implicitDefEqProofs only [decide_eq_true hn, decide_eq_false h0n, y1, hol, gtrC ns.length 0 0 rfl, thenV_some, pu_some]
      have e0 : idxS 39 (y 12) (.int .i64 0) = some (ptr b o) := by rw [hpj]; exact f1
      have e1 : slR 39 (y 12) none (some (.int .i64 0)) none = some va2 := by rw [hpj]; exact c1
      have e2 : slR 39 (y 12) none (some (.int .i64 0)) none = some va4 := by rw [hpj]; exact d1
      have e3 : bin Tryd.prog .add 3 (.int .i64 0) (.int .i64 1) = some (i64n (pickJ ns i L.length + 1)) := by
        have := aj
        rw [← hpj] at this
        exact this
      by_cases h3 : i % 3 = 0
      · have e3q : bin Tryd.prog .eql 3 (i64n (i % 3)) (.int .i64 0) = some (.bool true) := by rw [h3]; rfl
        simp -implicitDefEqProofs only [y10, e0, f2, f3, f4, nqE, bf, bf', bt, bt', guardK_true, guardK_false, y13, r3, e3q, f5, f6, if_true, Bool.false_eq_true, if_false, e2, d2, e3, d3, d4, a13, thenV_some, pu_some]
        exact Rnd.next (k - 1) (by omega) ⟨i + 1, _, _, _, hlen, by omega, y1, y6, y10, rfl, O4.trans d6, Ia4.old d6, I4.old d6, S4, d5, hmem', hvL', hP'⟩
      · have e3q : bin Tryd.prog .eql 3 (i64n (i % 3)) (.int .i64 0) = some (.bool false) := by
          rw [bin_eql, beq_eq_false_iff_ne.2 (by omega)]
        simp -implicitDefEqProofs only [y10, e0, f2, f3, f4, nqE, bf, bf', bt, bt', guardK_true, guardK_false, y13, r3, e3q, if_true, Bool.false_eq_true, if_false, e1, c2, e3, c3, c4, a13, thenV_some, pu_some]
        exact Rnd.next (k - 1) (by omega) ⟨i + 1, _, _, _, hlen, by omega, y1, y6, y10, rfl, O2.trans c6, Ia2.old c6, I2.old c6, S2, c5, hmem', hvL', hP'⟩
  · have hL0 : L = [] := List.length_eq_zero_iff.1 (by omega)
    subst hL0
    simp -implicitDefEqProofs only [decide_eq_false hn, thenV_some]
    exact Rnd.out 2 ⟨rfl, Og, Iag, ⟨T, Icg, hT.congr fun q => by rw [hmem q, List.append_nil]⟩, y6, y10⟩
theorem b0_recs (h : Heap) : bslR 39 (.agg #[(.int .u8 0), (.int .u8 0), (.int .u8 0), (.int .u8 0), (.int .u8 0), (.int .u8 0), (.int .u8 0), (.int .u8 0), (.int .u8 0), (.int .u8 0), (.int .u8 0), (.int .u8 0), (.int .u8 0), (.int .u8 0), (.int .u8 0), (.int .u8 0), (.int .u8 0), (.int .u8 0), (.int .u8 0), (.int .u8 0), (.int .u8 0), (.int .u8 0), (.int .u8 0), (.int .u8 0), (.int .u8 0), (.int .u8 0), (.int .u8 0), (.int .u8 0), (.int .u8 0), (.int .u8 0), (.int .u8 0), (.int .u8 0), (.int .u8 0), (.int .i64 0), (.int .u64 0), (.int .u64 0), (.bool false), (.int .i64 0), (.int .i64 0)]) 0 [] h = some (.slice (some ⟨h.next, 0, none⟩) 0 0, h.alloc []) := rfl
set_option maxRecDepth 100000 in
set_option maxHeartbeats 2000000 in
/-- InventoryUnion -/
theorem r4 {h : Heap} (hG : 4 ≤ h.n0) (hz : h.get 3 = some roundsL) {v vo : Value} {Ls : List (List RecD)} {ns : List Int} (hv : LLS h v Ls) (ho : InS h vo ns) : ∃ h', CV 4 [v, vo] h = some (.bool true, h') := by
  obtain ⟨h1, e1, o1⟩ := r24 hG hv
  have e1 := CV_up (f := 24) rfl (by decide) e1
  have hol := ho.len
  have k14 : ∀ g, Old h g → CV 14 [] g = some (.bool true, g) := fun g o => r14V (Old.get o hz)
  have key : ∃ out : Out, t4 CV v vo h = out ∧ ∃ h', out = some (.bool true, h') := by
    refine ⟨_, rfl, ?_⟩
    unfold t4
    cases hr : rightB Ls with
    | false =>
      rw [hr] at e1
      simp -implicitDefEqProofs only [e1, unA_not, Bool.not_false, show (bOf (.bool true) == some false) = false from rfl, guardK_false, if_true, k14 h1 o1, thenV_some, pu_some]
      exact ⟨h1, rfl⟩
    | true =>
      rw [hr] at e1
      simp -implicitDefEqProofs only [e1, unA_not, Bool.not_true, show (bOf (.bool false) == some false) = true from rfl, guardK_true, hol, gtrC ns.length 100 100 rfl, Bool.false_eq_true, if_false, thenV_some, pu_some]
      by_cases hn : 100 < ns.length
      · simp -implicitDefEqProofs only [decide_eq_true hn, k14 h1 o1, thenV_some]
        exact ⟨h1, rfl⟩
      · obtain ⟨hr1, hr2, hr3⟩ := right_vld hr
        have vAll : Vld Ls.flatten := fun r hr => by
          obtain ⟨L, hL, hrL⟩ := List.mem_flatten.1 hr
          obtain ⟨i, hi, rfl⟩ := List.mem_iff_getElem.1 hL
          obtain ⟨b, o, w, _, _, _, R⟩ := hv.2 i hi
          exact ⟨R.1 r hrL, (hr2 _ hL).2 r hrL⟩
        have o2 : Old h1 (h1.alloc []) := Kept.alloc _ _ _
        have R2 : RLst (h1.alloc []) h.next (.slice (some ⟨h1.next, 0, none⟩) 0 0) [] := ⟨(fun _ h => by cases h), h1.next, none, rfl, by rw [Heap.get_alloc, if_pos rfl]; rfl, o1.next, .inl ⟨rfl, rfl⟩⟩
        have b2 := b0_recs h1
        have O2 := o1.trans o2
        have hlt2 : rlB (.slice (some ⟨h1.next, 0, none⟩) 0 0) < (h1.alloc []).next := (h1.alloc []).lt_of_get R2.blk.2
        generalize h1.alloc [] = h2 at *
        generalize Value.slice (some ⟨h1.next, 0, none⟩) 0 0 = va at *
        obtain ⟨a, h3, e3, I3, o3, ha⟩ := r15 (by rw [O2.n0]; exact hG) (nil_rcs h2) (fun _ h => by cases h) (by decide)
        rw [merged_nil] at I3
        have x0 : extractA (.tuple #[ptr a 0, .int .i64 0]) 0 = some (ptr a 0) := rfl
        have x1 : extractA (.tuple #[ptr a 0, .int .i64 0]) 1 = some (.int .i64 0) := rfl
        have R3 := R2.old o3
        have O3 := O2.trans o3
        simp -implicitDefEqProofs only [decide_eq_false hn, b2, e3, x0, x1, nqE, thenV_some, pu_some]
        refine endL_fin (Q := fun o : Out => ∃ h', o = some (.bool true, h')) (un_loop1 hG O3 hv hr I3 (Nat.le_trans O2.next ha) R3 (fun w b q1 q2 q3 => ?_) rfl rfl rfl rfl) ?_
        · obtain ⟨va3, p1, p2, _⟩ := I3.ex
          rw [p1] at q1
          cases q1
          obtain ⟨_, a', d', rfl, _, _, _⟩ := p2
          cases a' <;> cases q2
        · rintro ex y g4 ⟨rfl, O4, I4, S4, R4, y1, y6⟩
          have y1 : y 1 = vo := y1
          simp -implicitDefEqProofs only [endL_exit, b4_11e, t4k4_9_eq]
          unfold t4k4_9
          have n4 : 4 ≤ g4.n0 := by rw [O4.n0]; exact hG
          have lm := mergeAll_len Ls
          obtain ⟨b, g5, e5, I5, o5, hb⟩ := r15 n4 R4.rcs (fun r hr => (vAll r hr).2) (by omega)
          have n5 : 4 ≤ g5.n0 := by rw [o5.n0]; exact n4
          have I4' := I4.old o5
          obtain ⟨va5, gv5, ra5, na5⟩ := I4'.ex
          obtain ⟨w6, g6, e6, o6, r6⟩ := r23 n5 gv5 ra5 na5 (by omega)
          have e6 := CV_up (f := 23) rfl (by decide) e6
          have I5' := I5.old o6
          obtain ⟨vb6, gvb, rb, nb⟩ := I5'.ex
          have lmb := merged_len [] Ls.flatten
          rw [List.length_nil] at lmb
          obtain ⟨w7, g7, e7, o7, r7⟩ := r23 (by rw [o6.n0]; exact n5) gvb rb nb (by omega)
          have e7 := CV_up (f := 23) rfl (by decide) e7
          have eqS : mergeAll Ls = merged [] Ls.flatten := S4.uniq (merged_is vAll) I4.ks I5.ks
          have n7 : 4 ≤ g7.n0 := by rw [o7.n0, o6.n0]; exact n5
          have e8 := CV_up (f := 19) rfl (by decide) (r19 n7 (r6.mono o7) r7 (by omega))
          rw [decide_eq_true eqS] at e8
          have O47 := (o5.trans o6).trans o7
          obtain ⟨c, g8, e9, I8, o8, hc⟩ := r15 n7 (nil_rcs g7) (fun _ h => by cases h) (by decide)
          rw [merged_nil] at I8
          have n8 : 4 ≤ g8.n0 := by rw [o8.n0]; exact n7
          have O48 := O47.trans o8
          obtain ⟨w9, g9, e10, o9, r9⟩ := r26L n8 (R4.old O48).rcs (by omega)
          have e10 := CV_up (f := 26) rfl (by decide) e10
          have O49 := O48.trans o9
          have xb0 : extractA (.tuple #[ptr b 0, .int .i64 0]) 0 = some (ptr b 0) := rfl
          have xb1 : extractA (.tuple #[ptr b 0, .int .i64 0]) 1 = some (.int .i64 0) := rfl
          have xc0 : extractA (.tuple #[ptr c 0, .int .i64 0]) 0 = some (ptr c 0) := rfl
          have xc1 : extractA (.tuple #[ptr c 0, .int .i64 0]) 1 = some (.int .i64 0) := rfl
          simp -implicitDefEqProofs only [e5, xb0, xb1, nqE, show (bOf (.bool false) == some false) = true from rfl, guardK_true, y6, e6, e7, e8, unA_not, Bool.not_true, Bool.false_eq_true, if_false, e9, xc0, xc1, e10, thenV_some, pu_some]
          obtain ⟨w4, gw4⟩ := I4.cell
          have alt : a < g4.next := g4.lt_of_get gw4
          have hle := O47.next
          have hle0 := (O4.trans O47).next
          refine endL_fin (Q := fun o : Out => ∃ h', o = some (.bool true, h')) (un_loop2 hG (O4.trans O49) (a := a) (c := c) (S := mergeAll Ls) ho (I4.old O49) (I8.old o9) (by omega) (by omega) (r9.weak (O4.trans O48).next) vAll (by omega) y1 y6 rfl rfl rfl) ?_
          rintro ex z g10 ⟨rfl, O10, I10, ⟨T, J10, ST⟩, z6, z10⟩
          simp -implicitDefEqProofs only [endL_exit, b4_20e, t4k4_18_eq]
          unfold t4k4_18
          have n10 : 4 ≤ g10.n0 := by rw [O10.n0]; exact hG
          obtain ⟨va10, gva, rva, nva⟩ := I10.ex
          obtain ⟨w11, g11, e11, o11, r11⟩ := r23 n10 gva rva nva (by omega)
          have e11 := CV_up (f := 23) rfl (by decide) e11
          have J11 := J10.old o11
          obtain ⟨vc, gvc, rvc, nvc⟩ := J11.ex
          have eqT : mergeAll Ls = T := S4.uniq ST I4.ks J10.ks
          obtain ⟨w12, g12, e12, o12, r12⟩ := r23 (by rw [o11.n0]; exact n10) gvc rvc nvc (by rw [← eqT]; omega)
          have e12 := CV_up (f := 23) rfl (by decide) e12
          have e13 := CV_up (f := 19) rfl (by decide) (r19 (by rw [o12.n0, o11.n0]; exact n10) (r11.mono o12) r12 (by omega))
          rw [decide_eq_true eqT] at e13
          have k := k14 g12 (O10.trans (o11.trans o12))
          simp -implicitDefEqProofs only [z6, z10, e11, e12, e13, show (bOf (.bool true) == some true) = true from rfl, guardK_true, k, if_true, thenV_some, pu_some]
          exact ⟨g12, rfl⟩
  obtain ⟨out, e, h', e'⟩ := key
  exact ⟨h', CV_body is4 hG rfl (by decide) ((t4_eq _ _ _ _).trans (e.trans e'))⟩
end Go.Proofs.YtdnahgfgoajmcaaDoor

namespace Go.Proofs.YtdnahgfgoajmcaaDoor
open Go Go.Abs
attribute [local congr] thenV_congr
theorem is5 : IsFn Tryd.prog 5 Tryd.f5 := ⟨by kernel_rfl, by kernel_rfl, by kernel_rfl, by kernel_rfl⟩
theorem b5_11e (C : CallF) (e : Env) (h : Heap) : b5_11 C 0 e h = k5_9 C e h := rfl
theorem b5_15e (C : CallF) (e : Env) (h : Heap) : b5_15 C 2 e h = k5_13 C e h := rfl
theorem b5_23e (C : CallF) (e : Env) (h : Heap) : b5_23 C 6 e h = k5_21 C e h := rfl
theorem b5_41e (C : CallF) (e : Env) (h : Heap) : b5_41 C 4 e h = k5_39 C e h := rfl
theorem b5_53e (C : CallF) (e : Env) (h : Heap) : b5_53 C 8 e h = k5_51 C e h := rfl
/-- What is asked of the inventory while it stays as it is. -/
structure Asks (g1 : Heap) (a : Nat) (S : List RecD) : Prop where
  bur : ∀ g o, Old g1 g → D32 o → ∃ h', CV 28 [ptr a 0, .agg (u8s o).toArray] g = some (.bool (buriedB S o), h') ∧ Old g h'
  bas : ∀ g n, Old g1 g → ∃ h', CV 29 [ptr a 0, .int .i64 n] g = some (.int .u64 (baseN S n : Int), h') ∧ Old g h'
theorem Asks.of {g1 : Heap} {a : Nat} {S : List RecD} (hG : 4 ≤ g1.n0) (I : IvH g1 a S) (hl : S.length ≤ 1000000) : Asks g1 a S := by
  refine ⟨fun g o O ho => ?_, fun g n O => ?_⟩
  · obtain ⟨va, gv, R, nv⟩ := (I.old O).ex
    obtain ⟨h', e, o'⟩ := r28 (h := g) (by rw [O.n0]; exact hG) gv R.rsl nv hl ho
    exact ⟨h', CV_up (f := 28) rfl (by decide) e, o'⟩
  · obtain ⟨va, gv, R, nv⟩ := (I.old O).ex
    obtain ⟨h', e, o'⟩ := r29 (h := g) (by rw [O.n0]; exact hG) gv R.rsl nv hl n
    exact ⟨h', CV_up (f := 29) rfl (by decide) e, o'⟩
set_option maxRecDepth 100000 in
/-- The loop that looks for a record among those that were merged. -/
theorem nm_in1 {g1 g0 : Heap} (hG : 4 ≤ g1.n0) (O : Old g1 g0) {vl va : Value} {S All : List RecD} (hl : RSl g1 vl S) (ha : RSl g1 va All) (hA : All.length ≤ 1000000) {i : Nat} (hi : i < S.length) (hn : ∀ q ∈ All, newerB q S[i] = false)
    {x : Nat → Value} (x5 : x 5 = va) (x7 : x 7 = vl) (x8 : x 8 = i64n i) (x13 : x 13 = .bool false) (x14 : x 14 = i64n 0) :
    Fin 194 (fun ex y g => ex = .exit 4 ∧ Old g1 g ∧ y 3 = x 3 ∧ y 5 = x 5 ∧ y 7 = x 7 ∧ y 8 = x 8 ∧ y 13 = .bool (All.any fun q => decide (q = S[i]))) (iter (codeA Tryd.prog CV (partOf Tryd.f5 [1, 1, 1, 1, 1, 1, 1, 0, 1, 0, 0, 1, 0, 0, 1, 1, 1, 1, 0, 1, 0, 0])) rounds (mkF 194 x) g0) := by
  have hal := ha.len
  obtain ⟨bl, ol, ixl, wl, ldl⟩ := hl.rd hi
  refine loop_fin (t5l5_111111101001001111010_eq CV) (Inv := fun k y g => ∃ j, j + k = All.length ∧ y 3 = x 3 ∧ y 5 = va ∧ y 7 = vl ∧ y 8 = i64n i ∧ y 14 = i64n j ∧ y 13 = .bool ((All.take j).any fun q => decide (q = S[i])) ∧ Old g1 g) ?_ All.length (by have : rounds = 18446744073709551616 := rfl; omega) ⟨0, by omega, rfl, x5, x7, x8, x14, x13, O⟩
  rintro k y g ⟨j, hjk, y3, y5, y7, y8, y14, y13, Og⟩
  unfold t5l5_111111101001001111010
  simp -implicitDefEqProofs only [y5, y14, hal, lss3, thenV_some, pu_some]
  by_cases hj : j < All.length
  · obtain ⟨ba, oa, ixa, wa, lda⟩ := ha.rd hj
    have L1 := lda g Og
    have L2 := ldl g Og
    obtain ⟨g2, e2, o2⟩ := r30 (h := g) (by rw [Og.n0]; exact hG) wa wl
    have e2 := CV_up (f := 30) rfl (by decide) e2
    rw [hn _ (List.getElem_mem hj)] at e2
    have a14 : bin Tryd.prog .add 3 (i64n j) (.int .i64 1) = some (i64n (j + 1)) := add31 (by omega)
    have hany := any_take hj fun q => decide (q = S[i])
    cases hf : (All.take j).any fun q => decide (q = S[i]) with
    | true =>
      rw [hf] at y13 hany
      simp -implicitDefEqProofs only [decide_eq_true hj, y13, bt', guardK_false, if_true, y5, y7, y8, y14, ixa, ixl, L1, L2, e2, a14, thenV_some, pu_some]
      exact Rnd.next (k - 1) (by omega) ⟨j + 1, by omega, y3, y5, y7, y8, rfl, by rw [hany]; rfl, Og.trans o2⟩
    | false =>
      rw [hf] at y13 hany
      rw [Bool.false_or] at hany
      simp -implicitDefEqProofs only [decide_eq_true hj, y13, bf, guardK_true, Bool.false_eq_true, if_false, y5, y7, y8, y14, ixa, ixl, L1, L2, eq_rec wa wl, e2, a14, thenV_some, pu_some]
      exact Rnd.next (k - 1) (by omega) ⟨j + 1, by omega, y3, y5, y7, y8, rfl, by rw [hany]; rfl, Og.trans o2⟩
  · have hE : j = All.length := by omega
    rw [hE, List.take_length] at y13
    simp -implicitDefEqProofs only [decide_eq_false hj, thenV_some]
    exact Rnd.out 4 ⟨rfl, Og, y3, y5.trans x5.symm, y7.trans x7.symm, y8.trans x8.symm, y13⟩
set_option maxRecDepth 100000 in
/-- The loop that looks for what covers a record. -/
theorem nm_in2 {g1 g0 : Heap} (hG : 4 ≤ g1.n0) (O : Old g1 g0) {vl : Value} {S : List RecD} (hl : RSl g1 vl S) (hS : S.length ≤ 1000000) {r : RecD} (wr : r.Wf) {q : Nat} (gq : g0.get q = some (recC r)) {c0 : Bool}
    {x : Nat → Value} (x7 : x 7 = vl) (x16 : x 16 = ptr q 0) (x17 : x 17 = .bool c0) (x18 : x 18 = i64n 0) :
    Fin 194 (fun ex y g => ex = .exit 8 ∧ Old g1 g ∧ y 3 = x 3 ∧ y 5 = x 5 ∧ y 7 = x 7 ∧ y 15 = x 15 ∧ y 17 = .bool (c0 || S.any fun s => decide (s = r) || newerB s r)) (iter (codeA Tryd.prog CV (partOf Tryd.f5 [1, 1, 1, 1, 1, 1, 1, 1, 0, 1, 0, 0, 1, 0, 0, 1, 1, 0, 1, 0, 0])) rounds (mkF 194 x) g0) := by
  have hll := hl.len
  refine loop_fin (t5l5_11111111010010011010_eq CV) (Inv := fun k y g => ∃ j, j + k = S.length ∧ y 3 = x 3 ∧ y 5 = x 5 ∧ y 7 = vl ∧ y 15 = x 15 ∧ y 16 = ptr q 0 ∧ y 18 = i64n j ∧ y 17 = .bool (c0 || (S.take j).any fun s => decide (s = r) || newerB s r) ∧ Old g0 g) ?_ S.length (by have : rounds = 18446744073709551616 := rfl; omega) ⟨0, by omega, rfl, rfl, x7, rfl, x16, x18, by rw [x17]; simp, Kept.refl _ _⟩
  rintro k y g ⟨j, hjk, y3, y5, y7, y15, y16, y18, y17, Og⟩
  have O1 := O.trans Og
  unfold t5l5_11111111010010011010
  simp -implicitDefEqProofs only [y7, y18, hll, lss3, thenV_some, pu_some]
  by_cases hj : j < S.length
  · obtain ⟨bl, ol, ixl, wl, ldl⟩ := hl.rd hj
    have L1 := ldl g O1
    have L2 := ldN_all (Old.get Og gq) (rec_cells wr).1 (rec_cells wr).2.1
    obtain ⟨g2, e2, o2⟩ := r30 (h := g) (by rw [O1.n0]; exact hG) wl wr
    have e2 := CV_up (f := 30) rfl (by decide) e2
    have a18 : bin Tryd.prog .add 3 (i64n j) (.int .i64 1) = some (i64n (j + 1)) := add31 (by omega)
    have hany := any_take hj fun s => decide (s = r) || newerB s r
    cases hf : (c0 || (S.take j).any fun s => decide (s = r) || newerB s r) with
    | true =>
      rw [hf] at y17
      simp -implicitDefEqProofs only [decide_eq_true hj, y17, bt', guardK_false, if_true, y18, a18, thenV_some, pu_some]
      exact Rnd.next (k - 1) (by omega) ⟨j + 1, by omega, y3, y5, y7, y15, y16, rfl, by rw [hany, ← Bool.or_assoc, hf]; rfl, Og⟩
    | false =>
      rw [hf] at y17
      by_cases he : S[j] = r
      · simp -implicitDefEqProofs only [decide_eq_true hj, y17, bf, bt', guardK_true, guardK_false, Bool.false_eq_true, if_false, if_true, y7, y16, y18, ixl, L1, L2, eq_rec wl wr, decide_eq_true he, a18, thenV_some, pu_some]
        exact Rnd.next (k - 1) (by omega) ⟨j + 1, by omega, y3, y5, y7, y15, y16, rfl, by rw [hany, ← Bool.or_assoc, hf, decide_eq_true he]; rfl, Og⟩
      · simp -implicitDefEqProofs only [decide_eq_true hj, y17, bf, guardK_true, Bool.false_eq_true, if_false, y7, y16, y18, ixl, L1, L2, eq_rec wl wr, decide_eq_false he, e2, a18, thenV_some, pu_some]
        exact Rnd.next (k - 1) (by omega) ⟨j + 1, by omega, y3, y5, y7, y15, y16, rfl, by rw [hany, ← Bool.or_assoc, hf, decide_eq_false he]; rfl, Og.trans o2⟩
  · have hE : j = S.length := by omega
    rw [hE, List.take_length] at y17
    simp -implicitDefEqProofs only [decide_eq_false hj, thenV_some]
    exact Rnd.out 8 ⟨rfl, O1, y3, y5, y7.trans x7.symm, y15, y17⟩
set_option maxRecDepth 100000 in
set_option maxHeartbeats 2000000 in
/-- The second loop: what is left is in order, not void, was merged, and nothing is newer. -/
theorem nm_loop2 {g1 : Heap} (hG : 4 ≤ g1.n0) {a : Nat} {vl va : Value} {S All : List RecD} (hI : Asks g1 a S) (hl : RSl g1 vl S) (ha : RSl g1 va All) (hA : All.length ≤ 1000000) (hS : S.length ≤ 1000000) (hnf : Is S All) (vA : Vld All) (vS : Vld S) (ks : KS S)
    {x : Nat → Value} (x3 : x 3 = ptr a 0) (x5 : x 5 = va) (x7 : x 7 = vl) (x8 : x 8 = i64n 0) :
    Fin 194 (fun ex y g => ex = .exit 2 ∧ Old g1 g ∧ y 3 = x 3 ∧ y 5 = x 5 ∧ y 7 = x 7) (iter (codeA Tryd.prog CV (partOf Tryd.f5 [1, 1, 1, 1, 1, 1, 1, 0, 1, 0, 0])) rounds (mkF 194 x) g1) := by
  have hll := hl.len
  refine loop_fin (t5l5_1111111010_eq CV) (Inv := fun k y g => ∃ i, i + k = S.length ∧ y 3 = ptr a 0 ∧ y 5 = va ∧ y 7 = vl ∧ y 8 = i64n i ∧ Old g1 g) ?_ S.length (by have : rounds = 18446744073709551616 := rfl; omega) ⟨0, by omega, x3, x5, x7, x8, Kept.refl _ _⟩
  rintro k y g ⟨i, hik, y3, y5, y7, y8, Og⟩
  unfold t5l5_1111111010
  simp -implicitDefEqProofs only [y7, y8, hll, lss3, thenV_some, pu_some]
  by_cases hi : i < S.length
  · obtain ⟨b, o, ix, wr, ld⟩ := hl.rd hi
    have hr := List.getElem_mem hi
    obtain ⟨nf1, nf2, nf3⟩ := nf_left hnf vA hr
    obtain ⟨sa, sc, h2, e2, sb2, o2⟩ := (r27 (h := g) (by rw [Og.n0]; exact hG) wr).1 (vS _ hr).2
    have e2 := CV_up (f := 27) rfl (by decide) e2
    have O2 := Og.trans o2
    have x0 : extractA (.tuple #[.slice sa 34 sc, .int .i64 0]) 0 = some (.slice sa 34 sc) := rfl
    have x1 : extractA (.tuple #[.slice sa 34 sc, .int .i64 0]) 1 = some (.int .i64 0) := rfl
    have a8 : bin Tryd.prog .add 3 (i64n i) (.int .i64 1) = some (i64n (i + 1)) := add31 (by omega)
    -- the queries, in any heap behind
    have bur : ∀ q, Old g1 q → ∃ q', CV 28 [ptr a 0, .agg (u8s S[i].obj).toArray] q = some (.bool (buriedB S S[i].obj), q') ∧ Old q q' := fun q oq => hI.bur q _ oq wr.obj
    have bas : ∀ q, Old g1 q → ∃ q', CV 29 [ptr a 0, .int .i64 S[i].holder] q = some (.int .u64 (baseN S S[i].holder : Int), q') ∧ Old q q' := fun q oq => hI.bas q _ oq
    have parts : ∀ q, Old g1 q → ld1 (ptr b (o + 0)) q = some (.int .u8 (S[i].kind : Int), q) ∧ ldN 32 (ptr b (o + 1)) q = some (.agg (u8s S[i].obj).toArray, q) ∧ ld1 (ptr b (o + 33)) q = some (.int .i64 S[i].holder, q) ∧ ld1 (ptr b (o + 34)) q = some (.int .u64 (S[i].inc : Int), q) := fun q oq => rec_parts wr (ld q oq)
    simp -implicitDefEqProofs only [decide_eq_true hi, ix, ld g Og, e2, x0, x1, gtrC i 0 0 rfl, thenV_some, pu_some]
    by_cases h0 : 0 < i
    · have hi1 : i - 1 < S.length := by omega
      obtain ⟨b', o', ix', wr', ld'⟩ := hl.rd hi1
      obtain ⟨sa', sc', h3, e3, sb3, o3⟩ := (r27 (h := h2) (by rw [O2.n0]; exact hG) wr').1 (vS _ (List.getElem_mem hi1)).2
      have e3 := CV_up (f := 27) rfl (by decide) e3
      have O3 := O2.trans o3
      have z0 : extractA (.tuple #[.slice sa' 34 sc', .int .i64 0]) 0 = some (.slice sa' 34 sc') := rfl
      have z1 : extractA (.tuple #[.slice sa' 34 sc', .int .i64 0]) 1 = some (.int .i64 0) := rfl
      have c1 := cvBS_at (c := sc') sb3
      have c2 := cvBS_at (c := sc) (Old.bytes o3 sb2)
      have hlt : cmpK S[i - 1] S[i] < 0 := by
        have h := ks
        unfold KS at h
        rw [List.pairwise_iff_getElem] at h
        exact h (i - 1) i hi1 hi (by omega)
      have hge : bin Tryd.prog .geq 9 (.string (strOf (keyB S[i - 1]))) (.string (strOf (keyB S[i]))) = some (.bool false) := by rw [geq_key, decide_eq_true hlt]; rfl
      obtain ⟨p0, p1, p33, p34⟩ := parts h3 O3
      simp -implicitDefEqProofs only [decide_eq_true h0, sub31 h0 (by omega), ix', ld' h2 O2, e3, z0, z1, c1, c2, hge, ix, addP_ptr, p0, eq56, thenV_some, pu_some]
      by_cases hk : S[i].kind = 3
      · have hv := nf1
        unfold voidB at hv
        rw [decide_eq_true hk, Bool.true_and, Bool.or_eq_false_iff] at hv
        obtain ⟨h4, e4, o4⟩ := bur h3 O3
        rw [hv.1] at e4
        have O4 := O3.trans o4
        obtain ⟨q0, q1, q33, q34⟩ := parts h4 O4
        obtain ⟨h5, e5, o5⟩ := bas h4 O4
        have O5 := O4.trans o5
        obtain ⟨s0, s1, s33, s34⟩ := parts h5 O5
        simp -implicitDefEqProofs only [decide_eq_true hk, bt, bf, guardK_true, y3, ix, addP_ptr, p1, e4, q34, q33, e5, lss32, hv.2, s34, chkI, Bool.and_self, Bool.false_eq_true, if_false, if_true, thenV_some, pu_some]
        refine endL_fin (nm_in1 hG O5 hl ha hA hi nf3 (by first | rfl | exact y5) (by first | rfl | exact y7) (by first | rfl | exact y8) rfl rfl) ?_
        rintro ex z g6 ⟨rfl, O6, w3, w5, w7, w8, w13⟩
        have hfound : (All.any fun q => decide (q = S[i])) = true := by
          rw [List.any_eq_true]
          exact ⟨S[i], nf2, by simp⟩
        rw [hfound] at w13
        have w8' : z 8 = i64n i := w8.trans (by first | rfl | exact y8)
        simp -implicitDefEqProofs only [endL_exit, b5_41e, t5k5_39_eq]
        unfold t5k5_39
        simp -implicitDefEqProofs only [w13, unA_not, Bool.not_true, t5k5_26_eq, thenV_some, pu_some]
        unfold t5k5_26
        have w8'' : up z [(138, .bool true), (139, .bool false)] 8 = i64n i := w8'
        simp -implicitDefEqProofs only [w8'', a8, thenV_some, pu_some]
        exact Rnd.next (k - 1) (by omega) ⟨i + 1, by omega, w3.trans (by first | rfl | exact y3), w5.trans (by first | rfl | exact y5), w7.trans (by first | rfl | exact y7), rfl, O6⟩
      · simp -implicitDefEqProofs only [decide_eq_false hk, bf', bu, guardK_false, chkJ, Bool.and_self, Bool.false_eq_true, if_false, thenV_some, pu_some]
        refine endL_fin (nm_in1 hG O3 hl ha hA hi nf3 (by first | rfl | exact y5) (by first | rfl | exact y7) (by first | rfl | exact y8) rfl rfl) ?_
        rintro ex z g6 ⟨rfl, O6, w3, w5, w7, w8, w13⟩
        have hfound : (All.any fun q => decide (q = S[i])) = true := by
          rw [List.any_eq_true]
          exact ⟨S[i], nf2, by simp⟩
        rw [hfound] at w13
        have w8' : z 8 = i64n i := w8.trans (by first | rfl | exact y8)
        simp -implicitDefEqProofs only [endL_exit, b5_41e, t5k5_39_eq]
        unfold t5k5_39
        simp -implicitDefEqProofs only [w13, unA_not, Bool.not_true, t5k5_26_eq, thenV_some, pu_some]
        unfold t5k5_26
        have w8'' : up z [(138, .bool true), (139, .bool false)] 8 = i64n i := w8'
        simp -implicitDefEqProofs only [w8'', a8, thenV_some, pu_some]
        exact Rnd.next (k - 1) (by omega) ⟨i + 1, by omega, w3.trans (by first | rfl | exact y3), w5.trans (by first | rfl | exact y5), w7.trans (by first | rfl | exact y7), rfl, O6⟩
    · obtain ⟨p0, p1, p33, p34⟩ := parts h2 O2
      simp -implicitDefEqProofs only [decide_eq_false h0, ix, addP_ptr, p0, eq56, thenV_some, pu_some]
      by_cases hk : S[i].kind = 3
      · have hv := nf1
        unfold voidB at hv
        rw [decide_eq_true hk, Bool.true_and, Bool.or_eq_false_iff] at hv
        obtain ⟨h4, e4, o4⟩ := bur h2 O2
        rw [hv.1] at e4
        have O4 := O2.trans o4
        obtain ⟨q0, q1, q33, q34⟩ := parts h4 O4
        obtain ⟨h5, e5, o5⟩ := bas h4 O4
        have O5 := O4.trans o5
        obtain ⟨s0, s1, s33, s34⟩ := parts h5 O5
        simp -implicitDefEqProofs only [decide_eq_true hk, bt, bf, guardK_true, y3, ix, addP_ptr, p1, e4, q34, q33, e5, lss32, hv.2, s34, chkI, Bool.and_self, Bool.false_eq_true, if_false, if_true, thenV_some, pu_some]
        refine endL_fin (nm_in1 hG O5 hl ha hA hi nf3 (by first | rfl | exact y5) (by first | rfl | exact y7) (by first | rfl | exact y8) rfl rfl) ?_
        rintro ex z g6 ⟨rfl, O6, w3, w5, w7, w8, w13⟩
        have hfound : (All.any fun q => decide (q = S[i])) = true := by
          rw [List.any_eq_true]
          exact ⟨S[i], nf2, by simp⟩
        rw [hfound] at w13
        have w8' : z 8 = i64n i := w8.trans (by first | rfl | exact y8)
        simp -implicitDefEqProofs only [endL_exit, b5_41e, t5k5_39_eq]
        unfold t5k5_39
        simp -implicitDefEqProofs only [w13, unA_not, Bool.not_true, t5k5_26_eq, thenV_some, pu_some]
        unfold t5k5_26
        have w8'' : up z [(138, .bool true), (139, .bool false)] 8 = i64n i := w8'
        simp -implicitDefEqProofs only [w8'', a8, thenV_some, pu_some]
        exact Rnd.next (k - 1) (by omega) ⟨i + 1, by omega, w3.trans (by first | rfl | exact y3), w5.trans (by first | rfl | exact y5), w7.trans (by first | rfl | exact y7), rfl, O6⟩
      · simp -implicitDefEqProofs only [decide_eq_false hk, bf', bu, guardK_false, chkJ, Bool.and_self, Bool.false_eq_true, if_false, thenV_some, pu_some]
        refine endL_fin (nm_in1 hG O2 hl ha hA hi nf3 (by first | rfl | exact y5) (by first | rfl | exact y7) (by first | rfl | exact y8) rfl rfl) ?_
        rintro ex z g6 ⟨rfl, O6, w3, w5, w7, w8, w13⟩
        have hfound : (All.any fun q => decide (q = S[i])) = true := by
          rw [List.any_eq_true]
          exact ⟨S[i], nf2, by simp⟩
        rw [hfound] at w13
        have w8' : z 8 = i64n i := w8.trans (by first | rfl | exact y8)
        simp -implicitDefEqProofs only [endL_exit, b5_41e, t5k5_39_eq]
        unfold t5k5_39
        simp -implicitDefEqProofs only [w13, unA_not, Bool.not_true, t5k5_26_eq, thenV_some, pu_some]
        unfold t5k5_26
        have w8'' : up z [(138, .bool true), (139, .bool false)] 8 = i64n i := w8'
        simp -implicitDefEqProofs only [w8'', a8, thenV_some, pu_some]
        exact Rnd.next (k - 1) (by omega) ⟨i + 1, by omega, w3.trans (by first | rfl | exact y3), w5.trans (by first | rfl | exact y5), w7.trans (by first | rfl | exact y7), rfl, O6⟩
  · have hE : i = S.length := by omega
    simp -implicitDefEqProofs only [decide_eq_false hi, thenV_some]
    exact Rnd.out 2 ⟨rfl, Og, y3.trans x3.symm, y5.trans x5.symm, y7.trans x7.symm⟩
set_option maxRecDepth 100000 in
set_option maxHeartbeats 2000000 in
/-- The third loop: what was merged is there, or covered. -/
theorem nm_loop3 {g1 g0 : Heap} (hG : 4 ≤ g1.n0) (O : Old g1 g0) {a : Nat} {vl va : Value} {S All : List RecD} (hI : Asks g1 a S) (hl : RSl g1 vl S) (ha : RSl g1 va All) (hA : All.length ≤ 1000000) (hS : S.length ≤ 1000000) (hnf : Is S All) (vA : Vld All) (vS : Vld S) (ks : KS S)
    {x : Nat → Value} (x3 : x 3 = ptr a 0) (x5 : x 5 = va) (x7 : x 7 = vl) (x15 : x 15 = i64n 0) :
    Fin 194 (fun ex y g => ex = .exit 6 ∧ Old g1 g) (iter (codeA Tryd.prog CV (partOf Tryd.f5 [1, 1, 1, 1, 1, 1, 1, 1, 0, 1, 0, 0])) rounds (mkF 194 x) g0) := by
  have hal := ha.len
  refine loop_fin (t5l5_11111111010_eq CV) (Inv := fun k y g => ∃ j, j + k = All.length ∧ y 3 = ptr a 0 ∧ y 5 = va ∧ y 7 = vl ∧ y 15 = i64n j ∧ Old g1 g) ?_ All.length (by have : rounds = 18446744073709551616 := rfl; omega) ⟨0, by omega, x3, x5, x7, x15, O⟩
  rintro k y g ⟨j, hjk, y3, y5, y7, y15, Og⟩
  unfold t5l5_11111111010
  simp -implicitDefEqProofs only [y5, y15, hal, lss3, thenV_some, pu_some]
  by_cases hj : j < All.length
  · obtain ⟨b, o, ix, wr, ld⟩ := ha.rd hj
    have hcov := nf_covered hnf vA ks.dist vS (List.getElem_mem hj)
    generalize All[j] = r at *
    obtain ⟨h1, h2, e1, e2, o2, g2⟩ := rec_var g wr
    have O2 := Og.trans o2
    have a15 : bin Tryd.prog .add 3 (i64n j) (.int .i64 1) = some (i64n (j + 1)) := add31 (by omega)
    have P := r_ld wr g2
    simp -implicitDefEqProofs only [decide_eq_true hj, ix, ld g Og, e1, e2, addP_ptr, Nat.zero_add, P.l0, eq56, thenV_some, pu_some]
    -- behind the queries
    have fin : ∀ (g5 : Heap) (z0 : Nat → Value), Old h2 g5 → z0 3 = ptr a 0 → z0 5 = va → z0 7 = vl → z0 15 = i64n j → z0 16 = ptr g.next 0 → z0 17 = .bool (voidB S r) → z0 18 = i64n 0 →
        Rnd 194 (fun k y g => ∃ j, j + k = All.length ∧ y 3 = ptr a 0 ∧ y 5 = va ∧ y 7 = vl ∧ y 15 = i64n j ∧ Old g1 g) (fun ex y g => ex = .exit 6 ∧ Old g1 g) k
          (endL (iter (codeA Tryd.prog CV (partOf Tryd.f5 [1, 1, 1, 1, 1, 1, 1, 1, 0, 1, 0, 0, 1, 0, 0, 1, 1, 0, 1, 0, 0])) rounds (mkF 194 z0) g5) (fun e h => some (Ex.ret, e, h)) (b5_53 CV)) := by
      intro g5 z0 o5 z3 z5 z7 z15 z16 z17 z18
      refine endL_fin (nm_in2 hG (O2.trans o5) hl hS wr (Old.get o5 g2) z7 z16 z17 z18) ?_
      rintro ex z g6 ⟨rfl, O6, w3, w5, w7, w15, w17⟩
      have hc : (voidB S r || S.any fun s => decide (s = r) || newerB s r) = true := by
        rcases hcov with h | ⟨q, hq, h⟩
        · rw [h]; rfl
        · have : (S.any fun s => decide (s = r) || newerB s r) = true := by
            rw [List.any_eq_true]
            refine ⟨q, hq, ?_⟩
            rcases h with h | h
            · simp [h]
            · simp [h]
          rw [this, Bool.or_true]
      rw [hc] at w17
      have w15' : z 15 = i64n j := w15.trans z15
      simp -implicitDefEqProofs only [endL_exit, b5_53e, t5k5_51_eq]
      unfold t5k5_51
      simp -implicitDefEqProofs only [w17, unA_not, Bool.not_true, t5k5_46_eq, thenV_some, pu_some]
      unfold t5k5_46
      have w15'' : up z [(191, .bool true), (192, .bool false)] 15 = i64n j := w15'
      simp -implicitDefEqProofs only [w15'', a15, thenV_some, pu_some]
      exact Rnd.next (k - 1) (by omega) ⟨j + 1, by omega, w3.trans z3, w5.trans z5, w7.trans z7, rfl, O6⟩
    by_cases hk : r.kind = 3
    · obtain ⟨h4, e4, o4⟩ := hI.bur h2 r.obj O2 wr.obj
      have O4 := O2.trans o4
      have P4 := r_ld wr (Old.get o4 g2)
      cases hb : buriedB S r.obj with
      | true =>
        rw [hb] at e4
        have hv : voidB S r = true := by unfold voidB; rw [decide_eq_true hk, hb]; rfl
        simp -implicitDefEqProofs only [decide_eq_true hk, bt, bt', guardK_true, guardK_false, y3, addP_ptr, Nat.zero_add, P.l1, e4, chkJ, Bool.and_self, if_true, thenV_some, pu_some]
        exact fin h4 _ o4 y3 y5 y7 y15 rfl (by rw [hv]; rfl) rfl
      | false =>
        rw [hb] at e4
        obtain ⟨h5, e5, o5⟩ := hI.bas h4 r.holder O4
        have P5 := r_ld wr (Old.get (o4.trans o5) g2)
        have hv : voidB S r = decide (r.inc < baseN S r.holder) := by unfold voidB; rw [decide_eq_true hk, hb]; rfl
        simp -implicitDefEqProofs only [decide_eq_true hk, bt, bf, guardK_true, y3, addP_ptr, Nat.zero_add, P.l1, e4, P4.l34, P4.l33, e5, lss32, P5.l34, chkI, Bool.and_self, Bool.false_eq_true, if_false, if_true, thenV_some, pu_some]
        exact fin h5 _ (o4.trans o5) y3 y5 y7 y15 rfl (by rw [hv]; rfl) rfl
    · have hv : voidB S r = false := by unfold voidB; rw [decide_eq_false hk]; rfl
      simp -implicitDefEqProofs only [decide_eq_false hk, bf', bu, guardK_false, chkJ, Bool.and_self, Bool.false_eq_true, if_false, thenV_some, pu_some]
      exact fin h2 _ (Kept.refl _ _) y3 y5 y7 y15 rfl (by rw [hv]; rfl) rfl
  · simp -implicitDefEqProofs only [decide_eq_false hj, thenV_some]
    exact Rnd.out 6 ⟨rfl, Og⟩
set_option maxRecDepth 100000 in
/-- The first loop: all lists are merged, and laid one behind another. -/
theorem nm_loop1 {h0 g0 : Heap} (hG : 4 ≤ h0.n0) (O : Old h0 g0) {a : Nat} {v va : Value} {Ls : List (List RecD)} (hv : LLS h0 v Ls) (hr : rightB Ls = true) (I : IvH g0 a []) (ha : h0.next ≤ a) (rl : RLst g0 h0.next va []) (sp : ∀ w b, g0.get a = some [w] → slB w = some b → b ≠ rlB va)
    {x : Nat → Value} (x0 : x 0 = v) (x3 : x 3 = ptr a 0) (x5 : x 5 = va) (x6 : x 6 = i64n 0) :
    Fin 194 (fun ex y g => ex = .exit 0 ∧ Old h0 g ∧ IvH g a (mergeAll Ls) ∧ Is (mergeAll Ls) Ls.flatten ∧ RLst g h0.next (y 5) Ls.flatten ∧ y 3 = ptr a 0) (iter (codeA Tryd.prog CV (partOf Tryd.f5 [1, 1, 1, 1, 1, 0, 1, 0, 0])) rounds (mkF 194 x) g0) := by
  obtain ⟨hr1, hr2, hr3⟩ := right_vld hr
  have hll := hv.len
  refine loop_fin (t5l5_11111010_eq CV) (Inv := fun k y g => ∃ i, i + k = Ls.length ∧ y 0 = v ∧ y 3 = ptr a 0 ∧ y 6 = i64n i ∧ Old h0 g ∧ IvH g a (mergeAll (Ls.take i)) ∧ Is (mergeAll (Ls.take i)) (Ls.take i).flatten ∧ RLst g h0.next (y 5) (Ls.take i).flatten ∧ ∀ va b, g.get a = some [va] → slB va = some b → b ≠ rlB (y 5)) ?_ Ls.length (by have : rounds = 18446744073709551616 := rfl; omega) ⟨0, by omega, x0, x3, x6, O, I, Is.nil, by rw [x5]; exact rl, by rw [x5]; exact sp⟩
  rintro k y g ⟨i, hik, y0, y3, y6, Og, Ig, Si, Ri, Sp⟩
  unfold t5l5_11111010
  simp -implicitDefEqProofs only [y0, y6, hll, lss3, thenV_some, pu_some]
  by_cases hi : i < Ls.length
  · obtain ⟨b, o, w, ix, hb, hld, R⟩ := hv.2 i hi
    obtain ⟨q1, q2⟩ := hr2 _ (List.getElem_mem hi)
    have hn : 4 ≤ g.n0 := by rw [Og.n0]; exact hG
    have ld : ∀ q, Old h0 q → ld1 (ptr b o) q = some (w, q) := fun q oq => hld q (Kept.get oq b hb (fun h => h))
    have h2 : (Ls.take i).flatten.length ≤ Ls.flatten.length := by
      conv => rhs; rw [← List.take_append_drop i Ls, List.flatten_append, List.length_append]
      omega
    have lsum : (mergeAll (Ls.take i)).length ≤ 500000 := by
      have h1 := mergeAll_len (Ls.take i)
      omega
    obtain ⟨v2, g2, e2, o2, r2⟩ := r26L hn (R.mono Og) (by omega)
    have e2 := CV_up (f := 26) rfl (by decide) e2
    have I2 := Ig.old o2
    obtain ⟨g3, e3, I3, k3, new3⟩ := r25B I2 r2.rcs.rsl q2 lsum (by omega)
    obtain ⟨wc, hc⟩ := I2.cell
    have O2 := Og.trans o2
    have O3 : Old h0 g3 := O2.also k3 (fun d hd q => by omega)
    have R3 := (Ri.old o2).keep2 k3 hc
    obtain ⟨v4, g4, e4, r4, k4, b4⟩ := R3.pushL (R.mono O3) (by rw [O3.n0]; exact h0.n0_le_next) O3.next (by omega) (by omega)
    have hb4 := R3.blk
    have O4 : Old h0 g4 := O3.also k4 (fun d hd q => by
      have : d = rlB (y 5) := q
      omega)
    have hvl : Vld Ls[i] := fun r hr => ⟨R.1 r hr, q2 r hr⟩
    have a6 : bin Tryd.prog .add 3 (i64n i) (.int .i64 1) = some (i64n (i + 1)) := add31 (by omega)
    simp -implicitDefEqProofs only [decide_eq_true hi, y3, ix, ld g Og, e2, e3, ld g3 O3, e4, a6, thenV_some, pu_some]
    have hl5 := recsC_len R3.1
    obtain ⟨wc3, hc3⟩ := I3.cell
    have hne : a ≠ rlB (y 5) := fun e => ne_len hb4.2 hc3 (by omega) e.symm
    have hlt5 : rlB (y 5) < g2.next := g2.lt_of_get (Ri.old o2).blk.2
    have hg2 := o2.next
    have sep3 : ∀ w b, g3.get a = some [w] → slB w = some b → b ≠ rlB (y 5) := fun w b e1 e2 e3 => by
      have := new3 w b e1 e2
      omega
    have I4 : IvH g4 a (mergeAll (Ls.take (i + 1))) := by
      rw [mergeAll_take hi]
      exact I3.keepS k4 hne fun w e1 e2 => sep3 w _ e1 e2 rfl
    have sep4 : ∀ w b, g4.get a = some [w] → slB w = some b → b ≠ rlB v4 := fun w b e1 e2 => by
      have e1' : g3.get a = some [w] := by
        rw [hc3, ← e1, k4.getE hc3 hne]
      rcases b4 with q | q
      · rw [q]; exact sep3 w b e1' e2
      · rw [q]
        obtain ⟨va3, p1, p2, _⟩ := I3.ex
        rw [p1] at e1'
        cases e1'
        have := p2.slB_lt e2
        omega
    refine Rnd.next (k - 1) (by omega) ⟨i + 1, by omega, y0, y3, rfl, O4, I4, ?_, ?_, sep4⟩
    · rw [mergeAll_take hi, flat_take hi]
      exact Si.merge Ig.vld hvl
    · rw [flat_take hi]
      exact r4
  · have hiE : i = Ls.length := by omega
    rw [hiE, List.take_length] at Ig Si Ri
    simp -implicitDefEqProofs only [decide_eq_false hi, thenV_some]
    exact Rnd.out 0 ⟨rfl, Og, Ig, Si, Ri, y3⟩
set_option maxRecDepth 100000 in
set_option maxHeartbeats 2000000 in
/-- InventoryNormal -/
theorem r5 {h : Heap} (hG : 4 ≤ h.n0) (hz : h.get 3 = some roundsL) {v : Value} {Ls : List (List RecD)} (hv : LLS h v Ls) : ∃ h', CV 5 [v] h = some (.bool true, h') := by
  obtain ⟨h1, e1, o1⟩ := r24 hG hv
  have e1 := CV_up (f := 24) rfl (by decide) e1
  have k14 : ∀ g, Old h g → CV 14 [] g = some (.bool true, g) := fun g o => r14V (Old.get o hz)
  have key : ∃ out : Out, t5 CV v h = out ∧ ∃ h', out = some (.bool true, h') := by
    refine ⟨_, rfl, ?_⟩
    unfold t5
    cases hr : rightB Ls with
    | false =>
      rw [hr] at e1
      simp -implicitDefEqProofs only [e1, unA_not, Bool.not_false, k14 h1 o1, thenV_some, pu_some]
      exact ⟨h1, rfl⟩
    | true =>
      rw [hr] at e1
      obtain ⟨hr1, hr2, hr3⟩ := right_vld hr
      have vAll : Vld Ls.flatten := fun r hr => by
        obtain ⟨L, hL, hrL⟩ := List.mem_flatten.1 hr
        obtain ⟨i, hi, rfl⟩ := List.mem_iff_getElem.1 hL
        obtain ⟨b, o, w, _, _, _, R⟩ := hv.2 i hi
        exact ⟨R.1 r hrL, (hr2 _ hL).2 r hrL⟩
      obtain ⟨a, h2, e2, I2, o2, ha⟩ := r15 (by rw [o1.n0]; exact hG) (nil_rcs h1) (fun _ h => by cases h) (by decide)
      rw [merged_nil] at I2
      have x0 : extractA (.tuple #[ptr a 0, .int .i64 0]) 0 = some (ptr a 0) := rfl
      have x1 : extractA (.tuple #[ptr a 0, .int .i64 0]) 1 = some (.int .i64 0) := rfl
      have b3 := b0_recs h2
      have o3 : Old h2 (h2.alloc []) := Kept.alloc _ _ _
      have O2 := o1.trans o2
      have R3 : RLst (h2.alloc []) h.next (.slice (some ⟨h2.next, 0, none⟩) 0 0) [] := ⟨(fun _ h => by cases h), h2.next, none, rfl, by rw [Heap.get_alloc, if_pos rfl]; rfl, O2.next, .inl ⟨rfl, rfl⟩⟩
      have I3 := I2.old o3
      have O3 := O2.trans o3
      generalize h2.alloc [] = h3 at *
      generalize Value.slice (some ⟨h2.next, 0, none⟩) 0 0 = va at *
      simp -implicitDefEqProofs only [e1, unA_not, Bool.not_true, e2, x0, x1, nqE, b3, thenV_some, pu_some]
      refine endL_fin (Q := fun o : Out => ∃ h', o = some (.bool true, h')) (nm_loop1 hG O3 hv hr I3 (Nat.le_trans o1.next ha) R3 (fun w b q1 q2 q3 => ?_) rfl rfl rfl rfl) ?_
      · obtain ⟨va3, p1, p2, _⟩ := I3.ex
        rw [p1] at q1
        cases q1
        obtain ⟨_, a', d', rfl, _, _, _⟩ := p2
        cases a' <;> cases q2
      · rintro ex y g4 ⟨rfl, O4, I4, S4, R4, y3⟩
        simp -implicitDefEqProofs only [endL_exit, b5_11e, t5k5_9_eq]
        unfold t5k5_9
        have n4 : 4 ≤ g4.n0 := by rw [O4.n0]; exact hG
        have lm := mergeAll_len Ls
        obtain ⟨va4, gv4, ra4, na4⟩ := I4.ex
        obtain ⟨w5, g5, e5, o5, r5⟩ := r23 n4 gv4 ra4 na4 (by omega)
        have e5 := CV_up (f := 23) rfl (by decide) e5
        have n5 : 4 ≤ g5.n0 := by rw [o5.n0]; exact n4
        have I5 := I4.old o5
        have A5 := Asks.of n5 I5 (by omega)
        have R5 := (R4.old o5).rcs.rsl
        simp -implicitDefEqProofs only [y3, e5, thenV_some]
        refine endL_fin (Q := fun o : Out => ∃ h', o = some (.bool true, h')) (nm_loop2 n5 A5 r5 R5 (by omega) (by omega) S4 vAll I5.vld I5.ks (by first | rfl | exact y3) rfl rfl rfl) ?_
        rintro ex z g6 ⟨rfl, O6, z3, z5, z7⟩
        simp -implicitDefEqProofs only [endL_exit, b5_15e, t5k5_13_eq]
        unfold t5k5_13
        simp -implicitDefEqProofs only [thenV_some]
        refine endL_fin (Q := fun o : Out => ∃ h', o = some (.bool true, h')) (nm_loop3 n5 O6 A5 r5 R5 (by omega) (by omega) S4 vAll I5.vld I5.ks (z3.trans (by first | rfl | exact y3)) z5 z7 rfl) ?_
        rintro ex z g7 ⟨rfl, O7⟩
        simp -implicitDefEqProofs only [endL_exit, b5_23e, t5k5_21_eq]
        unfold t5k5_21
        simp -implicitDefEqProofs only [k14 g7 ((O4.trans o5).trans O7), thenV_some]
        exact ⟨g7, rfl⟩
  obtain ⟨out, e, h', e'⟩ := key
  exact ⟨h', CV_body is5 hG rfl (by decide) ((t5_eq _ _ _).trans (e.trans e'))⟩
end Go.Proofs.YtdnahgfgoajmcaaDoor

