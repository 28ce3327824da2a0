/-
  The swarm: the document's Parse, whole.
  Conditions: as each theorem states.
  The swarm: lists of events compared.
  Conditions: as each theorem states.
  The swarm: SwarmParses.
  Conditions: as each theorem states.
-/
import Derived.Test.YtdmnphocgfnlpaaGreatDoorG17
namespace Go.Proofs.YtdmnphocgfnlpaaGreatDoor
open Go Go.Abs
noncomputable section
set_option maxRecDepth 100000 in
theorem r15 {h : Heap} (hG : 2 ≤ h.n0) {a : Option Addr} {n c : Nat} {l : List Nat} (hl : sliceBytes a n h = some l) (hgd : 0 < l.length → goodS a n c = true) (hn : n ≤ 100000000) :
    ∃ v h', CW 15 [.slice a n c] h = some (.tuple #[.agg (setC (parseP l).p (parseP l).b (parseP l).q).toArray, v, .int .i64 (parseP l).e], h') ∧ Old h h' ∧ EvV h' v (parseP l).evs := by
  have hlen : l.length = n := (sliceBytes_spec hl).1
  subst hlen
  let ha := h.alloc (setC 0 0 0)
  have oa : Old h ha := Kept.alloc _ _ _
  have ga : ha.get h.next = some (setC 0 0 0) := by rw [Heap.get_alloc, if_pos rfl]
  have na : ha.next = h.next + 1 := Heap.next_alloc ..
  have hn0 := h.n0_le_next
  have start : ∀ res : Value × Heap, (t15 CW (.slice a l.length c) h = some res) → CW 15 [.slice a l.length c] h = some res := fun res e => CW_body is15 hG rfl ((t15_eq _ _ _).trans e)
  have fin : ∀ (g : Heap) (E : Int) (y : Nat → Value), g.get h.next = some (setC 0 0 0) → g.n0 = h.n0 → y 2 = ptr h.next 0 → y 3 = .slice none 0 0 → y 4 = .int .i64 E →
      resultsA Tryz.prog Tryz.f15.results.toList (mkF 78 y) (g.set h.next (setC 0 0 0)) = some (.tuple #[.agg (setC 0 0 0).toArray, .slice none 0 0, .int .i64 E], g.set h.next (setC 0 0 0)) := by
    intro g E y hg hn y2 y3 y4
    rw [res_cell_two results15 agg23 siz23 (by decide) (by decide) (by decide) y (v := .agg (setC 0 0 0).toArray) (by rw [y2]; exact ldSet (Heap.get_set_same (by omega) hg _)), y3, y4]
  have kq : ∀ (g : Heap), g.get h.next = some (setC 0 0 0) → g.n0 = h.n0 → Old h g → Old h (g.set h.next (setC 0 0 0)) := by
    intro g hg hn o
    exact o.also (Kept.set (B := fun c => c = h.next) (by omega) hg (.inr rfl)) (fun d hd hh => by have hh : d = h.next := hh; omega)
  unfold parseP
  by_cases hs7 : (l.length : Int) < 7
  · rw [if_pos (by omega : l.length < 7)]
    refine ⟨.slice none 0 0, ha.set h.next (setC 0 0 0), start _ ?_, kq ha ga rfl oa, EvV.nil _⟩
    unfold t15
    simp -implicitDefEqProofs only [set_eq, newC_eq, thenV_some, lenL_slice, pu_some, bin_lss, decide_eq_true hs7, bld_set0, show h.alloc (setC 0 0 0) = ha from rfl, stSet ga (show ha.n0 ≤ h.next from hn0)]
    refine fin ha 4 _ ga rfl ?_ ?_ ?_ <;> simp only [up_cons, up_nil, Nat.reduceEqDiff, if_false, if_true]
  · rw [if_neg (by omega : ¬ l.length < 7)]
    have hgd := hgd (by omega)
    have hcl := goodS_le hgd
    have hla := oa.bytes hl
    obtain ⟨p0, i0, r0⟩ := idx_byte (c := c) hla (show 0 < l.length by omega)
    obtain ⟨a1, c1, s1, b1, _⟩ := cut_bytes hgd hla 1 3 (by omega) (by omega)
    obtain ⟨a2, c2, s2, b2, _⟩ := cut_bytes hgd hla 3 7 (by omega) (by omega)
    have v1 := r52 (c := c1) (show 2 ≤ ha.n0 from hG) b1 (by decide)
    have v2 := r52 (c := c2) (show 2 ≤ ha.n0 from hG) b2 (by decide)
    have w1 := nat_i64 (be_lt 2 ((l.drop 1).take (3 - 1)) (by simp; omega) (fun x hx => (sliceBytes_spec b1).2.1 x hx)) (by decide)
    have w2 := nat_i64 (be_lt 4 ((l.drop 3).take (7 - 3)) (by simp; omega) (fun x hx => (sliceBytes_spec b2).2.1 x hx)) (by decide)
    simp only [show 3 - 1 = 2 from rfl, show 7 - 3 = 4 from rfl] at s1 s2 v1 v2 w1 w2
    have s1 : slR 1 (.slice a l.length c) (some (.int .i64 1)) (some (.int .i64 3)) none = some (.slice a1 2 c1) := s1
    have s2 : slR 1 (.slice a l.length c) (some (.int .i64 3)) (some (.int .i64 7)) none = some (.slice a2 4 c2) := s2
    have i0 : idxS 1 (.slice a l.length c) (.int .i64 0) = some p0 := i0
    have w0 : IntKind.wrap .i64 ((l.getD 0 0 : Nat) : Int) = (l.getD 0 0 : Nat) := by
      have : l.getD 0 0 < 256 := by
        rw [List.getD_eq_getElem?_getD, List.getElem?_eq_getElem (by omega)]
        exact (sliceBytes_spec hl).2.1 _ (List.getElem_mem _)
      exact nat_i64 this (by decide)
    have q0 := r0 ha hla
    rw [be_one (by omega)]
    generalize hP : ((l.getD 0 0 : Nat) : Int) = P at *
    generalize hB : ((be ((l.drop 1).take 2) : Nat) : Int) = B at *
    generalize hQ : ((be ((l.drop 3).take 4) : Nat) : Int) = Q at *
    have q0 : ld1 p0 ha = some (.int .u8 P, ha) := by rw [← hP]; exact q0
    let h4 := ha.alloc (setC 0 0 0)
    have g4 : h4.get ha.next = some (setC 0 0 0) := by rw [Heap.get_alloc, if_pos rfl]
    let h5 := h4.set ha.next (setC P B Q)
    have na0 : ha.n0 ≤ ha.next := ha.n0_le_next
    have st5 : stN 3 (ptr ha.next 0) (.agg (setC P B Q).toArray) h4 = some (undef, h5) := stSet g4 (by rw [Heap.n0_alloc]; exact na0)
    have g5 : h5.get ha.next = some (setC P B Q) := Heap.get_set_same (by rw [Heap.n0_alloc]; exact na0) g4 _
    have o45 : Old ha h5 := (Kept.alloc ha (setC 0 0 0) _).also (Kept.set (B := fun c => c = ha.next) (by rw [Heap.n0_alloc]; exact na0) g4 (.inr rfl)) (fun d hd hh => by have hh : d = ha.next := hh; omega)
    have oh5 : Old h h5 := oa.trans o45
    have q5 : h5.get h.next = some (setC 0 0 0) := o45.getE ga (fun h => h)
    have n05 : h5.n0 = h.n0 := oh5.n0
    have l5 : ldN 3 (ptr ha.next 0) h5 = some (.agg (setC P B Q).toArray, h5) := ldSet g5
    obtain ⟨h6, e6, o6⟩ := r13 (h := h5) (by omega) P B Q
    have q6 : h6.get h.next = some (setC 0 0 0) := o6.getE q5 (fun h => h)
    have oh6 : Old h h6 := oh5.trans o6
    by_cases hv : validS P B Q = true
    · rw [if_pos hv]
      obtain ⟨a7, c7, s7, b7, gd7, d7⟩ := cut_rest hgd (oh6.bytes hl) 7 (by omega)
      have s7 : slR 1 (.slice a l.length c) (some (.int .i64 7)) none none = some (.slice a7 (l.length - 7) c7) := s7
      let h7 := h6.alloc []
      have o67 : Old h6 h7 := Kept.alloc _ _ _
      have n7 : h7.next = h6.next + 1 := Heap.next_alloc ..
      have hd : (l.drop 7).length = l.length - 7 := by simp
      have ln : ha.next < h6.next := h6.lt_of_get (o6.getE g5 (fun h => h))
      have I : PM h ha.next h.next h6.next (parseE (l.length + 1) (l.drop 7)) (setC P B Q) (setC 0 0 0) l.length
          (up (bs [.slice a l.length c]) [(0, .slice a7 (l.length - 7) c7), (2, ptr h.next 0), (3, .slice none 0 0), (4, .int .i64 0), (5, ptr ha.next 0), (6, .slice (some ⟨h6.next, 0, none⟩) 0 0), (8, .slice a l.length c), (9, .int .i64 l.length), (10, .bool false), (12, .slice a l.length c), (13, p0), (14, .int .u8 P), (15, .int .i64 P), (16, .slice a l.length c), (17, .slice a1 2 c1), (18, .int .u64 B), (19, .int .i64 B), (20, .slice a l.length c), (21, .slice a2 4 c2), (22, .int .u64 Q), (23, .int .i64 Q), (24, .agg (setC P B Q).toArray), (25, .agg (setC P B Q).toArray), (26, .bool true), (27, .bool false), (29, .slice (some ⟨h6.next, 0, none⟩) 0 0), (30, .slice a l.length c), (31, .slice a7 (l.length - 7) c7)]) h7 := by
        refine ⟨rfl, rfl, ⟨a7, c7, l.drop 7, [], [], by rw [hd]; rfl, by rw [hd]; exact o67.bytes b7, by rw [hd]; exact gd7, fun y1 hy1 hp => ?_, OwnC.empty _ (Nat.le_refl _), EvL.nil _ _, rfl, by simp, by simp; omega, fun b hb => by cases hb; show h6.next < h7.next; omega⟩, o67.getE (o6.getE g5 (fun h => h)) (fun h => h), o67.getE q6 (fun h => h), h6.n0_le_next, by omega, ln, by omega, oh6.trans o67, by omega, by show 2 ≤ h6.n0; rw [oh6.n0]; exact hG⟩
        obtain ⟨y2, h1, h2⟩ := d7 y1 hy1
        obtain ⟨b, off, s, k, hx, hk, _⟩ := (sliceBytes_spec hl).2.2 (by omega)
        rw [hx] at h1
        cases h1
        have h2 : b = y1.block := h2
        have := h.lt_of_get hk
        omega
      obtain ⟨ex, y, g, p1, p2⟩ := loop_inv (t15l15_11111100_eq CW) (Inv := fun k y g => PM h ha.next h.next h6.next (parseE (l.length + 1) (l.drop 7)) (setC P B Q) (setC 0 0 0) k y g)
        (fin := fun ex y g => PN h ha.next h.next h6.next (parseE (l.length + 1) (l.drop 7)) (setC P B Q) (setC 0 0 0) ex y g) (fun k y g I => refp_round I) (k := l.length) (by have : rounds = 18446744073709551616 := rfl; omega) I
      obtain ⟨rfl, y5, y2, gsb, gq, ⟨cells, oc, el⟩, og⟩ := p2
      have hq0 : g.n0 ≤ h.next := by rw [og.n0]; exact hn0
      have stq : stN 3 (ptr h.next 0) (.agg (setC P B Q).toArray) g = some (undef, g.set h.next (setC P B Q)) := stSet gq hq0
      have kq : Kept g (g.set h.next (setC P B Q)) (fun c => c = h.next) := Kept.set hq0 gq (.inr rfl)
      refine ⟨y 6, g.set h.next (setC P B Q), start _ ?_, og.also kq (fun d hd hh => by have hh : d = h.next := hh; omega), ⟨h6.next, cells, oc.keep kq (fun b hb hbr => by have hbr : b = h.next := hbr; have := oc.base hb; omega), (el.keep kq (fun b hb1 hb2 => hb1.2.2 hb2)).mono fun b hb1 => ⟨by have := kq.next; omega, hb1.2.1⟩⟩⟩
      unfold t15
      simp -implicitDefEqProofs only [set_eq, newC_eq, thenV_some, lenL_slice, pu_some, bin_lss, decide_eq_false hs7, show h.alloc (setC 0 0 0) = ha from rfl, i0, q0, cvI_int, w0, s1, v1, w1, s2, v2, w2, bld_set, show ha.alloc (setC 0 0 0) = h4 from rfl, st5, chkI, Bool.and_self, l5, e6, hv, unA_not, Bool.not_true,
        show [Value.int .u8 0, .int .i64 0, .int .i64 0, .int .i64 0, .int .u64 0, .slice none 0 0] = ev0 from rfl, hag0, bsl_ev0, show h6.alloc [] = h7 from rfl, s7, p1, endL_exit, b15_12, if_true, t15k15_11_eq]
      unfold t15k15_11
      simp -implicitDefEqProofs only [y5, y2, ldSet gsb, thenV_some, stq]
      rw [res_cell_two results15 agg23 siz23 (by decide) (by decide) (by decide) _ (v := .agg (setC P B Q).toArray) (by simp only [up_cons, up_nil, Nat.reduceEqDiff, if_false]; rw [y2]; exact ldSet (Heap.get_set_same hq0 gq _))]
      simp only [up_cons, up_nil, Nat.reduceEqDiff, if_false, if_true]
    · rw [if_neg hv]
      have hv' : validS P B Q = false := by simpa using hv
      refine ⟨.slice none 0 0, h6.set h.next (setC 0 0 0), start _ ?_, kq h6 q6 oh6.n0 oh6, EvV.nil _⟩
      unfold t15
      simp -implicitDefEqProofs only [set_eq, newC_eq, thenV_some, lenL_slice, pu_some, bin_lss, decide_eq_false hs7, show h.alloc (setC 0 0 0) = ha from rfl, i0, q0, cvI_int, w0, s1, v1, w1, s2, v2, w2, bld_set, bld_set0, show ha.alloc (setC 0 0 0) = h4 from rfl, st5, chkI, Bool.and_self, l5, e6, hv', unA_not, Bool.not_false, stSet q6 (show h6.n0 ≤ h.next by have := oh6.n0; omega)]
      refine fin h6 2 _ q6 oh6.n0 ?_ ?_ ?_ <;> simp only [up_cons, up_nil, Nat.reduceEqDiff, if_false, if_true]
end
end Go.Proofs.YtdmnphocgfnlpaaGreatDoor

namespace Go.Proofs.YtdmnphocgfnlpaaGreatDoor
open Go Go.Abs
noncomputable section
/-- The events of a slice, as they are read. -/
def EvS (h : Heap) (v : Value) (es : List Ev) : Prop :=
  ∃ a c, v = .slice a es.length c ∧ ∀ (i : Nat) (e : Ev), es[i]? = some e → ∃ p cs, idxS 6 v (.int .i64 (i : Int)) = some p ∧ EvAt h (fun _ => True) cs e ∧ (∀ h', Old h h' → ldN 6 p h' = some (.agg cs.toArray, h')) ∧ ∃ b o, p = ptr b o ∧ ∀ h' (j : Nat) x, Old h h' → cs[j]? = some x → ld1 (ptr b (o + j)) h' = some (x, h')
theorem EvS.old {h h' : Heap} {v : Value} {es : List Ev} (x : EvS h v es) (o : Old h h') : EvS h' v es := by
  obtain ⟨a, c, hv, hx⟩ := x
  refine ⟨a, c, hv, fun i e he => ?_⟩
  obtain ⟨p, cs, h1, h2, h3, b, q, h4, h5⟩ := hx i e he
  exact ⟨p, cs, h1, h2.keep o (fun _ _ h => h), fun h'' o' => h3 h'' (o.trans o'), b, q, h4, fun h'' j x o' => h5 h'' j x (o.trans o')⟩
theorem EvV.toS {h : Heap} {v : Value} {es : List Ev} (x : EvV h v es) : EvS h v es := by
  obtain ⟨N, cells, ⟨o1, o2, o3, o4⟩, el⟩ := x
  have hs : ∀ {i : Nat} {e : Ev}, es[i]? = some e → i < es.length := fun h => (List.getElem?_eq_some_iff.1 h).1
  rcases o4 with ⟨rfl, h4⟩ | ⟨b, s, rfl, h5, ⟨rfl, h4⟩ | ⟨rfl, h6⟩⟩
  · exact ⟨none, 0, by rw [h4], fun i e he => absurd (hs he) (by omega)⟩
  · exact ⟨some ⟨b, 0, none⟩, es.length, rfl, fun i e he => absurd (hs he) (by omega)⟩
  · refine ⟨some ⟨b, 0, some 6⟩, es.length, rfl, fun i e he => ?_⟩
    have hi := hs he
    have hidx : (0 : Int) ≤ (i : Int) ∧ (i : Int) < (es.length : Int) := by omega
    have hl := el.len
    refine ⟨ptr b (0 + i * 6), (cells.drop (6 * i)).take 6, ?_, (el.ev i e he).mono (fun _ _ => trivial), fun h' o => ?_, b, 0 + i * 6, rfl, fun h' j x o hj => ?_⟩
    · simp only [idxS, hidx, and_self, if_true, Int.toNat_natCast]
    · have hc : (cells.drop (0 + i * 6)).take 6 = (cells.drop (6 * i)).take 6 := by rw [Nat.zero_add, Nat.mul_comm]
      have := ldN_at (n := 6) (o := 0 + i * 6) (o.getE h6 (fun h => h)) (by omega) (by
        rw [hc]
        obtain ⟨a, c, h1, _⟩ := el.ev i e he
        rw [h1]; rfl)
      rw [hc] at this
      exact this
    · obtain ⟨a, c, h1, _⟩ := el.ev i e he
      rw [h1] at hj
      have hjl : j < 6 := (List.getElem?_eq_some_iff.1 hj).1
      refine ld1_at (o.getE h6 (fun h => h)) ?_ ?_
      · rw [← h1, List.getElem?_take, if_pos hjl, List.getElem?_drop] at hj
        rw [← hj]
        congr 1
        omega
      · rcases (show j = 0 ∨ j = 1 ∨ j = 2 ∨ j = 3 ∨ j = 4 ∨ j = 5 by omega) with rfl | rfl | rfl | rfl | rfl | rfl <;> (cases hj; rfl)
theorem is16 : IsFn Tryz.prog 16 Tryz.f16 := ⟨by kernel_rfl, by kernel_rfl, by kernel_rfl, by kernel_rfl⟩
theorem neq_str (a : ByteArray) : bin Tryz.prog .neq 9 (.string a) (.string a) = some (.bool false) := by
  unfold bin eqOk
  simp only [if_true]
  unfold binA
  simp only [ground, flat, Bool.and_self, if_true]
  have e : (binOp .neq 9 (.string a) (.string a)) = pure (.bool (!(a.toList == a.toList))) := rfl
  rw [e, beq_self_eq_true]
  rfl
theorem neq_selfI (t : TypeId) (k : IntKind) (n : Int) : bin Tryz.prog .neq t (.int k n) (.int k n) = some (.bool false) := by rw [bin_neq]; simp
theorem chk_ev (e : Ev) (a : Option Addr) (n c : Nat) (g : Heap) : chkR true (some (.agg (evc e (.slice a n c)).toArray, g)) (.agg (evc e (.slice a n c)).toArray) = true := by
  simp [chkR, same, veq, veqL, evc]
theorem sT : ((some true : Option Bool) == some false) = false := rfl
set_option maxRecDepth 100000 in
theorem same_round {es : List Ev} {h0 : Heap} {v w : Value} (x1 : EvS h0 v es) (x2 : EvS h0 w es) (hlen : es.length ≤ 100000000) {k : Nat} {y : Nat → Value} {g : Heap}
    (I : k ≤ es.length ∧ y 0 = v ∧ y 1 = w ∧ y 5 = .int .i64 ((es.length - k : Nat) : Int) ∧ Old h0 g) :
    ∃ ex x' h', t16l16_11010 CW y g = some (ex, mkF 69 x', h') ∧ ((ex = .normal ∧ ∃ j, j < k ∧ (j ≤ es.length ∧ x' 0 = v ∧ x' 1 = w ∧ x' 5 = .int .i64 ((es.length - j : Nat) : Int) ∧ Old h0 h')) ∨ (ex ≠ .normal ∧ (ex = .exit 0 ∧ Old h0 h'))) := by
  obtain ⟨hk, y0, y1, y5, og⟩ := I
  obtain ⟨a1, c1, hv, f1⟩ := x1
  obtain ⟨a2, c2, hw, f2⟩ := x2
  unfold t16l16_11010
  have hl : lenL v = some (.int .i64 es.length) := by rw [hv]; rfl
  simp -implicitDefEqProofs only [thenV_some, y0, y1, y5, hl, pu_some, bin_lss]
  by_cases hz : k = 0
  · have hd : ¬ (((es.length - k : Nat) : Int) < (es.length : Int)) := by omega
    simp -implicitDefEqProofs only [decide_eq_false hd]
    exact ⟨_, _, _, rfl, .inr ⟨by simp, rfl, og⟩⟩
  · have hd : (((es.length - k : Nat) : Int) < (es.length : Int)) := by omega
    have hi : es.length - k < es.length := by omega
    obtain ⟨p1, cs1, i1, ⟨d1, e1, hc1, b1, gd1, _⟩, l1, -⟩ := f1 _ _ (List.getElem?_eq_getElem hi)
    obtain ⟨p2, cs2, i2, ⟨d2, e2, hc2, b2, gd2, _⟩, l2, -⟩ := f2 _ _ (List.getElem?_eq_getElem hi)
    generalize hE : es[es.length - k] = E at *
    let ga := g.alloc ev0
    have na : ga.next = g.next + 1 := Heap.next_alloc ..
    let gb := ga.alloc ev0
    have nb : gb.next = ga.next + 1 := Heap.next_alloc ..
    have n0g := g.n0_le_next
    have q1 : gb.get g.next = some ev0 := by
      rw [Heap.get_alloc, if_neg (by omega), Heap.get_alloc, if_pos rfl]
    have q2 : gb.get ga.next = some ev0 := by rw [Heap.get_alloc, if_pos rfl]
    have z1 : (evc E (.slice d1 E.data.length e1)).length = 6 := rfl
    let gc := gb.set g.next cs1
    have s1 : stN 6 (ptr g.next 0) (.agg cs1.toArray) gb = some (undef, gc) := by
      rw [hc1]
      have : gc = gb.set g.next (evc E (.slice d1 E.data.length e1)) := by show gb.set g.next cs1 = _; rw [hc1]
      rw [this]
      exact stN_whole q1 n0g rfl rfl rfl
    have k3 : Kept gb gc (fun c => c = g.next) := Kept.set (h := gb) n0g q1 (.inr rfl)
    have q3 : gc.get ga.next = some ev0 := k3.getE q2 (by omega)
    let gd := gc.set ga.next cs2
    have n0a : gc.n0 ≤ ga.next := by show g.n0 ≤ _; omega
    have s2 : stN 6 (ptr ga.next 0) (.agg cs2.toArray) gc = some (undef, gd) := by
      rw [hc2]
      have : gd = gc.set ga.next (evc E (.slice d2 E.data.length e2)) := by show gc.set ga.next cs2 = _; rw [hc2]
      rw [this]
      exact stN_whole q3 n0a rfl rfl rfl
    have q4 : gc.get g.next = some cs1 := Heap.get_set_same (show gb.n0 ≤ g.next from n0g) q1 _
    have k4 : Kept gc gd (fun c => c = ga.next) := Kept.set n0a q3 (.inr rfl)
    have m1 : gd.get g.next = some cs1 := k4.getE q4 (by omega)
    have m2 : gd.get ga.next = some cs2 := Heap.get_set_same n0a q3 _
    have ogb : Old g gb := (Kept.alloc g ev0 _).trans (Kept.alloc ga ev0 _)
    have ogc : Old g gc := ogb.also k3 (fun d hd hh => by have hh : d = g.next := hh; omega)
    have ogd : Old g gd := ogc.also k4 (fun d hd hh => by have hh : d = ga.next := hh; omega)
    have od : Old h0 gd := og.trans ogd
    rw [hc1] at m1; rw [hc2] at m2
    have t1 := cvBS_at (c := e1) (od.bytes b1)
    have t2 := cvBS_at (c := e2) (od.bytes b2)
    have w1 : IntKind.wrap .i64 (((es.length - k : Nat) : Int) + 1) = ((es.length - (k - 1) : Nat) : Int) := by rw [wrap_i64 (by omega) (by omega)]; omega
    have lc2 := l2 gc (og.trans ogc)
    have ck : chkR true (ldN 6 p2 gc) (.agg cs2.toArray) = true := by rw [lc2, hc2]; exact chk_ev ..
    simp -implicitDefEqProofs only [decide_eq_true hd, i1, i2, l1 g og, l2 g og, pu_some, thenV_some, newC_eq, show [Value.int .u8 0, .int .i64 0, .int .i64 0, .int .i64 0, .int .u64 0, .slice none 0 0] = ev0 from rfl, show g.alloc ev0 = ga from rfl, show ga.alloc ev0 = gb from rfl, s1, s2, ck, Bool.and_self]
    have ld : ∀ (o : Nat) (b : Nat) (a : Option Addr) (c : Nat) (x : Value), gd.get b = some (evc E (.slice a E.data.length c)) → (evc E (.slice a E.data.length c))[o]? = some x → isHole x = false → ld1 (ptr b o) gd = some (x, gd) := fun o b a c x hg hx hh => ld1_at hg hx hh
    simp -implicitDefEqProofs only [addP_ptr, pu_some, thenV_some, Nat.zero_add, ld 0 _ _ _ _ m1 rfl rfl, ld 1 _ _ _ _ m1 rfl rfl, ld 2 _ _ _ _ m1 rfl rfl, ld 3 _ _ _ _ m1 rfl rfl, ld 4 _ _ _ _ m1 rfl rfl, ld 5 _ _ _ _ m1 rfl rfl,
      ld 0 _ _ _ _ m2 rfl rfl, ld 1 _ _ _ _ m2 rfl rfl, ld 2 _ _ _ _ m2 rfl rfl, ld 3 _ _ _ _ m2 rfl rfl, ld 4 _ _ _ _ m2 rfl rfl, ld 5 _ _ _ _ m2 rfl rfl, neq_selfI, bOf_bool, beq_self_eq_true, guardK_true, Bool.false_eq_true, if_false, t1, t2, neq_str, bin_add, w1]
    refine ⟨_, _, _, rfl, .inl ⟨rfl, k - 1, by omega, by omega, ?_, ?_, ?_, od⟩⟩
    · simp only [up_cons, up_nil, Nat.reduceEqDiff, if_false, y0]
    · simp only [up_cons, up_nil, Nat.reduceEqDiff, if_false, y1]
    · simp only [up_cons, up_nil, Nat.reduceEqDiff, if_false, if_true]
/-- sameEvents, of equal lists. -/
theorem r16 {h : Heap} (hG : 2 ≤ h.n0) {es : List Ev} {v w : Value} (x1 : EvS h v es) (x2 : EvS h w es) (hlen : es.length ≤ 100000000) : ∃ h', CW 16 [v, w] h = some (.bool true, h') ∧ Old h h' := by
  obtain ⟨ex, y, g, p1, rfl, p2⟩ := loop_inv (t16l16_11010_eq CW) (Inv := fun k y g => k ≤ es.length ∧ y 0 = v ∧ y 1 = w ∧ y 5 = .int .i64 ((es.length - k : Nat) : Int) ∧ Old h g)
    (fin := fun ex y g => ex = .exit 0 ∧ Old h g) (fun k y g I => same_round x1 x2 hlen I) (k := es.length) (by have : rounds = 18446744073709551616 := rfl; omega)
    (x := up (bs [v, w]) [(4, .bool false), (5, .int .i64 0), (8, v), (9, .int .i64 es.length), (10, w), (11, .int .i64 es.length), (12, .bool false)]) (h := h)
    ⟨Nat.le_refl _, rfl, rfl, by rw [Nat.sub_self]; rfl, Kept.refl _ _⟩
  refine ⟨g, CW_body is16 hG rfl ((t16_eq _ _ _ _).trans ?_), p2⟩
  have hl : lenL v = some (.int .i64 es.length) := by obtain ⟨a, c, hv, _⟩ := x1; rw [hv]; rfl
  have hl2 : lenL w = some (.int .i64 es.length) := by obtain ⟨a, c, hv, _⟩ := x2; rw [hv]; rfl
  unfold t16
  simp -implicitDefEqProofs only [thenV_some, hl, hl2, pu_some, neq_selfI, p1, endL_exit, b16_6, if_true, t16k16_4_eq]
  unfold t16k16_4
  simp -implicitDefEqProofs only [thenV_some]
end
end Go.Proofs.YtdmnphocgfnlpaaGreatDoor

namespace Go.Proofs.YtdmnphocgfnlpaaGreatDoor
open Go Go.Abs
noncomputable section
theorem is4 : IsFn Tryz.prog 4 Tryz.f4 := ⟨by kernel_rfl, by kernel_rfl, by kernel_rfl, by kernel_rfl⟩
theorem eq_set (p b q : Int) : bin Tryz.prog .eql 23 (.agg (setC p b q).toArray) (.agg (setC p b q).toArray) = some (.bool true) := by
  have hp : pureRun Tryz.prog (Op.equalIn 10000 23 (.agg (setC p b q).toArray) (.agg (setC p b q).toArray)) = some true := by
    rw [pr_eq_struct (P := Tryz.prog) (d := 9999) Tryz.underlying23 (by kernel_rfl)]
    simp only [eqF]
    rw [if_pos (by decide), if_pos (by decide), if_pos (by decide)]
    rw [pr_part_int (v := .int .i64 p) Tryz.underlying3 rfl, pr_part_int (v := .int .i64 b) Tryz.underlying3 rfl, pr_part_int (v := .int .i64 q) Tryz.underlying3 rfl]
    simp only [Option.bind_some, pr_eq_int (d := 9998) Tryz.underlying3]
    simp
  exact (bin_agg (by kernel_rfl) rfl rfl hp).1
theorem eql_selfI (t : TypeId) (k : IntKind) (n : Int) : bin Tryz.prog .eql t (.int k n) (.int k n) = some (.bool true) := by rw [bin_eql]; simp
theorem parseE_len : ∀ (f : Nat) (l : List Nat), (parseE f l).length ≤ l.length
  | 0, _ => Nat.zero_le _
  | f + 1, l => by
    unfold parseE
    split
    · rename_i h
      rcases q6_ok l with ⟨_, z2, _, z4, _⟩ | ⟨z1, _⟩
      · have := parseE_len f (q6 l).l
        rw [z4] at this ⊢
        simp at this ⊢
        omega
      · omega
    · exact Nat.zero_le _
theorem parseP_len (l : List Nat) : (parseP l).evs.length ≤ l.length := by
  unfold parseP
  split
  · exact Nat.zero_le _
  · split
    · have := parseE_len (l.length + 1) (l.drop 7)
      simp at this ⊢
      omega
    · exact Nat.zero_le _
set_option maxRecDepth 100000 in
theorem r4 {h : Heap} (hG : 2 ≤ h.n0) (hz : h.get 1 = some roundsL) {a : Option Addr} {n c : Nat} {l : List Nat} (hl : sliceBytes a n h = some l) (hgd : 0 < l.length → goodS a n c = true) :
    ∃ h', CW 4 [.slice a n c] h = some (.bool true, h') := by
  have hlen : l.length = n := (sliceBytes_spec hl).1
  subst hlen
  have start : ∀ res : Value × Heap, (t4 CW (.slice a l.length c) h = some res) → CW 4 [.slice a l.length c] h = some res := fun res e => CW_body is4 hG rfl ((t4_eq _ _ _).trans e)
  by_cases hn : (l.length : Int) > 20000
  · refine ⟨h, start _ ?_⟩
    unfold t4
    simp -implicitDefEqProofs only [thenV_some, lenL_slice, pu_some, bin_gtr, decide_eq_true hn, r8 hz]
  · have n0h := h.n0_le_next
    let ha := h.alloc []
    have oa : Old h ha := Kept.alloc _ _ _
    obtain ⟨bd, sd, cd, gb, e1, e2, e3, e4, e5, e6, e7⟩ := append_fresh (g := ha) (E := h.next) (c := c) n0h (oa.bytes hl) (by omega)
    have oab : Old ha gb := ⟨e5, e6, fun d hd _ => e7 d hd⟩
    have ob : Old h gb := oa.trans oab
    obtain ⟨v1, h1, p1, o1, V1⟩ := r14 (h := gb) (c := cd) (by rw [ob.n0]; exact hG) e2 (by omega)
    have lR := parseP_len l
    have r15' := fun (g : Heap) (o : Old h g) => r15 (h := g) (c := c) (by rw [o.n0]; exact hG) (o.bytes hl) hgd (by omega)
    generalize parseP l = R at *
    obtain ⟨P, B, Q, evs, E⟩ := R
    simp only at p1 V1 lR r15'
    have o1' : Old h h1 := ob.trans o1
    have n1 := h1.n0_le_next
    let h2 := h1.alloc (setC 0 0 0)
    have g2 : h2.get h1.next = some (setC 0 0 0) := by rw [Heap.get_alloc, if_pos rfl]
    let h3 := h2.set h1.next (setC P B Q)
    have s3 : stN 3 (ptr h1.next 0) (.agg (setC P B Q).toArray) h2 = some (undef, h3) := stSet g2 n1
    have k23 : Kept h2 h3 (fun c => c = h1.next) := Kept.set (h := h2) n1 g2 (.inr rfl)
    have o13 : Old h1 h3 := (Kept.alloc h1 (setC 0 0 0) _).also k23 (fun d hd hh => by have hh : d = h1.next := hh; omega)
    have g3 : h3.get h1.next = some (setC P B Q) := Heap.get_set_same (h := h2) n1 g2 _
    have o3 : Old h h3 := o1'.trans o13
    obtain ⟨v2, h4, p2, o4, V2⟩ := r15' h3 o3
    have o4' : Old h h4 := o3.trans o4
    have n4 := h4.n0_le_next
    let h5 := h4.alloc (setC 0 0 0)
    have g5 : h5.get h4.next = some (setC 0 0 0) := by rw [Heap.get_alloc, if_pos rfl]
    let h6 := h5.set h4.next (setC P B Q)
    have s6 : stN 3 (ptr h4.next 0) (.agg (setC P B Q).toArray) h5 = some (undef, h6) := stSet g5 n4
    have k56 : Kept h5 h6 (fun c => c = h4.next) := Kept.set (h := h5) n4 g5 (.inr rfl)
    have o46 : Old h4 h6 := (Kept.alloc h4 (setC 0 0 0) _).also k56 (fun d hd hh => by have hh : d = h4.next := hh; omega)
    have g6 : h6.get h4.next = some (setC P B Q) := Heap.get_set_same (h := h5) n4 g5 _
    have g6' : h6.get h1.next = some (setC P B Q) := (o4.trans o46).getE g3 (fun h => h)
    have o6 : Old h h6 := o4'.trans o46
    obtain ⟨h7, p3, o7⟩ := r16 (h := h6) (by rw [o6.n0]; exact hG) (V1.toS.old ((o13.trans o4).trans o46)) (V2.toS.old o46) (by omega)
    have hz7 : h7.get 1 = some roundsL := (o6.trans o7).getE hz (fun h => h)
    refine ⟨h7, start _ ?_⟩
    have x0 : extractA (.tuple #[.agg (setC P B Q).toArray, v1, .int .i64 E]) 0 = some (.agg (setC P B Q).toArray) := rfl
    have x1 : extractA (.tuple #[.agg (setC P B Q).toArray, v1, .int .i64 E]) 1 = some v1 := rfl
    have x2 : extractA (.tuple #[.agg (setC P B Q).toArray, v1, .int .i64 E]) 2 = some (.int .i64 E) := rfl
    have y0 : extractA (.tuple #[.agg (setC P B Q).toArray, v2, .int .i64 E]) 0 = some (.agg (setC P B Q).toArray) := rfl
    have y1 : extractA (.tuple #[.agg (setC P B Q).toArray, v2, .int .i64 E]) 1 = some v2 := rfl
    have y2 : extractA (.tuple #[.agg (setC P B Q).toArray, v2, .int .i64 E]) 2 = some (.int .i64 E) := rfl
    unfold t4
    simp -implicitDefEqProofs only [thenV_some, lenL_slice, pu_some, bin_gtr, decide_eq_false hn, bsl_bytes, show h.alloc [] = ha from rfl, e1, p1, x0, x1, x2, set_eq, newC_eq, show h1.alloc (setC 0 0 0) = h2 from rfl, s3, p2, y0, y1, y2, show h4.alloc (setC 0 0 0) = h5 from rfl, s6, ldSet g6', ldSet g6, eq_set, bOf_bool, beq_self_eq_true, guardK_true, eql_selfI, if_true, p3, r8 hz7]
end
end Go.Proofs.YtdmnphocgfnlpaaGreatDoor

