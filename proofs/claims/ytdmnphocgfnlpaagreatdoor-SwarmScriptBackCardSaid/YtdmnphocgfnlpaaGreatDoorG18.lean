/-
  The swarm: Parse.
  Conditions: as each theorem states.
  The swarm: the document's Parse.
  Conditions: as each theorem states.
  The swarm: the document's Parse, whole.
  Conditions: as each theorem states.
  The swarm: lists of events compared.
  Conditions: as each theorem states.
  The swarm: a Writer's text: a length of two bytes and the bytes.
  Conditions: as each theorem states.
  The swarm: events that can be written, and their bytes.
  Conditions: as each theorem states.
  The swarm: Script's loop over events.
  Conditions: as each theorem states.
  The swarm: SwarmParses.
  Conditions: as each theorem states.
  The swarm: Script.
  Conditions: as each theorem states.
  The swarm: copies of events.
  Conditions: as each theorem states.
  The swarm: the document's Script, its loop.
  Conditions: as each theorem states.
  The swarm: the document's Script.
  Conditions: as each theorem states.
-/
import Derived.Test.YtdmnphocgfnlpaaGreatDoorG17
namespace Go.Proofs.YtdmnphocgfnlpaaGreatDoor
open Go Go.Abs
noncomputable section
/-- The events that a slice of one's own holds. -/
def EvV (h : Heap) (v : Value) (es : List Ev) : Prop := ∃ N cells, OwnC h N 6 v es.length cells ∧ EvL h (fun b => b < h.next ∧ baseOf v ≠ some b) cells es
theorem EvV.nil (h : Heap) : EvV h (.slice none 0 0) [] := ⟨0, [], OwnC.nil h 0 6, EvL.nil h _⟩
theorem EvV.old {h h' : Heap} {v : Value} {es : List Ev} (x : EvV h v es) (o : Old h h') : EvV h' v es := by
  obtain ⟨N, cells, h1, h2⟩ := x
  exact ⟨N, cells, h1.keep o (fun _ _ h => h), (h2.keep o (fun _ _ h => h)).mono fun b hb => ⟨Nat.lt_of_lt_of_le hb.1 o.next, hb.2⟩⟩
def u1 (l : List Nat) : Rd := Rd.skip ⟨l, 0⟩ 1
def u2 (l : List Nat) : Rd := (u1 l).skip 2
def u3 (l : List Nat) : Rd := (u2 l).skip 4
theorem u3_ok (l : List Nat) : ((u3 l).e = 0 ∧ 7 ≤ l.length ∧ (u3 l).l = l.drop 7 ∧ Rd.num ⟨l, 0⟩ 1 = be (l.take 1) ∧ (u1 l).num 2 = be ((l.drop 1).take 2) ∧ (u2 l).num 4 = be ((l.drop 3).take 4)) ∨ ((u3 l).e = 4 ∧ l.length < 7) := by
  have u3e : (u3 l).e = 0 ∨ (u3 l).e = 4 := Rd.skip_e (Rd.skip_e (Rd.skip_e (.inl rfl) 1) 2) 4
  have bad : (u3 l).e ≠ 0 → (u3 l).e = 4 := fun h => u3e.resolve_left h
  have fall : ∀ {s : Rd} {n : Nat}, s.e ≠ 0 → (s.skip n).e ≠ 0 := by
    intro s n hs
    rcases s.skip_cases n with ⟨h, _⟩ | ⟨_, h, _⟩
    · exact absurd h.1 hs
    · exact h
  rcases Rd.skip_cases ⟨l, 0⟩ 1 with ⟨⟨_, c1⟩, d1⟩ | ⟨c1, d1, _⟩
  rotate_left
  · refine .inr ⟨bad (fall (fall d1)), Nat.lt_of_not_le fun h => c1 ⟨rfl, show 1 ≤ l.length by omega⟩⟩
  have e1 : u1 l = ⟨l.drop 1, 0⟩ := d1
  rcases (u1 l).skip_cases 2 with ⟨⟨_, c2⟩, d2⟩ | ⟨c2, d2, _⟩
  rotate_left
  · refine .inr ⟨bad (fall d2), Nat.lt_of_not_le fun h => c2 ⟨by rw [e1], by rw [e1]; show 2 ≤ (l.drop 1).length; simp; omega⟩⟩
  have e2 : u2 l = ⟨l.drop 3, 0⟩ := by
    show (u1 l).skip 2 = _
    rw [d2, e1]; simp
  rcases (u2 l).skip_cases 4 with ⟨⟨_, c3⟩, d3⟩ | ⟨c3, d3, _⟩
  rotate_left
  · refine .inr ⟨bad d3, Nat.lt_of_not_le fun h => c3 ⟨by rw [e2], by rw [e2]; show 4 ≤ (l.drop 3).length; simp; omega⟩⟩
  have e3 : u3 l = ⟨l.drop 7, 0⟩ := by
    show (u2 l).skip 4 = _
    rw [d3, e2]; simp
  rw [e1] at c2; rw [e2] at c3
  have c1 : 1 ≤ l.length := c1
  have c2 : 2 ≤ (l.drop 1).length := c2
  have c3 : 4 ≤ (l.drop 3).length := c3
  refine .inl ⟨by rw [e3], by simp only [List.length_drop] at c3; omega, by rw [e3], if_pos ⟨rfl, c1⟩, ?_, ?_⟩
  · rw [e1]; exact if_pos ⟨rfl, c2⟩
  · rw [e2]; exact if_pos ⟨rfl, c3⟩
/-- What Parse gives: the setup, the events, the error. -/
structure PR where
  p : Int
  b : Int
  q : Int
  evs : List Ev
  e : Int
def parseP (l : List Nat) : PR :=
  if l.length < 7 then ⟨0, 0, 0, [], 4⟩
  else if validS (be (l.take 1) : Nat) (be ((l.drop 1).take 2) : Nat) (be ((l.drop 3).take 4) : Nat) = true then ⟨(be (l.take 1) : Nat), (be ((l.drop 1).take 2) : Nat), (be ((l.drop 3).take 4) : Nat), parseE (l.length + 1) (l.drop 7), 0⟩
  else ⟨0, 0, 0, [], 2⟩
theorem results14 : Tryz.f14.results.toList = [.cell 2 23, .tmp 3, .tmp 4] := by kernel_rfl
theorem agg23 : aggT Tryz.prog 23 = some true := by kernel_rfl
theorem siz23 : sizeT Tryz.prog 23 = some 3 := by kernel_rfl
theorem set_eq (p b q : Int) : [Value.int .i64 p, .int .i64 b, .int .i64 q] = setC p b q := rfl
theorem bld_set (p b q : Int) : bldR (setC 0 0 0) [(0, 1, .int .i64 p), (1, 1, .int .i64 b), (2, 1, .int .i64 q)] = some (.agg (setC p b q).toArray) := rfl
theorem bld_set0 : bldR (setC 0 0 0) [] = some (.agg (setC 0 0 0).toArray) := rfl
theorem set_ok (p b q : Int) : (setC p b q).length = 3 ∧ Abs.noHoles (setC p b q) = true ∧ oneCells (setC p b q) = true := ⟨rfl, rfl, rfl⟩
theorem stSet {h : Heap} {b : Nat} {x y z x' y' z' : Int} (g : h.get b = some (setC x y z)) (h0 : h.n0 ≤ b) : stN 3 (ptr b 0) (.agg (setC x' y' z').toArray) h = some (undef, h.set b (setC x' y' z')) := stN_whole g h0 rfl rfl rfl
theorem ldSet {h : Heap} {b : Nat} {x y z : Int} (g : h.get b = some (setC x y z)) : ldN 3 (ptr b 0) h = some (.agg (setC x y z).toArray, h) := ldN_all g rfl rfl
set_option maxRecDepth 100000 in
theorem r14 {h : Heap} (hG : 2 ≤ h.n0) {a : Option Addr} {n c : Nat} {l : List Nat} (hl : sliceBytes a n h = some l) (hn : n ≤ 100000000) :
    ∃ v h', CW 14 [.slice a n c] h = some (.tuple #[.agg (setC (parseP l).p (parseP l).b (parseP l).q).toArray, v, .int .i64 (parseP l).e], h') ∧ Old h h' ∧ EvV h' v (parseP l).evs := by
  have hlen : l.length = n := (sliceBytes_spec hl).1
  let ha := h.alloc (setC 0 0 0)
  have oa : Old h ha := Kept.alloc _ _ _
  have ga : ha.get h.next = some (setC 0 0 0) := by rw [Heap.get_alloc, if_pos rfl]
  have na : ha.next = h.next + 1 := Heap.next_alloc ..
  obtain ⟨r, h0, e0, R0, o0, hr⟩ := r45 (h := ha) (c := c) (by rw [Heap.n0_alloc]; exact hG) (oa.bytes hl) hn
  have R0 : IsRd h0 ha.next r ⟨l, 0⟩ := R0
  obtain ⟨h1, e1, k1⟩ := rU8 R0
  have k1 : RdK h0 ha.next r (u1 l) h1 := k1
  obtain ⟨h2, e2, k2⟩ := rU16 k1.rd
  have k2 : RdK h1 ha.next r (u2 l) h2 := k2
  obtain ⟨h3, e3, k3⟩ := rU32 k2.rd
  have k3 : RdK h2 ha.next r (u3 l) h3 := k3
  have w1 := nat_i64 (Rd.num_lt R0 1) (by decide)
  have w2 := nat_i64 (Rd.num_lt k1.rd 2) (by decide)
  have w3 := nat_i64 (Rd.num_lt k2.rd 4) (by decide)
  generalize hP : (((Rd.mk l 0).num 1 : Nat) : Int) = P at *
  generalize hB : (((u1 l).num 2 : Nat) : Int) = B at *
  generalize hQ : (((u2 l).num 4 : Nat) : Int) = Q at *
  have hr' : h.next < r := by omega
  have oh0 : Old h h0 := oa.trans o0
  have kr3 : Kept h0 h3 (fun c => c = r) := (k1.kept.also k2.kept (fun _ _ h => h)).also k3.kept (fun _ _ h => h)
  have oh3 : Old h h3 := oh0.also kr3 (fun d hd hh => by have hh : d = r := hh; omega)
  have q3 : h3.get h.next = some (setC 0 0 0) := kr3.getE (o0.getE ga (fun h => h)) (by omega)
  let h4 := h3.alloc (setC 0 0 0)
  have g4 : h4.get h3.next = some (setC 0 0 0) := by rw [Heap.get_alloc, if_pos rfl]
  let h5 := h4.set h3.next (setC P B Q)
  have n3 : h3.n0 ≤ h3.next := h3.n0_le_next
  have st5 : stN 3 (ptr h3.next 0) (.agg (setC P B Q).toArray) h4 = some (undef, h5) := stSet g4 (by rw [Heap.n0_alloc]; exact n3)
  have g5 : h5.get h3.next = some (setC P B Q) := Heap.get_set_same (by rw [Heap.n0_alloc]; exact n3) g4 _
  have o35 : Old h3 h5 := (Kept.alloc h3 (setC 0 0 0) _).also (Kept.set (B := fun c => c = h3.next) (by rw [Heap.n0_alloc]; exact n3) g4 (.inr rfl)) (fun d hd hh => by have hh : d = h3.next := hh; omega)
  have R5 : IsRd h5 ha.next r (u3 l) := IsR.keep (B := fun _ => False) k3.rd o35
  have er := rErr R5
  have oh5 : Old h h5 := oh3.trans o35
  have q5 : h5.get h.next = some (setC 0 0 0) := o35.getE q3 (fun h => h)
  have n05 : h5.n0 = h.n0 := oh5.n0
  have hn0 := h.n0_le_next
  have l5 : ldN 3 (ptr h3.next 0) h5 = some (.agg (setC P B Q).toArray, h5) := ldSet g5
  have start : ∀ res : Value × Heap, (t14 CW (.slice a n c) h = some res) → CW 14 [.slice a n c] h = some res := fun res e => CW_body is14 hG rfl ((t14_eq _ _ _).trans e)
  have fin : ∀ (g : Heap) (E : Int) (y : Nat → Value), g.get h.next = some (setC 0 0 0) → g.n0 = h.n0 → y 2 = ptr h.next 0 → y 3 = .slice none 0 0 → y 4 = .int .i64 E →
      resultsA Tryz.prog Tryz.f14.results.toList (mkF 57 y) (g.set h.next (setC 0 0 0)) = some (.tuple #[.agg (setC 0 0 0).toArray, .slice none 0 0, .int .i64 E], g.set h.next (setC 0 0 0)) := by
    intro g E y hg hn y2 y3 y4
    rw [res_cell_two results14 agg23 siz23 (by decide) (by decide) (by decide) y (v := .agg (setC 0 0 0).toArray) (by rw [y2]; exact ldSet (Heap.get_set_same (by omega) hg _)), y3, y4]
  have kq : ∀ (g : Heap), g.get h.next = some (setC 0 0 0) → g.n0 = h.n0 → Old h g → Old h (g.set h.next (setC 0 0 0)) := by
    intro g hg hn o
    exact o.also (Kept.set (B := fun c => c = h.next) (by omega) hg (.inr rfl)) (fun d hd hh => by have hh : d = h.next := hh; omega)
  unfold parseP
  rcases u3_ok l with ⟨z1, z2, z3, z4, z5, z6⟩ | ⟨z1, z2⟩
  rotate_left
  · rw [if_pos z2]
    refine ⟨.slice none 0 0, h5.set h.next (setC 0 0 0), start _ ?_, kq h5 q5 n05 oh5, EvV.nil _⟩
    unfold t14
    simp -implicitDefEqProofs only [set_eq, newC_eq, thenV_some, show h.alloc (setC 0 0 0) = ha from rfl, e0, e1, e2, e3, cvI_int, w1, w2, w3, bld_set, bld_set0, pu_some, show h3.alloc (setC 0 0 0) = h4 from rfl, st5, er, neq31, z1, show ((4 : Int) != 0) = true from rfl, stSet q5 (show h5.n0 ≤ h.next by omega)]
    refine fin h5 4 _ q5 n05 ?_ ?_ ?_ <;> simp only [up_cons, up_nil, Nat.reduceEqDiff, if_false, if_true]
  · rw [if_neg (by omega : ¬ l.length < 7)]
    rw [z4] at hP; rw [z5] at hB; rw [z6] at hQ
    rw [hP, hB, hQ]
    obtain ⟨h6, e6, o6⟩ := r12 (h := h5) (by omega) P B Q
    have q6 : h6.get h.next = some (setC 0 0 0) := o6.getE q5 (fun h => h)
    have oh6 : Old h h6 := oh5.trans o6
    by_cases hv : validS P B Q = true
    · rw [if_pos hv]
      have I : PL h ha.next r h3.next h.next h6.next (parseE (l.length + 1) (l.drop 7)) (setC P B Q) (setC 0 0 0) l.length
          (up (bs [.slice a n c]) [(2, ptr h.next 0), (3, .slice none 0 0), (4, .int .i64 0), (5, ptr r 0), (6, ptr h3.next 0), (7, .int .i64 0), (8, .slice none 0 0), (10, .slice a n c), (11, ptr r 0), (12, ptr r 0), (13, .int .u8 P), (14, .int .i64 P), (15, ptr r 0), (16, .int .u16 B), (17, .int .i64 B), (18, ptr r 0), (19, .int .u32 Q), (20, .int .i64 Q), (21, .agg (setC P B Q).toArray), (22, ptr r 0), (23, .int .i64 0), (24, .int .i64 0), (25, .bool false), (28, .agg (setC P B Q).toArray), (29, .bool true), (30, .bool false)]) h6 := by
        have R6 : IsR h6 ha.next r (u3 l).l 0 := by have := IsR.keep (B := fun _ => False) R5 o6; rw [z1] at this; exact this
        have hr3 : r < h3.next := k3.rd.lt
        have h36 : h3.next < h6.next := by
          have := h6.lt_of_get (o6.getE g5 (fun h => h)); exact this
        refine ⟨rfl, rfl, rfl, ⟨l.drop 7, [], [], by rw [← z3]; exact R6, OwnC.nil _ _ _, EvL.nil _ _, rfl, by simp, by simp; omega, fun b hb => by cases hb⟩, o6.getE g5 (fun h => h), q6, set_ok P B Q, rfl, h6.n0_le_next, Nat.le_refl _, by omega, by omega, by omega, by rw [oh6.n0]; omega, ⟨by omega, by omega, by omega⟩, oh6, by omega, Nat.le_refl _⟩
      obtain ⟨ex, y, g, p1, p2⟩ := loop_inv (t14l14_1111110_eq CW) (Inv := fun k y g => PL h ha.next r h3.next h.next h6.next (parseE (l.length + 1) (l.drop 7)) (setC P B Q) (setC 0 0 0) k y g)
        (fin := fun ex y g => PF h h.next h6.next (parseE (l.length + 1) (l.drop 7)) (setC P B Q) ex y g) (fun k y g I => parse_round I) (k := l.length) (by have : rounds = 18446744073709551616 := rfl; omega) I
      obtain ⟨rfl, y2, gq, y4, ⟨cells, oc, el⟩, og, gn⟩ := p2
      refine ⟨y 3, g, start _ ?_, og, ⟨h6.next, cells, oc, el⟩⟩
      unfold t14
      simp -implicitDefEqProofs only [set_eq, newC_eq, thenV_some, show h.alloc (setC 0 0 0) = ha from rfl, e0, e1, e2, e3, cvI_int, w1, w2, w3, bld_set, bld_set0, pu_some, show h3.alloc (setC 0 0 0) = h4 from rfl, st5, er, neq31, z1, bne_self_eq_false, l5, e6, unA_not, hv, Bool.not_true, p1, endL_ret]
      rw [res_cell_two results14 agg23 siz23 (by decide) (by decide) (by decide) y (v := .agg (setC P B Q).toArray) (by rw [y2]; exact ldSet gq), y4]
    · rw [if_neg hv]
      have hv' : validS P B Q = false := by simpa using hv
      refine ⟨.slice none 0 0, h6.set h.next (setC 0 0 0), start _ ?_, kq h6 q6 oh6.n0 oh6, EvV.nil _⟩
      unfold t14
      simp -implicitDefEqProofs only [set_eq, newC_eq, thenV_some, show h.alloc (setC 0 0 0) = ha from rfl, e0, e1, e2, e3, cvI_int, w1, w2, w3, bld_set, bld_set0, pu_some, show h3.alloc (setC 0 0 0) = h4 from rfl, st5, er, neq31, z1, bne_self_eq_false, l5, e6, unA_not, hv', Bool.not_false, stSet q6 (show h6.n0 ≤ h.next by have := oh6.n0; omega)]
      refine fin h6 2 _ q6 oh6.n0 ?_ ?_ ?_ <;> simp only [up_cons, up_nil, Nat.reduceEqDiff, if_false, if_true]
end
end Go.Proofs.YtdmnphocgfnlpaaGreatDoor

namespace Go.Proofs.YtdmnphocgfnlpaaGreatDoor
open Go Go.Abs
noncomputable section
theorem is15 : IsFn Tryz.prog 15 Tryz.f15 := ⟨by kernel_rfl, by kernel_rfl, by kernel_rfl, by kernel_rfl⟩
theorem results15 : Tryz.f15.results.toList = [.cell 2 23, .tmp 3, .tmp 4] := by kernel_rfl
theorem chkI (k : IntKind) (n : Int) (h : Heap) : chkR true (some (.int k n, h)) (.int k n) = true := by simp [chkR, same, veq]
/-- A byte of a slice: its address, and what is read there in any heap that has the slice. -/
theorem idx_byte {a : Option Addr} {n c i : Nat} {g : Heap} {l : List Nat} (e : sliceBytes a n g = some l) (hi : i < n) :
    ∃ p, idxS 1 (.slice a n c) (.int .i64 (i : Int)) = some p ∧ ∀ g', sliceBytes a n g' = some l → ld1 p g' = some (u8 (l.getD i 0), g') := by
  obtain ⟨hl, hb, h3⟩ := sliceBytes_spec e
  obtain ⟨b, off, s, k, rfl, hk, hlen, hat⟩ := h3 (by omega)
  refine ⟨ptr b (off + i), ?_, fun g' e' => ?_⟩
  · have hidx : (0 : Int) ≤ (i : Int) ∧ (i : Int) < (n : Int) := by omega
    simp only [idxS, hidx, and_self, if_true, Int.toNat_natCast, Nat.mul_one]
  · obtain ⟨_, _, h3'⟩ := sliceBytes_spec e'
    obtain ⟨b', off', s', k', hx, hk', _, hat'⟩ := h3' (by omega)
    cases hx
    exact ld1_at hk' (hat' i hi)
theorem be_one {l : List Nat} (h : 0 < l.length) : be (l.take 1) = l.getD 0 0 := by
  cases l with
  | nil => simp at h
  | cons x l => simp [be]
theorem be_at {l : List Nat} {i : Nat} (h : i < l.length) : be ((l.drop i).take 1) = l.getD i 0 := by
  rw [be_one (by simp; omega), List.getD_eq_getElem?_getD, List.getElem?_drop, Nat.add_zero, List.getD_eq_getElem?_getD]
/-- A part of a slice of bytes, between two numbers. -/
theorem cut_bytes {a : Option Addr} {n c : Nat} {h : Heap} {l : List Nat} (g : goodS a n c = true) (e : sliceBytes a n h = some l) (lo hi : Nat) (h1 : lo ≤ hi) (h2 : hi ≤ n) :
    ∃ a' c', slR 1 (.slice a n c) (some (.int .i64 (lo : Int))) (some (.int .i64 (hi : Int))) none = some (.slice a' (hi - lo) c') ∧ sliceBytes a' (hi - lo) h = some ((l.drop lo).take (hi - lo)) ∧ goodS a' (hi - lo) c' = true ∧ (∀ y, a' = some y → ∃ y0, a = some y0 ∧ y0.block = y.block) :=
  slR_bytes g e h1 h2 (by have := goodS_le g; simp only [boundA]; rw [if_pos (by omega)]; rfl) (by simp only [boundA]; rw [if_pos (by omega)]; rfl)
theorem cut_rest {a : Option Addr} {n c : Nat} {h : Heap} {l : List Nat} (g : goodS a n c = true) (e : sliceBytes a n h = some l) (lo : Nat) (h1 : lo ≤ n) :
    ∃ a' c', slR 1 (.slice a n c) (some (.int .i64 (lo : Int))) none none = some (.slice a' (n - lo) c') ∧ sliceBytes a' (n - lo) h = some (l.drop lo) ∧ goodS a' (n - lo) c' = true ∧ (∀ y, a' = some y → ∃ y0, a = some y0 ∧ y0.block = y.block) := by
  obtain ⟨a', c', e1, e2, e3, e4⟩ := slR_bytes (vl := some (.int .i64 (lo : Int))) (vh := none) (lo := lo) (hi := n) g e h1 (Nat.le_refl _) rfl (by simp only [boundA]; rw [if_pos (by omega)]; rfl)
  refine ⟨a', c', e1, ?_, e3, e4⟩
  rw [e2, List.take_of_length_le (by have := (sliceBytes_spec e).1; simp; omega)]
/-- What stands before a round of the document's loop. -/
structure PM (h0 : Heap) (sb q N : Nat) (T : List Ev) (S Z : List Value) (k : Nat) (y : Nat → Value) (g : Heap) : Prop where
  y5 : y 5 = ptr sb 0
  y2 : y 2 = ptr q 0
  ex : ∃ (a : Option Addr) (c : Nat) (l : List Nat) (done : List Ev) (cells : List Value), y 0 = .slice a l.length c ∧ sliceBytes a l.length g = some l ∧ goodS a l.length c = true ∧ (∀ y, a = some y → 0 < l.length → y.block < h0.next) ∧
    OwnC g N 6 (y 6) done.length cells ∧ EvL g (fun b => b < g.next ∧ baseOf (y 6) ≠ some b ∧ b ≠ q) cells done ∧
    done ++ parseE (k + 1) l = T ∧ l.length ≤ k ∧ done.length + l.length ≤ 100000000 ∧ (∀ b, baseOf (y 6) = some b → b < g.next)
  sbC : g.get sb = some S
  qC : g.get q = some Z
  n0 : g.n0 ≤ N
  Nn : N ≤ g.next
  sN : sb < N
  qN : q < N
  old : Old h0 g
  hN : h0.next ≤ N
  g2 : 2 ≤ g.n0
/-- What stands behind it. -/
structure PN (h0 : Heap) (sb q N : Nat) (T : List Ev) (S Z : List Value) (ex : Ex) (y : Nat → Value) (g : Heap) : Prop where
  ret : ex = .exit 0
  y5 : y 5 = ptr sb 0
  y2 : y 2 = ptr q 0
  sbC : g.get sb = some S
  qC : g.get q = some Z
  ev : ∃ cells, OwnC g N 6 (y 6) T.length cells ∧ EvL g (fun b => b < g.next ∧ baseOf (y 6) ≠ some b ∧ b ≠ q) cells T
  old : Old h0 g
theorem bsl_ev0 (g : Heap) : bslR 6 (.agg ev0.toArray) 0 [] g = some (.slice (some ⟨g.next, 0, none⟩) 0 0, g.alloc []) := rfl
theorem hag0 : (Value.agg #[.int .u8 0, .int .i64 0, .int .i64 0, .int .i64 0, .int .u64 0, .slice none 0 0]) = .agg ev0.toArray := rfl
set_option maxRecDepth 100000 in
theorem refp_round {h0 : Heap} {sb q N : Nat} {T : List Ev} {S Z : List Value} {k : Nat} {y : Nat → Value} {g : Heap} (I : PM h0 sb q N T S Z k y g) :
    ∃ ex x' h', t15l15_11111100 CW y g = some (ex, mkF 78 x', h') ∧ ((ex = .normal ∧ ∃ j, j < k ∧ PM h0 sb q N T S Z j x' h') ∨ (ex ≠ .normal ∧ PN h0 sb q N T S Z ex x' h')) := by
  obtain ⟨a, c, l, done, cells, y0, hb, hgd, hab, oc, el, hT, hk, hd, hbv⟩ := I.ex
  have hcl := goodS_le hgd
  have stop : ¬ (16 ≤ l.length ∧ be ((l.drop 14).take 2) ≤ l.length - 16) → ∀ x' : Nat → Value, x' 5 = y 5 → x' 2 = y 2 → x' 6 = y 6 → PN h0 sb q N T S Z (.exit 0) x' g := by
    intro hs x' x5 x2 x6
    have hT' : done = T := by
      rw [← hT]
      unfold parseE
      rcases q6_ok l with ⟨_, z2, z3, _⟩ | ⟨z1, _⟩
      · exact absurd ⟨z2, z3⟩ hs
      · rw [if_neg (by omega), List.append_nil]
    refine ⟨rfl, by rw [x5, I.y5], by rw [x2, I.y2], I.sbC, I.qC, ⟨cells, ?_, ?_⟩, I.old⟩
    · rw [x6, ← hT']; exact oc
    · rw [x6, ← hT']; exact el
  unfold t15l15_11111100
  simp -implicitDefEqProofs only [thenV_some, y0, lenL_slice, pu_some, bin_geq]
  by_cases h16 : (l.length : Int) ≥ 16
  rotate_left
  · simp -implicitDefEqProofs only [decide_eq_false h16]
    refine ⟨_, _, _, rfl, .inr ⟨by simp, stop (fun h => h16 (by omega)) _ ?_ ?_ ?_⟩⟩ <;> simp only [up_cons, up_nil, Nat.reduceEqDiff, if_false]
  have h16' : 16 ≤ l.length := by omega
  obtain ⟨a1, c1, s1, b1, _⟩ := cut_bytes hgd hb 14 16 (by omega) h16'
  have v1 := r52 (c := c1) I.g2 b1 (by decide)
  have hn : be ((l.drop 14).take (16 - 14)) < 65536 := be_lt 2 _ (by simp; omega) (fun x hx => (sliceBytes_spec b1).2.1 x hx)
  have w1 := nat_i64 hn (by decide)
  simp only [show 16 - 14 = 2 from rfl] at v1 w1 hn s1
  have s1 : slR 1 (.slice a l.length c) (some (.int .i64 14)) (some (.int .i64 16)) none = some (.slice a1 2 c1) := s1
  generalize hm : be ((l.drop 14).take 2) = m at *
  have hs16 : IntKind.wrap .i64 ((l.length : Int) - 16) = ((l.length - 16 : Nat) : Int) := by rw [wrap_i64 (by omega) (by omega)]; omega
  simp -implicitDefEqProofs only [decide_eq_true h16, s1, pu_some, thenV_some, v1, cvI_int, w1, bin_sub, hs16, bin_lss]
  by_cases hlt : ((l.length - 16 : Nat) : Int) < (m : Int)
  · simp -implicitDefEqProofs only [decide_eq_true hlt]
    refine ⟨_, _, _, rfl, .inr ⟨by simp, stop (fun h => by omega) _ ?_ ?_ ?_⟩⟩ <;> simp only [up_cons, up_nil, Nat.reduceEqDiff, if_false]
  simp -implicitDefEqProofs only [decide_eq_false hlt]
  have hml : 16 + m ≤ l.length := by omega
  obtain ⟨p0, i0, r0⟩ := idx_byte (c := c) hb (show 0 < l.length by omega)
  obtain ⟨p1, i1, r1⟩ := idx_byte (c := c) hb (show 1 < l.length by omega)
  obtain ⟨a2, c2, s2, b2, _⟩ := cut_bytes hgd hb 2 4 (by omega) (by omega)
  obtain ⟨a3, c3, s3, b3, _⟩ := cut_bytes hgd hb 4 6 (by omega) (by omega)
  obtain ⟨a4, c4, s4, b4, _⟩ := cut_bytes hgd hb 6 14 (by omega) (by omega)
  obtain ⟨a5, c5, s5, b5, _⟩ := cut_bytes hgd hb 16 (16 + m) (by omega) (by omega)
  obtain ⟨a6, c6, s6, b6, g6, d6⟩ := cut_rest hgd hb (16 + m) (by omega)
  have v2 := r52 (c := c2) I.g2 b2 (by decide)
  have v3 := r52 (c := c3) I.g2 b3 (by decide)
  have v4 := r52 (c := c4) I.g2 b4 (by decide)
  have w2 := nat_i64 (be_lt 2 ((l.drop 2).take (4 - 2)) (by simp; omega) (fun x hx => (sliceBytes_spec b2).2.1 x hx)) (by decide)
  have w3 := nat_i64 (be_lt 2 ((l.drop 4).take (6 - 4)) (by simp; omega) (fun x hx => (sliceBytes_spec b3).2.1 x hx)) (by decide)
  simp only [show 4 - 2 = 2 from rfl, show 6 - 4 = 2 from rfl, show 14 - 6 = 8 from rfl, Nat.add_sub_cancel_left] at s2 s3 s4 s5 v2 v3 v4 w2 w3 b5
  have s2 : slR 1 (.slice a l.length c) (some (.int .i64 2)) (some (.int .i64 4)) none = some (.slice a2 2 c2) := s2
  have s3 : slR 1 (.slice a l.length c) (some (.int .i64 4)) (some (.int .i64 6)) none = some (.slice a3 2 c3) := s3
  have s4 : slR 1 (.slice a l.length c) (some (.int .i64 6)) (some (.int .i64 14)) none = some (.slice a4 8 c4) := s4
  have s5 : slR 1 (.slice a l.length c) (some (.int .i64 16)) (some (.int .i64 ((16 + m : Nat) : Int))) none = some (.slice a5 m c5) := s5
  have i0 : idxS 1 (.slice a l.length c) (.int .i64 0) = some p0 := i0
  have i1 : idxS 1 (.slice a l.length c) (.int .i64 1) = some p1 := i1
  have w0 : IntKind.wrap .i64 ((l.getD 1 0 : Nat) : Int) = (l.getD 1 0 : Nat) := by
    have : l.getD 1 0 < 256 := by
      rw [List.getD_eq_getElem?_getD, List.getElem?_eq_getElem (by omega)]
      exact (sliceBytes_spec hb).2.1 _ (List.getElem_mem _)
    exact nat_i64 this (by decide)
  have w5 : IntKind.wrap .i64 (16 + (m : Int)) = ((16 + m : Nat) : Int) := by rw [wrap_i64 (by omega) (by omega)]; omega
  have n0g : g.n0 ≤ g.next := g.n0_le_next
  let ga := g.alloc []
  have oa : Old g ga := Kept.alloc _ _ _
  have na : ga.next = g.next + 1 := Heap.next_alloc ..
  obtain ⟨bd, sd, cd, gb, e1, e2, e3, e4, e5, e6, e7⟩ := append_fresh (g := ga) (E := g.next) (c := c5) (by show g.n0 ≤ _; exact n0g) (oa.bytes b5) (by omega)
  have oab : Old ga gb := ⟨e5, e6, fun d hd _ => e7 d hd⟩
  have ob : Old g gb := oa.trans oab
  -- the event
  have hE : evOf l = ⟨(l.getD 0 0 : Nat), (l.getD 1 0 : Nat), (be ((l.drop 2).take 2) : Nat), (be ((l.drop 4).take 2) : Nat), (be ((l.drop 6).take 8) : Nat), (l.drop 16).take m⟩ ∧ (q6 l).e = 0 ∧ (q6 l).l = l.drop (16 + m) := by
    rcases q6_ok l with ⟨z1, _, _, z4, z5⟩ | ⟨_, z2⟩
    · rw [hm] at z4 z5
      rw [z5, be_one (by omega), be_at (by omega)]
      exact ⟨rfl, z1, z4⟩
    · exact absurd ⟨h16', by rw [hm]; omega⟩ z2
  obtain ⟨hE, z1, z4⟩ := hE
  have hdl : ((l.drop 16).take m).length = m := by simp; omega
  generalize hB2 : be ((l.drop 2).take 2) = B2 at *
  generalize hB3 : be ((l.drop 4).take 2) = B3 at *
  generalize hB4 : be ((l.drop 6).take 8) = B4 at *
  generalize hcs : evc (evOf l) (.slice (some ⟨bd, 0, sd⟩) m cd) = cs at *
  have hcs' : [Value.int .u8 (l.getD 0 0 : Nat), .int .i64 (l.getD 1 0 : Nat), .int .i64 (B2 : Nat), .int .i64 (B3 : Nat), .int .u64 (B4 : Nat), .slice (some ⟨bd, 0, sd⟩) m cd] = cs := by
    rw [← hcs, hE]; rfl
  have hbl := bld_ev (l.getD 0 0 : Nat) (l.getD 1 0 : Nat) B2 B3 B4 (some ⟨bd, 0, sd⟩) m cd
  have hbs := fun g => bsl_ev g (l.getD 0 0 : Nat) (l.getD 1 0 : Nat) B2 B3 B4 (some ⟨bd, 0, sd⟩) m cd
  rw [hcs'] at hbl hbs
  have csl : cs.length = 6 := by rw [← hcs']; rfl
  have cso : Abs.noHoles cs = true ∧ oneCells cs = true := by rw [← hcs']; exact ⟨rfl, rfl⟩
  have g9 : (gb.alloc cs).get gb.next = some cs := by rw [Heap.get_alloc, if_pos rfl]
  have k9 : Old gb (gb.alloc cs) := Kept.alloc _ _ _
  have o9 : Old g (gb.alloc cs) := ob.trans k9
  have n9 : (gb.alloc cs).next = gb.next + 1 := Heap.next_alloc ..
  have oc9 : OwnC (gb.alloc cs) N 6 (y 6) done.length cells := oc.keep o9 (fun _ _ h => h)
  obtain ⟨v', hA, x1, x2, x3, x4⟩ := append_own (by_ := 64) (m := 1) oc9 (by rw [o9.n0]; exact I.n0) (by have := I.Nn; have := o9.next; omega) (by decide) (x := .slice (some ⟨gb.next, 0, none⟩) 1 1) rfl (firstA_one g9 csl (by decide) cso.1) cso.2 cso.1 (by omega) (by omega) (by omega)
  have kA : Kept (gb.alloc cs) hA (fun c => baseOf (y 6) = some c) := x3.mono fun _ _ h => h.1
  have rb0 := fun g' e => r0 g' e
  have bgb := ob.bytes hb
  simp -implicitDefEqProofs only [i0, i1, r0 g hb, r1 g hb, pu_some, thenV_some, u8, cvI_int, w0, s2, s3, s4, v2, v3, v4, w2, w3, bin_add, w5, s5, bsl_bytes, show g.alloc [] = ga from rfl, e1,
    show [Value.int .u8 0, .int .i64 0, .int .i64 0, .int .i64 0, .int .u64 0, .slice none 0 0] = ev0 from rfl, hbl, hag0, hbs, x1, r0 gb bgb, r1 gb bgb, chkI, Bool.and_self, s6]
  refine ⟨_, _, _, rfl, .inl ⟨rfl, k - 1, by omega, ?_⟩⟩
  have hbase : ∀ b, baseOf (y 6) = some b → N ≤ b := fun b hb => oc.base hb
  have base' : ∀ b, baseOf v' = some b → b < hA.next := by
    intro b hb'
    rcases x4 with rfl | ⟨h1', h2'⟩
    · have := hbv b hb'; have := o9.next; have := kA.next; omega
    · rw [h1'] at hb'; cases hb'; exact h2'
  have data : EvAt hA (fun b => b < hA.next ∧ baseOf v' ≠ some b ∧ b ≠ q) cs (evOf l) := by
    have d6' : EvAt gb (fun b => g.next ≤ b ∧ b < gb.next) cs (evOf l) := by
      refine ⟨some ⟨bd, 0, sd⟩, cd, ?_, ?_, ?_, ?_⟩
      · rw [← hcs, hE]; simp only [hdl]
      · rw [hE]; simp only [hdl]; exact e2
      · rw [hE]; simp only [hdl]; exact fun _ => e3
      · intro y0 hy
        cases hy
        rcases e4 with rfl | ⟨rfl, h⟩
        · exact ⟨Nat.le_refl _, show g.next < gb.next by omega⟩
        · exact ⟨show g.next ≤ ga.next by omega, h⟩
    have dA := (d6'.keep k9 (fun _ _ h => h)).keep kA (fun b hb1 hb2 => by have := hbv b hb2; omega)
    refine dA.mono fun b hb1 => ⟨?_, ?_, ?_⟩
    · have := kA.next; omega
    · intro hb2
      rcases x4 with rfl | ⟨h1', _⟩
      · have := hbv b hb2; omega
      · rw [h1'] at hb2; cases hb2; omega
    · have := I.qN; have := I.Nn; omega
  have prev : EvL hA (fun b => b < hA.next ∧ baseOf v' ≠ some b ∧ b ≠ q) cells done := by
    refine ((el.keep o9 (fun _ _ h => h)).keep kA (fun b hb1 hb2 => hb1.2.1 hb2)).mono fun b hb1 => ⟨?_, ?_, hb1.2.2⟩
    · have := o9.next; have := kA.next; omega
    · intro hb2
      rcases x4 with rfl | ⟨h1', _⟩
      · exact hb1.2.1 hb2
      · rw [h1'] at hb2; cases hb2; have := o9.next; have := ob.next; omega
  have apart : ∀ b, b < N → ¬ baseOf (y 6) = some b := fun b hb hb' => by have := hbase b hb'; omega
  refine ⟨?_, ?_, ?_, kA.getE (o9.getE I.sbC (fun h => h)) (apart _ I.sN), kA.getE (o9.getE I.qC (fun h => h)) (apart _ I.qN), ?_, ?_, I.sN, I.qN, ?_, I.hN, ?_⟩
  · simp only [up_cons, up_nil, Nat.reduceEqDiff, if_false, I.y5]
  · simp only [up_cons, up_nil, Nat.reduceEqDiff, if_false, I.y2]
  · simp only [up_cons, up_nil, Nat.reduceEqDiff, if_false, if_true]
    have hdrop : (l.drop (16 + m)).length = l.length - (16 + m) := by simp
    refine ⟨a6, c6, l.drop (16 + m), done ++ [evOf l], cells ++ cs, by rw [hdrop], ?_, by rw [hdrop]; exact g6, ?_, by rw [List.length_append]; exact x2, prev.snoc data, ?_, by rw [hdrop]; omega, by rw [List.length_append, hdrop]; simp; omega, base'⟩
    · rw [hdrop]
      refine kA.bytes (o9.bytes b6) fun y1 hy1 hpos hb' => ?_
      obtain ⟨y2, h1, h2⟩ := d6 y1 hy1
      have := hab y2 h1 (by omega)
      have := hbase _ hb'
      have := I.hN
      omega
    · intro y1 hy1 _
      obtain ⟨y2, h1, h2⟩ := d6 y1 hy1
      have := hab y2 h1 (by omega)
      omega
    · rw [← hT, show k - 1 + 1 = k by omega, List.append_assoc]
      congr 1
      show evOf l :: parseE k (l.drop (16 + m)) = parseE (k + 1) l
      conv => rhs; unfold parseE
      rw [if_pos z1, z4]
  · rw [kA.n0, o9.n0]; exact I.n0
  · have := kA.next; have := o9.next; have := I.Nn; omega
  · refine (I.old.trans o9).also kA (fun d hd hh => ?_)
    have := hbase _ hh
    have := I.hN
    omega
  · rw [kA.n0, o9.n0]; exact I.g2
end
end Go.Proofs.YtdmnphocgfnlpaaGreatDoor

namespace Go.Proofs.YtdmnphocgfnlpaaGreatDoor
open Go Go.Abs
noncomputable section
set_option maxRecDepth 100000 in
theorem r15 {h : Heap} (hG : 2 ≤ h.n0) {a : Option Addr} {n c : Nat} {l : List Nat} (hl : sliceBytes a n h = some l) (hgd : 0 < l.length → goodS a n c = true) (hn : n ≤ 100000000) :
    ∃ v h', CW 15 [.slice a n c] h = some (.tuple #[.agg (setC (parseP l).p (parseP l).b (parseP l).q).toArray, v, .int .i64 (parseP l).e], h') ∧ Old h h' ∧ EvV h' v (parseP l).evs := by
  have hlen : l.length = n := (sliceBytes_spec hl).1
  subst hlen
  let ha := h.alloc (setC 0 0 0)
  have oa : Old h ha := Kept.alloc _ _ _
  have ga : ha.get h.next = some (setC 0 0 0) := by rw [Heap.get_alloc, if_pos rfl]
  have na : ha.next = h.next + 1 := Heap.next_alloc ..
  have hn0 := h.n0_le_next
  have start : ∀ res : Value × Heap, (t15 CW (.slice a l.length c) h = some res) → CW 15 [.slice a l.length c] h = some res := fun res e => CW_body is15 hG rfl ((t15_eq _ _ _).trans e)
  have fin : ∀ (g : Heap) (E : Int) (y : Nat → Value), g.get h.next = some (setC 0 0 0) → g.n0 = h.n0 → y 2 = ptr h.next 0 → y 3 = .slice none 0 0 → y 4 = .int .i64 E →
      resultsA Tryz.prog Tryz.f15.results.toList (mkF 78 y) (g.set h.next (setC 0 0 0)) = some (.tuple #[.agg (setC 0 0 0).toArray, .slice none 0 0, .int .i64 E], g.set h.next (setC 0 0 0)) := by
    intro g E y hg hn y2 y3 y4
    rw [res_cell_two results15 agg23 siz23 (by decide) (by decide) (by decide) y (v := .agg (setC 0 0 0).toArray) (by rw [y2]; exact ldSet (Heap.get_set_same (by omega) hg _)), y3, y4]
  have kq : ∀ (g : Heap), g.get h.next = some (setC 0 0 0) → g.n0 = h.n0 → Old h g → Old h (g.set h.next (setC 0 0 0)) := by
    intro g hg hn o
    exact o.also (Kept.set (B := fun c => c = h.next) (by omega) hg (.inr rfl)) (fun d hd hh => by have hh : d = h.next := hh; omega)
  unfold parseP
  by_cases hs7 : (l.length : Int) < 7
  · rw [if_pos (by omega : l.length < 7)]
    refine ⟨.slice none 0 0, ha.set h.next (setC 0 0 0), start _ ?_, kq ha ga rfl oa, EvV.nil _⟩
    unfold t15
    simp -implicitDefEqProofs only [set_eq, newC_eq, thenV_some, lenL_slice, pu_some, bin_lss, decide_eq_true hs7, bld_set0, show h.alloc (setC 0 0 0) = ha from rfl, stSet ga (show ha.n0 ≤ h.next from hn0)]
    refine fin ha 4 _ ga rfl ?_ ?_ ?_ <;> simp only [up_cons, up_nil, Nat.reduceEqDiff, if_false, if_true]
  · rw [if_neg (by omega : ¬ l.length < 7)]
    have hgd := hgd (by omega)
    have hcl := goodS_le hgd
    have hla := oa.bytes hl
    obtain ⟨p0, i0, r0⟩ := idx_byte (c := c) hla (show 0 < l.length by omega)
    obtain ⟨a1, c1, s1, b1, _⟩ := cut_bytes hgd hla 1 3 (by omega) (by omega)
    obtain ⟨a2, c2, s2, b2, _⟩ := cut_bytes hgd hla 3 7 (by omega) (by omega)
    have v1 := r52 (c := c1) (show 2 ≤ ha.n0 from hG) b1 (by decide)
    have v2 := r52 (c := c2) (show 2 ≤ ha.n0 from hG) b2 (by decide)
    have w1 := nat_i64 (be_lt 2 ((l.drop 1).take (3 - 1)) (by simp; omega) (fun x hx => (sliceBytes_spec b1).2.1 x hx)) (by decide)
    have w2 := nat_i64 (be_lt 4 ((l.drop 3).take (7 - 3)) (by simp; omega) (fun x hx => (sliceBytes_spec b2).2.1 x hx)) (by decide)
    simp only [show 3 - 1 = 2 from rfl, show 7 - 3 = 4 from rfl] at s1 s2 v1 v2 w1 w2
    have s1 : slR 1 (.slice a l.length c) (some (.int .i64 1)) (some (.int .i64 3)) none = some (.slice a1 2 c1) := s1
    have s2 : slR 1 (.slice a l.length c) (some (.int .i64 3)) (some (.int .i64 7)) none = some (.slice a2 4 c2) := s2
    have i0 : idxS 1 (.slice a l.length c) (.int .i64 0) = some p0 := i0
    have w0 : IntKind.wrap .i64 ((l.getD 0 0 : Nat) : Int) = (l.getD 0 0 : Nat) := by
      have : l.getD 0 0 < 256 := by
        rw [List.getD_eq_getElem?_getD, List.getElem?_eq_getElem (by omega)]
        exact (sliceBytes_spec hl).2.1 _ (List.getElem_mem _)
      exact nat_i64 this (by decide)
    have q0 := r0 ha hla
    rw [be_one (by omega)]
    generalize hP : ((l.getD 0 0 : Nat) : Int) = P at *
    generalize hB : ((be ((l.drop 1).take 2) : Nat) : Int) = B at *
    generalize hQ : ((be ((l.drop 3).take 4) : Nat) : Int) = Q at *
    have q0 : ld1 p0 ha = some (.int .u8 P, ha) := by rw [← hP]; exact q0
    let h4 := ha.alloc (setC 0 0 0)
    have g4 : h4.get ha.next = some (setC 0 0 0) := by rw [Heap.get_alloc, if_pos rfl]
    let h5 := h4.set ha.next (setC P B Q)
    have na0 : ha.n0 ≤ ha.next := ha.n0_le_next
    have st5 : stN 3 (ptr ha.next 0) (.agg (setC P B Q).toArray) h4 = some (undef, h5) := stSet g4 (by rw [Heap.n0_alloc]; exact na0)
    have g5 : h5.get ha.next = some (setC P B Q) := Heap.get_set_same (by rw [Heap.n0_alloc]; exact na0) g4 _
    have o45 : Old ha h5 := (Kept.alloc ha (setC 0 0 0) _).also (Kept.set (B := fun c => c = ha.next) (by rw [Heap.n0_alloc]; exact na0) g4 (.inr rfl)) (fun d hd hh => by have hh : d = ha.next := hh; omega)
    have oh5 : Old h h5 := oa.trans o45
    have q5 : h5.get h.next = some (setC 0 0 0) := o45.getE ga (fun h => h)
    have n05 : h5.n0 = h.n0 := oh5.n0
    have l5 : ldN 3 (ptr ha.next 0) h5 = some (.agg (setC P B Q).toArray, h5) := ldSet g5
    obtain ⟨h6, e6, o6⟩ := r13 (h := h5) (by omega) P B Q
    have q6 : h6.get h.next = some (setC 0 0 0) := o6.getE q5 (fun h => h)
    have oh6 : Old h h6 := oh5.trans o6
    by_cases hv : validS P B Q = true
    · rw [if_pos hv]
      obtain ⟨a7, c7, s7, b7, gd7, d7⟩ := cut_rest hgd (oh6.bytes hl) 7 (by omega)
      have s7 : slR 1 (.slice a l.length c) (some (.int .i64 7)) none none = some (.slice a7 (l.length - 7) c7) := s7
      let h7 := h6.alloc []
      have o67 : Old h6 h7 := Kept.alloc _ _ _
      have n7 : h7.next = h6.next + 1 := Heap.next_alloc ..
      have hd : (l.drop 7).length = l.length - 7 := by simp
      have ln : ha.next < h6.next := h6.lt_of_get (o6.getE g5 (fun h => h))
      have I : PM h ha.next h.next h6.next (parseE (l.length + 1) (l.drop 7)) (setC P B Q) (setC 0 0 0) l.length
          (up (bs [.slice a l.length c]) [(0, .slice a7 (l.length - 7) c7), (2, ptr h.next 0), (3, .slice none 0 0), (4, .int .i64 0), (5, ptr ha.next 0), (6, .slice (some ⟨h6.next, 0, none⟩) 0 0), (8, .slice a l.length c), (9, .int .i64 l.length), (10, .bool false), (12, .slice a l.length c), (13, p0), (14, .int .u8 P), (15, .int .i64 P), (16, .slice a l.length c), (17, .slice a1 2 c1), (18, .int .u64 B), (19, .int .i64 B), (20, .slice a l.length c), (21, .slice a2 4 c2), (22, .int .u64 Q), (23, .int .i64 Q), (24, .agg (setC P B Q).toArray), (25, .agg (setC P B Q).toArray), (26, .bool true), (27, .bool false), (29, .slice (some ⟨h6.next, 0, none⟩) 0 0), (30, .slice a l.length c), (31, .slice a7 (l.length - 7) c7)]) h7 := by
        refine ⟨rfl, rfl, ⟨a7, c7, l.drop 7, [], [], by rw [hd]; rfl, by rw [hd]; exact o67.bytes b7, by rw [hd]; exact gd7, fun y1 hy1 hp => ?_, OwnC.empty _ (Nat.le_refl _), EvL.nil _ _, rfl, by simp, by simp; omega, fun b hb => by cases hb; show h6.next < h7.next; omega⟩, o67.getE (o6.getE g5 (fun h => h)) (fun h => h), o67.getE q6 (fun h => h), h6.n0_le_next, by omega, ln, by omega, oh6.trans o67, by omega, by show 2 ≤ h6.n0; rw [oh6.n0]; exact hG⟩
        obtain ⟨y2, h1, h2⟩ := d7 y1 hy1
        obtain ⟨b, off, s, k, hx, hk, _⟩ := (sliceBytes_spec hl).2.2 (by omega)
        rw [hx] at h1
        cases h1
        have h2 : b = y1.block := h2
        have := h.lt_of_get hk
        omega
      obtain ⟨ex, y, g, p1, p2⟩ := loop_inv (t15l15_11111100_eq CW) (Inv := fun k y g => PM h ha.next h.next h6.next (parseE (l.length + 1) (l.drop 7)) (setC P B Q) (setC 0 0 0) k y g)
        (fin := fun ex y g => PN h ha.next h.next h6.next (parseE (l.length + 1) (l.drop 7)) (setC P B Q) (setC 0 0 0) ex y g) (fun k y g I => refp_round I) (k := l.length) (by have : rounds = 18446744073709551616 := rfl; omega) I
      obtain ⟨rfl, y5, y2, gsb, gq, ⟨cells, oc, el⟩, og⟩ := p2
      have hq0 : g.n0 ≤ h.next := by rw [og.n0]; exact hn0
      have stq : stN 3 (ptr h.next 0) (.agg (setC P B Q).toArray) g = some (undef, g.set h.next (setC P B Q)) := stSet gq hq0
      have kq : Kept g (g.set h.next (setC P B Q)) (fun c => c = h.next) := Kept.set hq0 gq (.inr rfl)
      refine ⟨y 6, g.set h.next (setC P B Q), start _ ?_, og.also kq (fun d hd hh => by have hh : d = h.next := hh; omega), ⟨h6.next, cells, oc.keep kq (fun b hb hbr => by have hbr : b = h.next := hbr; have := oc.base hb; omega), (el.keep kq (fun b hb1 hb2 => hb1.2.2 hb2)).mono fun b hb1 => ⟨by have := kq.next; omega, hb1.2.1⟩⟩⟩
      unfold t15
      simp -implicitDefEqProofs only [set_eq, newC_eq, thenV_some, lenL_slice, pu_some, bin_lss, decide_eq_false hs7, show h.alloc (setC 0 0 0) = ha from rfl, i0, q0, cvI_int, w0, s1, v1, w1, s2, v2, w2, bld_set, show ha.alloc (setC 0 0 0) = h4 from rfl, st5, chkI, Bool.and_self, l5, e6, hv, unA_not, Bool.not_true,
        show [Value.int .u8 0, .int .i64 0, .int .i64 0, .int .i64 0, .int .u64 0, .slice none 0 0] = ev0 from rfl, hag0, bsl_ev0, show h6.alloc [] = h7 from rfl, s7, p1, endL_exit, b15_12, if_true, t15k15_11_eq]
      unfold t15k15_11
      simp -implicitDefEqProofs only [y5, y2, ldSet gsb, thenV_some, stq]
      rw [res_cell_two results15 agg23 siz23 (by decide) (by decide) (by decide) _ (v := .agg (setC P B Q).toArray) (by simp only [up_cons, up_nil, Nat.reduceEqDiff, if_false]; rw [y2]; exact ldSet (Heap.get_set_same hq0 gq _))]
      simp only [up_cons, up_nil, Nat.reduceEqDiff, if_false, if_true]
    · rw [if_neg hv]
      have hv' : validS P B Q = false := by simpa using hv
      refine ⟨.slice none 0 0, h6.set h.next (setC 0 0 0), start _ ?_, kq h6 q6 oh6.n0 oh6, EvV.nil _⟩
      unfold t15
      simp -implicitDefEqProofs only [set_eq, newC_eq, thenV_some, lenL_slice, pu_some, bin_lss, decide_eq_false hs7, show h.alloc (setC 0 0 0) = ha from rfl, i0, q0, cvI_int, w0, s1, v1, w1, s2, v2, w2, bld_set, bld_set0, show ha.alloc (setC 0 0 0) = h4 from rfl, st5, chkI, Bool.and_self, l5, e6, hv', unA_not, Bool.not_false, stSet q6 (show h6.n0 ≤ h.next by have := oh6.n0; omega)]
      refine fin h6 2 _ q6 oh6.n0 ?_ ?_ ?_ <;> simp only [up_cons, up_nil, Nat.reduceEqDiff, if_false, if_true]
end
end Go.Proofs.YtdmnphocgfnlpaaGreatDoor

namespace Go.Proofs.YtdmnphocgfnlpaaGreatDoor
open Go Go.Abs
noncomputable section
/-- The events of a slice, as they are read. -/
def EvS (h : Heap) (v : Value) (es : List Ev) : Prop :=
  ∃ a c, v = .slice a es.length c ∧ ∀ (i : Nat) (e : Ev), es[i]? = some e → ∃ p cs, idxS 6 v (.int .i64 (i : Int)) = some p ∧ EvAt h (fun _ => True) cs e ∧ (∀ h', Old h h' → ldN 6 p h' = some (.agg cs.toArray, h')) ∧ ∃ b o, p = ptr b o ∧ ∀ h' (j : Nat) x, Old h h' → cs[j]? = some x → ld1 (ptr b (o + j)) h' = some (x, h')
theorem EvS.old {h h' : Heap} {v : Value} {es : List Ev} (x : EvS h v es) (o : Old h h') : EvS h' v es := by
  obtain ⟨a, c, hv, hx⟩ := x
  refine ⟨a, c, hv, fun i e he => ?_⟩
  obtain ⟨p, cs, h1, h2, h3, b, q, h4, h5⟩ := hx i e he
  exact ⟨p, cs, h1, h2.keep o (fun _ _ h => h), fun h'' o' => h3 h'' (o.trans o'), b, q, h4, fun h'' j x o' => h5 h'' j x (o.trans o')⟩
theorem EvV.toS {h : Heap} {v : Value} {es : List Ev} (x : EvV h v es) : EvS h v es := by
  obtain ⟨N, cells, ⟨o1, o2, o3, o4⟩, el⟩ := x
  have hs : ∀ {i : Nat} {e : Ev}, es[i]? = some e → i < es.length := fun h => (List.getElem?_eq_some_iff.1 h).1
  rcases o4 with ⟨rfl, h4⟩ | ⟨b, s, rfl, h5, ⟨rfl, h4⟩ | ⟨rfl, h6⟩⟩
  · exact ⟨none, 0, by rw [h4], fun i e he => absurd (hs he) (by omega)⟩
  · exact ⟨some ⟨b, 0, none⟩, es.length, rfl, fun i e he => absurd (hs he) (by omega)⟩
  · refine ⟨some ⟨b, 0, some 6⟩, es.length, rfl, fun i e he => ?_⟩
    have hi := hs he
    have hidx : (0 : Int) ≤ (i : Int) ∧ (i : Int) < (es.length : Int) := by omega
    have hl := el.len
    refine ⟨ptr b (0 + i * 6), (cells.drop (6 * i)).take 6, ?_, (el.ev i e he).mono (fun _ _ => trivial), fun h' o => ?_, b, 0 + i * 6, rfl, fun h' j x o hj => ?_⟩
    · simp only [idxS, hidx, and_self, if_true, Int.toNat_natCast]
    · have hc : (cells.drop (0 + i * 6)).take 6 = (cells.drop (6 * i)).take 6 := by rw [Nat.zero_add, Nat.mul_comm]
      have := ldN_at (n := 6) (o := 0 + i * 6) (o.getE h6 (fun h => h)) (by omega) (by
        rw [hc]
        obtain ⟨a, c, h1, _⟩ := el.ev i e he
        rw [h1]; rfl)
      rw [hc] at this
      exact this
    · obtain ⟨a, c, h1, _⟩ := el.ev i e he
      rw [h1] at hj
      have hjl : j < 6 := (List.getElem?_eq_some_iff.1 hj).1
      refine ld1_at (o.getE h6 (fun h => h)) ?_ ?_
      · rw [← h1, List.getElem?_take, if_pos hjl, List.getElem?_drop] at hj
        rw [← hj]
        congr 1
        omega
      · rcases (show j = 0 ∨ j = 1 ∨ j = 2 ∨ j = 3 ∨ j = 4 ∨ j = 5 by omega) with rfl | rfl | rfl | rfl | rfl | rfl <;> (cases hj; rfl)
theorem is16 : IsFn Tryz.prog 16 Tryz.f16 := ⟨by kernel_rfl, by kernel_rfl, by kernel_rfl, by kernel_rfl⟩
theorem neq_str (a : ByteArray) : bin Tryz.prog .neq 9 (.string a) (.string a) = some (.bool false) := by
  unfold bin eqOk
  simp only [if_true]
  unfold binA
  simp only [ground, flat, Bool.and_self, if_true]
  have e : (binOp .neq 9 (.string a) (.string a)) = pure (.bool (!(a.toList == a.toList))) := rfl
  rw [e, beq_self_eq_true]
  rfl
theorem neq_selfI (t : TypeId) (k : IntKind) (n : Int) : bin Tryz.prog .neq t (.int k n) (.int k n) = some (.bool false) := by rw [bin_neq]; simp
theorem chk_ev (e : Ev) (a : Option Addr) (n c : Nat) (g : Heap) : chkR true (some (.agg (evc e (.slice a n c)).toArray, g)) (.agg (evc e (.slice a n c)).toArray) = true := by
  simp [chkR, same, veq, veqL, evc]
theorem sT : ((some true : Option Bool) == some false) = false := rfl
set_option maxRecDepth 100000 in
theorem same_round {es : List Ev} {h0 : Heap} {v w : Value} (x1 : EvS h0 v es) (x2 : EvS h0 w es) (hlen : es.length ≤ 100000000) {k : Nat} {y : Nat → Value} {g : Heap}
    (I : k ≤ es.length ∧ y 0 = v ∧ y 1 = w ∧ y 5 = .int .i64 ((es.length - k : Nat) : Int) ∧ Old h0 g) :
    ∃ ex x' h', t16l16_11010 CW y g = some (ex, mkF 69 x', h') ∧ ((ex = .normal ∧ ∃ j, j < k ∧ (j ≤ es.length ∧ x' 0 = v ∧ x' 1 = w ∧ x' 5 = .int .i64 ((es.length - j : Nat) : Int) ∧ Old h0 h')) ∨ (ex ≠ .normal ∧ (ex = .exit 0 ∧ Old h0 h'))) := by
  obtain ⟨hk, y0, y1, y5, og⟩ := I
  obtain ⟨a1, c1, hv, f1⟩ := x1
  obtain ⟨a2, c2, hw, f2⟩ := x2
  unfold t16l16_11010
  have hl : lenL v = some (.int .i64 es.length) := by rw [hv]; rfl
  simp -implicitDefEqProofs only [thenV_some, y0, y1, y5, hl, pu_some, bin_lss]
  by_cases hz : k = 0
  · have hd : ¬ (((es.length - k : Nat) : Int) < (es.length : Int)) := by omega
    simp -implicitDefEqProofs only [decide_eq_false hd]
    exact ⟨_, _, _, rfl, .inr ⟨by simp, rfl, og⟩⟩
  · have hd : (((es.length - k : Nat) : Int) < (es.length : Int)) := by omega
    have hi : es.length - k < es.length := by omega
    obtain ⟨p1, cs1, i1, ⟨d1, e1, hc1, b1, gd1, _⟩, l1, -⟩ := f1 _ _ (List.getElem?_eq_getElem hi)
    obtain ⟨p2, cs2, i2, ⟨d2, e2, hc2, b2, gd2, _⟩, l2, -⟩ := f2 _ _ (List.getElem?_eq_getElem hi)
    generalize hE : es[es.length - k] = E at *
    let ga := g.alloc ev0
    have na : ga.next = g.next + 1 := Heap.next_alloc ..
    let gb := ga.alloc ev0
    have nb : gb.next = ga.next + 1 := Heap.next_alloc ..
    have n0g := g.n0_le_next
    have q1 : gb.get g.next = some ev0 := by
      rw [Heap.get_alloc, if_neg (by omega), Heap.get_alloc, if_pos rfl]
    have q2 : gb.get ga.next = some ev0 := by rw [Heap.get_alloc, if_pos rfl]
    have z1 : (evc E (.slice d1 E.data.length e1)).length = 6 := rfl
    let gc := gb.set g.next cs1
    have s1 : stN 6 (ptr g.next 0) (.agg cs1.toArray) gb = some (undef, gc) := by
      rw [hc1]
      have : gc = gb.set g.next (evc E (.slice d1 E.data.length e1)) := by show gb.set g.next cs1 = _; rw [hc1]
      rw [this]
      exact stN_whole q1 n0g rfl rfl rfl
    have k3 : Kept gb gc (fun c => c = g.next) := Kept.set (h := gb) n0g q1 (.inr rfl)
    have q3 : gc.get ga.next = some ev0 := k3.getE q2 (by omega)
    let gd := gc.set ga.next cs2
    have n0a : gc.n0 ≤ ga.next := by show g.n0 ≤ _; omega
    have s2 : stN 6 (ptr ga.next 0) (.agg cs2.toArray) gc = some (undef, gd) := by
      rw [hc2]
      have : gd = gc.set ga.next (evc E (.slice d2 E.data.length e2)) := by show gc.set ga.next cs2 = _; rw [hc2]
      rw [this]
      exact stN_whole q3 n0a rfl rfl rfl
    have q4 : gc.get g.next = some cs1 := Heap.get_set_same (show gb.n0 ≤ g.next from n0g) q1 _
    have k4 : Kept gc gd (fun c => c = ga.next) := Kept.set n0a q3 (.inr rfl)
    have m1 : gd.get g.next = some cs1 := k4.getE q4 (by omega)
    have m2 : gd.get ga.next = some cs2 := Heap.get_set_same n0a q3 _
    have ogb : Old g gb := (Kept.alloc g ev0 _).trans (Kept.alloc ga ev0 _)
    have ogc : Old g gc := ogb.also k3 (fun d hd hh => by have hh : d = g.next := hh; omega)
    have ogd : Old g gd := ogc.also k4 (fun d hd hh => by have hh : d = ga.next := hh; omega)
    have od : Old h0 gd := og.trans ogd
    rw [hc1] at m1; rw [hc2] at m2
    have t1 := cvBS_at (c := e1) (od.bytes b1)
    have t2 := cvBS_at (c := e2) (od.bytes b2)
    have w1 : IntKind.wrap .i64 (((es.length - k : Nat) : Int) + 1) = ((es.length - (k - 1) : Nat) : Int) := by rw [wrap_i64 (by omega) (by omega)]; omega
    have lc2 := l2 gc (og.trans ogc)
    have ck : chkR true (ldN 6 p2 gc) (.agg cs2.toArray) = true := by rw [lc2, hc2]; exact chk_ev ..
    simp -implicitDefEqProofs only [decide_eq_true hd, i1, i2, l1 g og, l2 g og, pu_some, thenV_some, newC_eq, show [Value.int .u8 0, .int .i64 0, .int .i64 0, .int .i64 0, .int .u64 0, .slice none 0 0] = ev0 from rfl, show g.alloc ev0 = ga from rfl, show ga.alloc ev0 = gb from rfl, s1, s2, ck, Bool.and_self]
    have ld : ∀ (o : Nat) (b : Nat) (a : Option Addr) (c : Nat) (x : Value), gd.get b = some (evc E (.slice a E.data.length c)) → (evc E (.slice a E.data.length c))[o]? = some x → isHole x = false → ld1 (ptr b o) gd = some (x, gd) := fun o b a c x hg hx hh => ld1_at hg hx hh
    simp -implicitDefEqProofs only [addP_ptr, pu_some, thenV_some, Nat.zero_add, ld 0 _ _ _ _ m1 rfl rfl, ld 1 _ _ _ _ m1 rfl rfl, ld 2 _ _ _ _ m1 rfl rfl, ld 3 _ _ _ _ m1 rfl rfl, ld 4 _ _ _ _ m1 rfl rfl, ld 5 _ _ _ _ m1 rfl rfl,
      ld 0 _ _ _ _ m2 rfl rfl, ld 1 _ _ _ _ m2 rfl rfl, ld 2 _ _ _ _ m2 rfl rfl, ld 3 _ _ _ _ m2 rfl rfl, ld 4 _ _ _ _ m2 rfl rfl, ld 5 _ _ _ _ m2 rfl rfl, neq_selfI, bOf_bool, beq_self_eq_true, guardK_true, Bool.false_eq_true, if_false, t1, t2, neq_str, bin_add, w1]
    refine ⟨_, _, _, rfl, .inl ⟨rfl, k - 1, by omega, by omega, ?_, ?_, ?_, od⟩⟩
    · simp only [up_cons, up_nil, Nat.reduceEqDiff, if_false, y0]
    · simp only [up_cons, up_nil, Nat.reduceEqDiff, if_false, y1]
    · simp only [up_cons, up_nil, Nat.reduceEqDiff, if_false, if_true]
/-- sameEvents, of equal lists. -/
theorem r16 {h : Heap} (hG : 2 ≤ h.n0) {es : List Ev} {v w : Value} (x1 : EvS h v es) (x2 : EvS h w es) (hlen : es.length ≤ 100000000) : ∃ h', CW 16 [v, w] h = some (.bool true, h') ∧ Old h h' := by
  obtain ⟨ex, y, g, p1, rfl, p2⟩ := loop_inv (t16l16_11010_eq CW) (Inv := fun k y g => k ≤ es.length ∧ y 0 = v ∧ y 1 = w ∧ y 5 = .int .i64 ((es.length - k : Nat) : Int) ∧ Old h g)
    (fin := fun ex y g => ex = .exit 0 ∧ Old h g) (fun k y g I => same_round x1 x2 hlen I) (k := es.length) (by have : rounds = 18446744073709551616 := rfl; omega)
    (x := up (bs [v, w]) [(4, .bool false), (5, .int .i64 0), (8, v), (9, .int .i64 es.length), (10, w), (11, .int .i64 es.length), (12, .bool false)]) (h := h)
    ⟨Nat.le_refl _, rfl, rfl, by rw [Nat.sub_self]; rfl, Kept.refl _ _⟩
  refine ⟨g, CW_body is16 hG rfl ((t16_eq _ _ _ _).trans ?_), p2⟩
  have hl : lenL v = some (.int .i64 es.length) := by obtain ⟨a, c, hv, _⟩ := x1; rw [hv]; rfl
  have hl2 : lenL w = some (.int .i64 es.length) := by obtain ⟨a, c, hv, _⟩ := x2; rw [hv]; rfl
  unfold t16
  simp -implicitDefEqProofs only [thenV_some, hl, hl2, pu_some, neq_selfI, p1, endL_exit, b16_6, if_true, t16k16_4_eq]
  unfold t16k16_4
  simp -implicitDefEqProofs only [thenV_some]
end
end Go.Proofs.YtdmnphocgfnlpaaGreatDoor

namespace Go.Proofs.YtdmnphocgfnlpaaGreatDoor
open Go Go.Abs
noncomputable section
theorem is42' : IsFn Tryz.prog 42 Tryz.f42 := ⟨by kernel_rfl, by kernel_rfl, by kernel_rfl, by kernel_rfl⟩
theorem bsl2 (h : Heap) (x y : Nat) : bslR 1 (.int .u8 0) 2 [(0, u8 x), (1, u8 y)] h = some (.slice (some ⟨h.next, 0, none⟩) 2 2, h.alloc [u8 x, u8 y]) := rfl
theorem bytes2 (h : Heap) {x y : Nat} (hx : x < 256) (hy : y < 256) : sliceBytes (some ⟨h.next, 0, none⟩) 2 (h.alloc [u8 x, u8 y]) = some [x, y] := by
  have := sliceBytes_at (h := h.alloc [u8 x, u8 y]) (b := h.next) (off := 0) (n := 2) (s := none) (l := [x, y]) (by rw [Heap.get_alloc, if_pos rfl]; rfl) (by simp) (by simp [hx, hy])
  rw [this]; rfl
theorem beB2 (n : Nat) : beB 2 n = [n / 256 % 256, n % 256] := by
  show [n / 256 ^ 1 % 256, n / 256 ^ 0 % 256] = _
  simp
theorem r42 {h : Heap} {N w lim : Nat} {l : List Nat} (W : IsW h N w lim l) {a : Option Addr} {n c : Nat} {m : List Nat} (hm : sliceBytes a n h = some m) (ha : ∀ y, a = some y → 0 < n → Fr h w y.block) (hn : n ≤ 65535) (hfit : l.length + (n + 2) ≤ lim) (hsz : l.length + n + 8 ≤ 100000000) :
    ∃ h', CW 42 [ptr w 0, .slice a n c] h = some (.tuple #[], h') ∧ IsW h' N w lim (l ++ (beB 2 n ++ m)) ∧ WS w h h' := by
  obtain ⟨h1, e1, W1, k1⟩ := r91 W (n := n + 2) hfit
  have hsm := W.small
  have hx : n / 256 % 256 < 256 := Nat.mod_lt _ (by decide)
  have hy : n % 256 < 256 := Nat.mod_lt _ (by decide)
  have o1 : Old h1 (h1.alloc [u8 (n / 256 % 256), u8 (n % 256)]) := Kept.alloc _ _ _
  have k1a : WS w h (h1.alloc [u8 (n / 256 % 256), u8 (n % 256)]) := k1.trans (WS.of_old W1.lt o1)
  obtain ⟨v1, v2, g1, g2, f1, f2, f3, W2, k2⟩ := w_append (c := 2) (W1.alloc [u8 (n / 256 % 256), u8 (n % 256)]) (bytes2 h1 hx hy) (by omega)
  have k12 : WS w h g2 := k1a.trans k2
  obtain ⟨v3, v4, g3, g4, d1, d2, d3, W3, k3⟩ := w_append (c := c) W2 (k12.bytes hm ha) (by simp; omega)
  have hl2 : ld1 (ptr w 2) h1 = some (v1, h1) := by
    obtain ⟨vv, q1, q2, q3⟩ := W1.ex
    have e1 : ld1 (ptr w 2) h1 = some (vv, h1) := ld1_at q1 rfl (q2.cell.2.2)
    have e2 : ld1 (ptr w 2) (h1.alloc [u8 (n / 256 % 256), u8 (n % 256)]) = some (vv, h1.alloc [u8 (n / 256 % 256), u8 (n % 256)]) := ld1_at (Heap.get_alloc_some q1 _) rfl (q2.cell.2.2)
    rw [e2] at f1
    simp only [Option.some.injEq, Prod.mk.injEq, and_true] at f1
    rw [← f1]; exact e1
  have hl : lenL (.slice a n c) = some (i64n n) := rfl
  have hgt : bin Tryz.prog .gtr 3 (i64n n) (.int .i64 65535) = some (.bool false) := by
    rw [show (Value.int .i64 65535) = .int .i64 ((65535 : Nat) : Int) from rfl, gtr3, decide_eq_false (by omega)]
  have ha2 : bin Tryz.prog .add 3 (i64n n) (.int .i64 2) = some (i64n (n + 2)) := add3 (b := 2) (by omega)
  have hsh : bin Tryz.prog .shr 3 (i64n n) (.int .u64 8) = some (i64n (n / 256)) := by
    have := bin_shr_nat Tryz.prog 3 (k := .i64) (k' := .u64) (a := n) (b := 8) (by decide)
    exact this
  have c1 : IntKind.wrap .u8 ((n / 256 : Nat) : Int) = ((n / 256 % 256 : Nat) : Int) := by rw [wrap_u8_mod]; omega
  have c2 : IntKind.wrap .u8 ((n : Nat) : Int) = ((n % 256 : Nat) : Int) := by rw [wrap_u8_mod]; omega
  refine ⟨g4, CW_body is42' W.g4 rfl ((t42_eq _ _ _ _).trans ?_), ?_, k12.trans k3⟩
  · unfold t42
    simp -implicitDefEqProofs only [thenV_some, eql110, pu_some, hl, hgt, ha2, e1, nilCheck_ptr, addP_ptr, Nat.zero_add, hl2, hsh]
    simp -implicitDefEqProofs only [i64n, cvI_int, c1, c2, thenV_some]
    rw [show (Value.int .u8 ((n / 256 % 256 : Nat) : Int)) = u8 (n / 256 % 256) from rfl, show (Value.int .u8 ((n % 256 : Nat) : Int)) = u8 (n % 256) from rfl, bsl2]
    simp -implicitDefEqProofs only [thenV_some, f2, f3, d1, d2, d3, pu_some, nilCheck_ptr, addP_ptr, Nat.zero_add]
  · rw [beB2, ← List.append_assoc]; exact W3
end
end Go.Proofs.YtdmnphocgfnlpaaGreatDoor

namespace Go.Proofs.YtdmnphocgfnlpaaGreatDoor
open Go Go.Abs
noncomputable section
/-- An event whose numbers are of their types. -/
structure Ev.Wf (e : Ev) : Prop where
  k : 0 ≤ e.kind ∧ e.kind < 256
  p : -9223372036854775808 ≤ e.peer ∧ e.peer < 9223372036854775808
  a : -9223372036854775808 ≤ e.a ∧ e.a < 9223372036854775808
  b : -9223372036854775808 ≤ e.b ∧ e.b < 9223372036854775808
  d : 0 ≤ e.draw ∧ e.draw < 18446744073709551616
def writB (e : Ev) : Bool := decide (e.peer ≥ 0) && decide (e.peer ≤ 255) && decide (e.a ≥ 0) && decide (e.a ≤ 65535) && decide (e.b ≥ 0) && decide (e.b ≤ 65535) && decide ((e.data.length : Int) ≤ 65535)
def encE (e : Ev) : List Nat := beB 1 e.kind.toNat ++ (beB 1 e.peer.toNat ++ (beB 2 e.a.toNat ++ (beB 2 e.b.toNat ++ (beB 8 e.draw.toNat ++ (beB 2 e.data.length ++ e.data)))))
theorem encE_len (e : Ev) : (encE e).length = 16 + e.data.length := by
  unfold encE
  simp only [List.length_append, beB_length]
  omega
theorem is40' : IsFn Tryz.prog 40 Tryz.f40 := ⟨by kernel_rfl, by kernel_rfl, by kernel_rfl, by kernel_rfl⟩
theorem box_ev (h : Heap) (e : Ev) (a : Option Addr) (n c : Nat) : box (.agg (evc e (.slice a n c)).toArray) h = some (ptr h.next 0, h.alloc (evc e (.slice a n c))) := box_at h _ rfl
theorem r40 {h : Heap} (hG : 2 ≤ h.n0) (e : Ev) (a : Option Addr) (c : Nat) : ∃ h', CW 40 [.agg (evc e (.slice a e.data.length c)).toArray] h = some (.bool (writB e), h') ∧ Old h h' := by
  let K := evc e (.slice a e.data.length c)
  refine ⟨h.alloc K, CW_body is40' hG rfl ((t40_eq _ _ _).trans ?_), Kept.alloc _ _ _⟩
  have g : (h.alloc K).get h.next = some K := by rw [Heap.get_alloc, if_pos rfl]
  have l1 : ld1 (ptr h.next 1) (h.alloc K) = some (.int .i64 e.peer, h.alloc K) := ld1_at g rfl
  have l2 : ld1 (ptr h.next 2) (h.alloc K) = some (.int .i64 e.a, h.alloc K) := ld1_at g rfl
  have l3 : ld1 (ptr h.next 3) (h.alloc K) = some (.int .i64 e.b, h.alloc K) := ld1_at g rfl
  have l5 : ld1 (ptr h.next 5) (h.alloc K) = some (.slice a e.data.length c, h.alloc K) := ld1_at g rfl
  unfold t40 writB
  simp -implicitDefEqProofs only [box_ev, show h.alloc (evc e (.slice a e.data.length c)) = h.alloc K from rfl, thenV_some, addP_ptr, pu_some, Nat.zero_add, l1, bin_geq, bOf_bool]
  rcases hb0 : decide (e.peer ≥ 0) with _ | _ <;> rcases hb1 : decide (e.peer ≤ 255) with _ | _ <;> rcases hb2 : decide (e.a ≥ 0) with _ | _ <;> rcases hb3 : decide (e.a ≤ 65535) with _ | _ <;> rcases hb4 : decide (e.b ≥ 0) with _ | _ <;> rcases hb5 : decide (e.b ≤ 65535) with _ | _ <;> rcases hb6 : decide ((e.data.length : Int) ≤ 65535) with _ | _ <;>
    simp -implicitDefEqProofs only [sF, beq_self_eq_true, guardK_true, guardK_false, thenV_some, pu_some, l1, l2, l3, l5, lenL_slice, bin_geq, bin_leq, hb0, hb1, hb2, hb3, hb4, hb5, hb6, bOf_bool, if_true, Bool.false_eq_true, if_false, Bool.and_true, Bool.true_and, Bool.and_false, Bool.false_and]
theorem results9 : Tryz.f9.results.toList = [.tmp 4, .tmp 5] := by kernel_rfl
theorem res_two {rs : List ResultVar} {n i j : Nat} (hr : rs = [.tmp i, .tmp j]) (hi : i < n) (hj : j < n) (x : Nat → Value) (h : Heap) : resultsA Tryz.prog rs (mkF n x) h = some (.tuple #[x i, x j], h) := by
  subst hr
  simp only [resultsA, List.mapM_cons, List.mapM_nil, resultA, getD_mkF hi, getD_mkF hj]
  rfl
end
end Go.Proofs.YtdmnphocgfnlpaaGreatDoor

namespace Go.Proofs.YtdmnphocgfnlpaaGreatDoor
open Go Go.Abs
noncomputable section
/-- The limit of Script's Writer. -/
def maxI : Nat := 9223372036854775807
/-- What stands before a round of Script's loop: k events are still to come. -/
structure SL (h0 : Heap) (h1 : Heap) (N w : Nat) (v : Value) (es : List Ev) (l0 : List Nat) (k : Nat) (y : Nat → Value) (g : Heap) : Prop where
  hk : k ≤ es.length
  y6 : y 6 = ptr w 0
  y28 : y 28 = v
  y29 : y 29 = .int .i64 es.length
  y30 : y 30 = .int .i64 ((es.length - k : Nat) : Int)
  cur : IsW g N w maxI (l0 ++ (es.take (es.length - k)).flatMap encE)
  len : (l0 ++ (es.take (es.length - k)).flatMap encE).length ≤ 100 + (es.length - k) * 65600
  all : (es.take (es.length - k)).all writB = true
  ws : WS w h1 g
/-- What stands behind it. -/
def SF (h1 : Heap) (N w : Nat) (es : List Ev) (l0 : List Nat) (ex : Ex) (y : Nat → Value) (g : Heap) : Prop :=
  WS w h1 g ∧ ((ex = .exit 0 ∧ y 6 = ptr w 0 ∧ es.all writB = true ∧ IsW g N w maxI (l0 ++ es.flatMap encE) ∧ (l0 ++ es.flatMap encE).length ≤ 6000000) ∨ (ex = .ret ∧ es.all writB = false ∧ y 4 = .slice none 0 0 ∧ y 5 = .int .i64 2))
theorem take_snoc {α : Type} {l : List α} {i : Nat} {x : α} (h : l[i]? = some x) : l.take (i + 1) = l.take i ++ [x] := by
  rw [List.take_add_one, h]; rfl
set_option maxRecDepth 100000 in
theorem script_round {h0 h1 : Heap} {N w : Nat} {v : Value} {es : List Ev} {l0 : List Nat} (hS : EvS h0 v es) (hwf : ∀ e ∈ es, e.Wf) (h80 : es.length ≤ 80) (o01 : Old h0 h1) (hfr : ∀ b, b < h0.next → Fr h1 w b)
    {k : Nat} {y : Nat → Value} {g : Heap} (I : SL h0 h1 N w v es l0 k y g) :
    ∃ ex x' h', t9l9_111111010 CW y g = some (ex, mkF 69 x', h') ∧ ((ex = .normal ∧ ∃ j, j < k ∧ SL h0 h1 N w v es l0 j x' h') ∨ (ex ≠ .normal ∧ SF h1 N w es l0 ex x' h')) := by
  obtain ⟨hk, y6, y28, y29, y30, W, hlen, hall, ws⟩ := I
  unfold t9l9_111111010
  simp -implicitDefEqProofs only [y29, y30, thenV_some, pu_some, bin_lss]
  by_cases hz : k = 0
  · have hd : ¬ (((es.length - k : Nat) : Int) < (es.length : Int)) := by omega
    simp -implicitDefEqProofs only [decide_eq_false hd]
    rw [hz, Nat.sub_zero, List.take_of_length_le (Nat.le_refl _)] at W hlen hall
    refine ⟨_, _, _, rfl, .inr ⟨by simp, ws, .inl ⟨rfl, ?_, hall, W, by omega⟩⟩⟩
    simp only [up_cons, up_nil, Nat.reduceEqDiff, if_false, y6]
  have hd : (((es.length - k : Nat) : Int) < (es.length : Int)) := by omega
  have hi : es.length - k < es.length := by omega
  obtain ⟨av, cv, hv, hx⟩ := hS
  have hE0 := List.getElem?_eq_getElem hi
  generalize hE : es[es.length - k] = e at *
  have hmem : e ∈ es := List.mem_of_getElem? hE0
  have wf := hwf e hmem
  obtain ⟨p, cs, i1, ⟨a, c, hc, hb, hgd, _⟩, l1, -⟩ := hx _ _ hE0
  -- the heaps
  have og : Old h0 g := ⟨ws.n0.trans o01.n0, Nat.le_trans o01.next ws.next, fun d hd _ => (ws.getB d (hfr d hd)).trans (o01.getB d hd (fun h => h))⟩
  have hw := W.lt
  let ga := g.alloc ev0
  have na : ga.next = g.next + 1 := Heap.next_alloc ..
  have n0g := g.n0_le_next
  have q1 : ga.get g.next = some ev0 := by rw [Heap.get_alloc, if_pos rfl]
  let gb := ga.set g.next cs
  have s1 : stN 6 (ptr g.next 0) (.agg cs.toArray) ga = some (undef, gb) := by
    have : gb = ga.set g.next (evc e (.slice a e.data.length c)) := by show ga.set g.next cs = _; rw [hc]
    rw [hc, this]
    exact stN_whole q1 n0g rfl rfl rfl
  have kab : Kept ga gb (fun c => c = g.next) := Kept.set (h := ga) n0g q1 (.inr rfl)
  have ogb : Old g gb := (Kept.alloc g ev0 _).also kab (fun d hd hh => by have hh : d = g.next := hh; omega)
  have m1 : gb.get g.next = some (evc e (.slice a e.data.length c)) := by rw [← hc]; exact Heap.get_set_same (h := ga) n0g q1 _
  have nb : g.next < gb.next := gb.lt_of_get m1
  have ld6 : ldN 6 (ptr g.next 0) gb = some (.agg cs.toArray, gb) := by rw [hc]; exact ldN_all m1 rfl rfl
  have wgb : WS w g gb := WS.of_old hw ogb
  have Wb := W.old ogb
  obtain ⟨gc, e40, obc⟩ := r40 (h := gb) Wb.g4 e a c
  rw [← hc] at e40
  have ogc : Old g gc := ogb.trans obc
  have wgc : WS w g gc := WS.of_old hw ogc
  have Wc := W.old ogc
  have m2 : gc.get g.next = some (evc e (.slice a e.data.length c)) := obc.getE m1 (fun h => h)
  simp -implicitDefEqProofs only [decide_eq_true hd, y28, i1, l1 g og, pu_some, thenV_some, newC_eq, show [Value.int .u8 0, .int .i64 0, .int .i64 0, .int .i64 0, .int .u64 0, .slice none 0 0] = ev0 from rfl, show g.alloc ev0 = ga from rfl, s1, ld6, e40, unA_not]
  by_cases hwr : writB e = true
  rotate_left
  · have hwr' : writB e = false := by simpa using hwr
    simp -implicitDefEqProofs only [hwr', Bool.not_false]
    refine ⟨_, _, _, rfl, .inr ⟨by simp, ws.trans wgc, .inr ⟨rfl, ?_, ?_, ?_⟩⟩⟩
    · rw [List.all_eq_false]
      exact ⟨e, hmem, by rw [hwr']; decide⟩
    · simp only [up_cons, up_nil, Nat.reduceEqDiff, if_false, if_true]
    · simp only [up_cons, up_nil, Nat.reduceEqDiff, if_false, if_true]
  simp -implicitDefEqProofs only [hwr, Bool.not_true]
  have hww := hwr
  unfold writB at hww
  simp only [Bool.and_eq_true, decide_eq_true_eq] at hww
  obtain ⟨⟨⟨⟨⟨⟨b1, b2⟩, b3⟩, b4⟩, b5⟩, b6⟩, b7⟩ := hww
  obtain ⟨⟨k1, k2⟩, _, _, _, ⟨d1, d2⟩⟩ := wf
  -- the block of the event is none of the Writer's
  have fr8 : Fr gc w g.next := by
    refine ⟨by have := obc.next; omega, by omega, ?_⟩
    obtain ⟨vv, z1, z2, z3, z4⟩ := W.ex
    have hwb : wb gc w = baseOf vv := by unfold wb; rw [ogc.getE z1 (fun h => h)]
    rw [hwb]
    intro hh
    have := z4 _ hh
    omega
  have frD : ∀ y, a = some y → 0 < e.data.length → Fr gc w y.block := by
    intro y0 hy hp
    obtain ⟨b, off, s, kk, hx, hkk, _⟩ := (sliceBytes_spec hb).2.2 hp
    rw [hx] at hy
    cases hy
    exact wgc.fr _ (ws.fr _ (hfr _ (h0.lt_of_get hkk)))
  have hkn : e.kind = ((e.kind.toNat : Nat) : Int) := (Int.toNat_of_nonneg k1).symm
  have hpn : e.peer = ((e.peer.toNat : Nat) : Int) := (Int.toNat_of_nonneg b1).symm
  have han : e.a = ((e.a.toNat : Nat) : Int) := (Int.toNat_of_nonneg b3).symm
  have hbn : e.b = ((e.b.toNat : Nat) : Int) := (Int.toNat_of_nonneg b5).symm
  have hdn : e.draw = ((e.draw.toNat : Nat) : Int) := (Int.toNat_of_nonneg d1).symm
  have w1 : IntKind.wrap .u8 e.peer = e.peer := wrap_u8 (by omega) (by omega)
  have w2 : IntKind.wrap .u16 e.a = e.a := wrap_u16 (by omega) (by omega)
  have w3 : IntKind.wrap .u16 e.b = e.b := wrap_u16 (by omega) (by omega)
  generalize hcur : l0 ++ (es.take (es.length - k)).flatMap encE = cur at *
  have hcl : cur.length + 66000 ≤ 100000000 := by omega
  have hmx : maxI = 9223372036854775807 := rfl
  obtain ⟨g1, x1, W1, k1'⟩ := r37 Wc (v := e.kind.toNat) (by omega) (by omega) (by omega)
  obtain ⟨g2, x2, W2, k2'⟩ := r37 W1 (v := e.peer.toNat) (by simp only [List.length_append, beB_length]; omega) (by simp only [List.length_append, beB_length]; omega) (by omega)
  obtain ⟨g3, x3, W3, k3'⟩ := r38 W2 (v := e.a.toNat) (by simp only [List.length_append, beB_length]; omega) (by simp only [List.length_append, beB_length]; omega) (by omega)
  obtain ⟨g4, x4, W4, k4'⟩ := r38 W3 (v := e.b.toNat) (by simp only [List.length_append, beB_length]; omega) (by simp only [List.length_append, beB_length]; omega) (by omega)
  obtain ⟨g5, x5, W5, k5'⟩ := r41 W4 (v := e.draw.toNat) (by simp only [List.length_append, beB_length]; omega) (by simp only [List.length_append, beB_length]; omega) (by omega)
  have c12 := k1'.trans k2'
  have c13 := c12.trans k3'
  have c14 := c13.trans k4'
  have c15 := c14.trans k5'
  have hbc : sliceBytes a e.data.length gc = some e.data := Old.bytes (Kept.trans og ogc) hb
  obtain ⟨g6, x6, W6, k6'⟩ := r42 (c := c) W5 (c15.bytes hbc frD) (fun y0 hy hp => c15.fr _ (frD y0 hy hp)) (by omega) (by simp only [List.length_append, beB_length]; omega) (by simp only [List.length_append, beB_length]; omega)
  have ld : ∀ {hh : Heap} (kk : WS w gc hh) (o : Nat) (x : Value), (evc e (.slice a e.data.length c))[o]? = some x → isHole x = false → ld1 (ptr g.next o) hh = some (x, hh) := fun kk o x hx hh => ld1_at ((kk.get _ fr8).trans m2) hx hh
  rw [← hkn] at x1
  rw [← hpn] at x2
  rw [← han] at x3
  rw [← hbn] at x4
  rw [← hdn] at x5
  have w9 : IntKind.wrap .i64 (((es.length - k : Nat) : Int) + 1) = ((es.length - (k - 1) : Nat) : Int) := by rw [wrap_i64 (by omega) (by omega)]; omega
  simp -implicitDefEqProofs only [y6, addP_ptr, Nat.zero_add, pu_some, thenV_some, ld (WS.refl w gc) 0 _ rfl rfl, x1, ld k1' 1 _ rfl rfl, cvI_int, w1, x2, ld c12 2 _ rfl rfl, w2, x3, ld c13 3 _ rfl rfl, w3, x4, ld c14 4 _ rfl rfl, x5, ld c15 5 _ rfl rfl, x6, bin_add, w9]
  have htake : es.take (es.length - (k - 1)) = es.take (es.length - k) ++ [e] := by
    rw [show es.length - (k - 1) = es.length - k + 1 by omega]
    exact take_snoc hE0
  have hfl : l0 ++ (es.take (es.length - (k - 1))).flatMap encE = cur ++ encE e := by
    rw [htake, List.flatMap_append, ← List.append_assoc, hcur]; simp
  refine ⟨_, _, _, rfl, .inl ⟨rfl, k - 1, by omega, by omega, ?_, ?_, ?_, ?_, ?_, ?_, ?_, ((ws.trans wgc).trans c15).trans k6'⟩⟩
  · simp only [up_cons, up_nil, Nat.reduceEqDiff, if_false, y6]
  · simp only [up_cons, up_nil, Nat.reduceEqDiff, if_false, y28]
  · simp only [up_cons, up_nil, Nat.reduceEqDiff, if_false, y29]
  · simp only [up_cons, up_nil, Nat.reduceEqDiff, if_false, if_true]
  · rw [hfl]
    unfold encE
    simpa only [List.append_assoc] using W6
  · rw [hfl, List.length_append, encE_len]
    omega
  · rw [htake, List.all_append, hall]
    simp [hwr]
end
end Go.Proofs.YtdmnphocgfnlpaaGreatDoor

namespace Go.Proofs.YtdmnphocgfnlpaaGreatDoor
open Go Go.Abs
noncomputable section
theorem is4 : IsFn Tryz.prog 4 Tryz.f4 := ⟨by kernel_rfl, by kernel_rfl, by kernel_rfl, by kernel_rfl⟩
theorem eq_set (p b q : Int) : bin Tryz.prog .eql 23 (.agg (setC p b q).toArray) (.agg (setC p b q).toArray) = some (.bool true) := by
  have hp : pureRun Tryz.prog (Op.equalIn 10000 23 (.agg (setC p b q).toArray) (.agg (setC p b q).toArray)) = some true := by
    rw [pr_eq_struct (P := Tryz.prog) (d := 9999) Tryz.underlying23 (by kernel_rfl)]
    simp only [eqF]
    rw [if_pos (by decide), if_pos (by decide), if_pos (by decide)]
    rw [pr_part_int (v := .int .i64 p) Tryz.underlying3 rfl, pr_part_int (v := .int .i64 b) Tryz.underlying3 rfl, pr_part_int (v := .int .i64 q) Tryz.underlying3 rfl]
    simp only [Option.bind_some, pr_eq_int (d := 9998) Tryz.underlying3]
    simp
  exact (bin_agg (by kernel_rfl) rfl rfl hp).1
theorem eql_selfI (t : TypeId) (k : IntKind) (n : Int) : bin Tryz.prog .eql t (.int k n) (.int k n) = some (.bool true) := by rw [bin_eql]; simp
theorem parseE_len : ∀ (f : Nat) (l : List Nat), (parseE f l).length ≤ l.length
  | 0, _ => Nat.zero_le _
  | f + 1, l => by
    unfold parseE
    split
    · rename_i h
      rcases q6_ok l with ⟨_, z2, _, z4, _⟩ | ⟨z1, _⟩
      · have := parseE_len f (q6 l).l
        rw [z4] at this ⊢
        simp at this ⊢
        omega
      · omega
    · exact Nat.zero_le _
theorem parseP_len (l : List Nat) : (parseP l).evs.length ≤ l.length := by
  unfold parseP
  split
  · exact Nat.zero_le _
  · split
    · have := parseE_len (l.length + 1) (l.drop 7)
      simp at this ⊢
      omega
    · exact Nat.zero_le _
set_option maxRecDepth 100000 in
theorem r4 {h : Heap} (hG : 2 ≤ h.n0) (hz : h.get 1 = some roundsL) {a : Option Addr} {n c : Nat} {l : List Nat} (hl : sliceBytes a n h = some l) (hgd : 0 < l.length → goodS a n c = true) :
    ∃ h', CW 4 [.slice a n c] h = some (.bool true, h') := by
  have hlen : l.length = n := (sliceBytes_spec hl).1
  subst hlen
  have start : ∀ res : Value × Heap, (t4 CW (.slice a l.length c) h = some res) → CW 4 [.slice a l.length c] h = some res := fun res e => CW_body is4 hG rfl ((t4_eq _ _ _).trans e)
  by_cases hn : (l.length : Int) > 20000
  · refine ⟨h, start _ ?_⟩
    unfold t4
    simp -implicitDefEqProofs only [thenV_some, lenL_slice, pu_some, bin_gtr, decide_eq_true hn, r8 hz]
  · have n0h := h.n0_le_next
    let ha := h.alloc []
    have oa : Old h ha := Kept.alloc _ _ _
    obtain ⟨bd, sd, cd, gb, e1, e2, e3, e4, e5, e6, e7⟩ := append_fresh (g := ha) (E := h.next) (c := c) n0h (oa.bytes hl) (by omega)
    have oab : Old ha gb := ⟨e5, e6, fun d hd _ => e7 d hd⟩
    have ob : Old h gb := oa.trans oab
    obtain ⟨v1, h1, p1, o1, V1⟩ := r14 (h := gb) (c := cd) (by rw [ob.n0]; exact hG) e2 (by omega)
    have lR := parseP_len l
    have r15' := fun (g : Heap) (o : Old h g) => r15 (h := g) (c := c) (by rw [o.n0]; exact hG) (o.bytes hl) hgd (by omega)
    generalize parseP l = R at *
    obtain ⟨P, B, Q, evs, E⟩ := R
    simp only at p1 V1 lR r15'
    have o1' : Old h h1 := ob.trans o1
    have n1 := h1.n0_le_next
    let h2 := h1.alloc (setC 0 0 0)
    have g2 : h2.get h1.next = some (setC 0 0 0) := by rw [Heap.get_alloc, if_pos rfl]
    let h3 := h2.set h1.next (setC P B Q)
    have s3 : stN 3 (ptr h1.next 0) (.agg (setC P B Q).toArray) h2 = some (undef, h3) := stSet g2 n1
    have k23 : Kept h2 h3 (fun c => c = h1.next) := Kept.set (h := h2) n1 g2 (.inr rfl)
    have o13 : Old h1 h3 := (Kept.alloc h1 (setC 0 0 0) _).also k23 (fun d hd hh => by have hh : d = h1.next := hh; omega)
    have g3 : h3.get h1.next = some (setC P B Q) := Heap.get_set_same (h := h2) n1 g2 _
    have o3 : Old h h3 := o1'.trans o13
    obtain ⟨v2, h4, p2, o4, V2⟩ := r15' h3 o3
    have o4' : Old h h4 := o3.trans o4
    have n4 := h4.n0_le_next
    let h5 := h4.alloc (setC 0 0 0)
    have g5 : h5.get h4.next = some (setC 0 0 0) := by rw [Heap.get_alloc, if_pos rfl]
    let h6 := h5.set h4.next (setC P B Q)
    have s6 : stN 3 (ptr h4.next 0) (.agg (setC P B Q).toArray) h5 = some (undef, h6) := stSet g5 n4
    have k56 : Kept h5 h6 (fun c => c = h4.next) := Kept.set (h := h5) n4 g5 (.inr rfl)
    have o46 : Old h4 h6 := (Kept.alloc h4 (setC 0 0 0) _).also k56 (fun d hd hh => by have hh : d = h4.next := hh; omega)
    have g6 : h6.get h4.next = some (setC P B Q) := Heap.get_set_same (h := h5) n4 g5 _
    have g6' : h6.get h1.next = some (setC P B Q) := (o4.trans o46).getE g3 (fun h => h)
    have o6 : Old h h6 := o4'.trans o46
    obtain ⟨h7, p3, o7⟩ := r16 (h := h6) (by rw [o6.n0]; exact hG) (V1.toS.old ((o13.trans o4).trans o46)) (V2.toS.old o46) (by omega)
    have hz7 : h7.get 1 = some roundsL := (o6.trans o7).getE hz (fun h => h)
    refine ⟨h7, start _ ?_⟩
    have x0 : extractA (.tuple #[.agg (setC P B Q).toArray, v1, .int .i64 E]) 0 = some (.agg (setC P B Q).toArray) := rfl
    have x1 : extractA (.tuple #[.agg (setC P B Q).toArray, v1, .int .i64 E]) 1 = some v1 := rfl
    have x2 : extractA (.tuple #[.agg (setC P B Q).toArray, v1, .int .i64 E]) 2 = some (.int .i64 E) := rfl
    have y0 : extractA (.tuple #[.agg (setC P B Q).toArray, v2, .int .i64 E]) 0 = some (.agg (setC P B Q).toArray) := rfl
    have y1 : extractA (.tuple #[.agg (setC P B Q).toArray, v2, .int .i64 E]) 1 = some v2 := rfl
    have y2 : extractA (.tuple #[.agg (setC P B Q).toArray, v2, .int .i64 E]) 2 = some (.int .i64 E) := rfl
    unfold t4
    simp -implicitDefEqProofs only [thenV_some, lenL_slice, pu_some, bin_gtr, decide_eq_false hn, bsl_bytes, show h.alloc [] = ha from rfl, e1, p1, x0, x1, x2, set_eq, newC_eq, show h1.alloc (setC 0 0 0) = h2 from rfl, s3, p2, y0, y1, y2, show h4.alloc (setC 0 0 0) = h5 from rfl, s6, ldSet g6', ldSet g6, eq_set, bOf_bool, beq_self_eq_true, guardK_true, eql_selfI, if_true, p3, r8 hz7]
end
end Go.Proofs.YtdmnphocgfnlpaaGreatDoor

namespace Go.Proofs.YtdmnphocgfnlpaaGreatDoor
open Go Go.Abs
noncomputable section
def okScript (p b q : Int) (es : List Ev) : Bool := validS p b q && es.all writB
def scriptL (p b q : Int) (es : List Ev) : List Nat := beB 1 p.toNat ++ (beB 2 b.toNat ++ (beB 4 q.toNat ++ es.flatMap encE))
/-- A slice of bytes. -/
def BytesV (h : Heap) (v : Value) (l : List Nat) : Prop := ∃ a c, v = .slice a l.length c ∧ sliceBytes a l.length h = some l ∧ goodS a l.length c = true
theorem BytesV.old {h h' : Heap} {v : Value} {l : List Nat} (x : BytesV h v l) (o : Old h h') : BytesV h' v l := by
  obtain ⟨a, c, h1, h2, h3⟩ := x
  exact ⟨a, c, h1, o.bytes h2, h3⟩
theorem is9 : IsFn Tryz.prog 9 Tryz.f9 := ⟨by kernel_rfl, by kernel_rfl, by kernel_rfl, by kernel_rfl⟩
theorem valid_range {p b q : Int} (h : validS p b q = true) : (2 ≤ p ∧ p ≤ 16) ∧ (4 ≤ b ∧ b ≤ 4096) ∧ 0 ≤ q ∧ q ≤ 4294967295 := by
  unfold validS at h
  simp only [Bool.and_eq_true, decide_eq_true_eq] at h
  obtain ⟨⟨⟨⟨⟨b1, b2⟩, b3⟩, b4⟩, b5⟩, b6⟩ := h
  omega
theorem i64max : Value.int .i64 9223372036854775807 = i64n maxI := rfl
set_option maxRecDepth 100000 in
theorem r9 {h : Heap} (hG : 2 ≤ h.n0) (p b q : Int) {v : Value} {es : List Ev} (hS : EvS h v es) (hwf : ∀ e ∈ es, e.Wf) (h80 : es.length ≤ 80) :
    ∃ r : Value × Heap, CW 9 [.agg (setC p b q).toArray, v] h = some r ∧ ∃ u h', r = (.tuple #[u, .int .i64 (if okScript p b q es = true then 0 else 2)], h') ∧ Old h h' ∧ BytesV h' u (if okScript p b q es = true then scriptL p b q es else []) ∧
      (okScript p b q es = true → (scriptL p b q es).length ≤ 6000000) := by
  suffices hh : ∃ r : Value × Heap, t9 CW (.agg (setC p b q).toArray) v h = some r ∧ ∃ u h', r = (.tuple #[u, .int .i64 (if okScript p b q es = true then 0 else 2)], h') ∧ Old h h' ∧ BytesV h' u (if okScript p b q es = true then scriptL p b q es else []) ∧
      (okScript p b q es = true → (scriptL p b q es).length ≤ 6000000) by
    obtain ⟨r, h1, h2⟩ := hh
    exact ⟨r, CW_body is9 hG rfl ((t9_eq _ _ _ _).trans h1), h2⟩
  let ha := h.alloc (setC p b q)
  have oa : Old h ha := Kept.alloc _ _ _
  have g : ha.get h.next = some (setC p b q) := by rw [Heap.get_alloc, if_pos rfl]
  obtain ⟨hb, e12, oab⟩ := r12 (h := ha) hG p b q
  have ob : Old h hb := oa.trans oab
  have gb : hb.get h.next = some (setC p b q) := oab.getE g (fun h => h)
  unfold t9
  simp -implicitDefEqProofs only [box_set, show h.alloc (setC p b q) = ha from rfl, thenV_some, ldSet g, e12, unA_not, pu_some]
  by_cases hv : validS p b q = true
  rotate_left
  · have hv' : validS p b q = false := by simpa using hv
    have hok : ¬ (okScript p b q es = true) := by unfold okScript; rw [hv']; simp
    simp -implicitDefEqProofs only [hv', Bool.not_false]
    exact ⟨_, rfl, .slice none 0 0, hb, by rw [if_neg hok], ob, by rw [if_neg hok]; exact ⟨none, 0, rfl, rfl, rfl⟩, fun h => absurd h hok⟩
  obtain ⟨⟨v1, v2⟩, ⟨v3, v4⟩, v5, v6⟩ := valid_range hv
  have hpn : p = ((p.toNat : Nat) : Int) := (Int.toNat_of_nonneg (by omega)).symm
  have hbn : b = ((b.toNat : Nat) : Int) := (Int.toNat_of_nonneg (by omega)).symm
  have hqn : q = ((q.toNat : Nat) : Int) := (Int.toNat_of_nonneg (by omega)).symm
  have w1 : IntKind.wrap .u8 p = p := wrap_u8 (by omega) (by omega)
  have w2 : IntKind.wrap .u16 b = b := wrap_u16 (by omega) (by omega)
  have w3 : IntKind.wrap .u32 q = q := wrap_u32 (by omega) (by omega)
  have hmx : maxI = 9223372036854775807 := rfl
  obtain ⟨h1, x1, W1, o1, f1⟩ := r36 hb (by rw [ob.n0]; exact hG) (lim := maxI) (by omega)
  have o01 : Old h h1 := ob.trans o1
  have ln := hb.lt_of_get gb
  have fr : Fr h1 hb.next h.next := f1 _ ln
  have m1 : h1.get h.next = some (setC p b q) := o1.getE gb (fun h => h)
  obtain ⟨h2, x2, W2, k2⟩ := r37 W1 (v := p.toNat) (by simp; omega) (by simp) (by omega)
  obtain ⟨h3, x3, W3, k3⟩ := r38 W2 (v := b.toNat) (by simp [beB_length]; omega) (by simp [beB_length]) (by omega)
  obtain ⟨h4, x4, W4, k4⟩ := r39 W3 (v := q.toNat) (by simp [beB_length]; omega) (by simp [beB_length]) (by omega)
  rw [← hpn] at x2
  rw [← hbn] at x3
  rw [← hqn] at x4
  have k24 := (k2.trans k3).trans k4
  have ld : ∀ {hh : Heap} (kk : WS hb.next h1 hh) (o : Nat) (x : Value), (setC p b q)[o]? = some x → isHole x = false → ld1 (ptr h.next o) hh = some (x, hh) := fun kk o x hx hh => ld1_at ((kk.get _ fr).trans m1) hx hh
  have hlen : lenL v = some (.int .i64 es.length) := by obtain ⟨a, c, hv, _⟩ := hS; rw [hv]; rfl
  simp -implicitDefEqProofs only [hv, Bool.not_true, i64max, x1, thenV_some, addP_ptr, Nat.zero_add, pu_some, ld (WS.refl _ _) 0 _ rfl rfl, cvI_int, w1, x2, ld k2 1 _ rfl rfl, w2, x3, ld (k2.trans k3) 2 _ rfl rfl, w3, x4, hlen]
  have hfr : ∀ c, c < h.next → Fr h1 hb.next c := fun c hc => f1 c (Nat.lt_of_lt_of_le hc ob.next)
  let l0 := beB 1 p.toNat ++ (beB 2 b.toNat ++ beB 4 q.toNat)
  have hl0 : [] ++ beB 1 p.toNat ++ beB 2 b.toNat ++ beB 4 q.toNat = l0 := by simp [l0]
  rw [hl0] at W4
  have hl0n : l0.length = 7 := by simp [l0, beB_length]
  refine endL_fin (n := 69) (fin := fun ex y g => SF h1 hb.next hb.next es l0 ex y g) (Q := fun o : Out => ∃ r : Value × Heap, o = some r ∧ ∃ u h', r = (.tuple #[u, .int .i64 (if okScript p b q es = true then 0 else 2)], h') ∧ Old h h' ∧ BytesV h' u (if okScript p b q es = true then scriptL p b q es else []) ∧
      (okScript p b q es = true → (scriptL p b q es).length ≤ 6000000))
    (loop_fin (t9l9_111111010_eq CW) (Inv := fun k y g => SL h h1 hb.next hb.next v es l0 k y g) (fun k y g I => script_round hS hwf h80 o01 hfr I) es.length (by have : rounds = 18446744073709551616 := rfl; omega) ?_) ?_
  · refine ⟨Nat.le_refl _, rfl, rfl, rfl, by rw [Nat.sub_self]; rfl, ?_, ?_, ?_, k24⟩
    · rw [Nat.sub_self, List.take_zero, List.flatMap_nil, List.append_nil]; exact W4
    · rw [Nat.sub_self, List.take_zero, List.flatMap_nil, List.append_nil]; omega
    · rw [Nat.sub_self]; rfl
  · intro ex y g hf
    obtain ⟨ws, hf⟩ := hf
    have og : Old h g := ⟨ws.n0.trans o01.n0, Nat.le_trans o01.next ws.next, fun d hd _ => (ws.getB d (hfr d hd)).trans (o01.getB d hd (fun h => h))⟩
    rcases hf with ⟨rfl, y6, hall, W, hlim⟩ | ⟨rfl, hall, y4, y5⟩
    · have hok : okScript p b q es = true := by unfold okScript; rw [hv, hall]; rfl
      have hsc : l0 ++ es.flatMap encE = scriptL p b q es := by simp [l0, scriptL]
      rw [hsc] at W hlim
      obtain ⟨a, c, h', e1, e2, e3, e4, _⟩ := r43 W (by omega)
      rw [if_pos hok, if_pos hok]
      refine ⟨_, ?_, .slice a (scriptL p b q es).length c, h', rfl, og.trans e4, ⟨a, c, rfl, e2, e3⟩, fun _ => hlim⟩
      rw [endL_exit]
      unfold b9_10
      rw [if_pos rfl, t9k9_8_eq]
      unfold t9k9_8
      have z0 : extractA (.tuple #[.slice a (scriptL p b q es).length c, .int .i64 0]) 0 = some (.slice a (scriptL p b q es).length c) := rfl
      have z1 : extractA (.tuple #[.slice a (scriptL p b q es).length c, .int .i64 0]) 1 = some (.int .i64 0) := rfl
      simp -implicitDefEqProofs only [y6, thenV_some, e1, pu_some, z0, z1]
    · have hok : ¬ (okScript p b q es = true) := by unfold okScript; rw [hall]; simp
      rw [if_neg hok, if_neg hok]
      refine ⟨_, ?_, .slice none 0 0, g, rfl, og, ⟨none, 0, rfl, rfl, rfl⟩, fun h => absurd h hok⟩
      rw [endL_ret, res_two results9 (by decide) (by decide), y4, y5]
end
end Go.Proofs.YtdmnphocgfnlpaaGreatDoor

namespace Go.Proofs.YtdmnphocgfnlpaaGreatDoor
open Go Go.Abs
noncomputable section
theorem is10 : IsFn Tryz.prog 10 Tryz.f10 := ⟨by kernel_rfl, by kernel_rfl, by kernel_rfl, by kernel_rfl⟩
/-- What stands before a round of own's loop. -/
structure OL (h0 : Heap) (N : Nat) (v : Value) (es : List Ev) (k : Nat) (y : Nat → Value) (g : Heap) : Prop where
  hk : k ≤ es.length
  y0 : y 0 = v
  y4 : y 4 = .int .i64 ((es.length - k : Nat) : Int)
  ex : ∃ cells, OwnC g N 6 (y 3) (es.length - k) cells ∧ EvL g (fun b => b < g.next ∧ baseOf (y 3) ≠ some b) cells (es.take (es.length - k)) ∧ (∀ b, baseOf (y 3) = some b → b < g.next)
  n0 : g.n0 ≤ N
  Nn : N ≤ g.next
  hN : h0.next ≤ N
  old : Old h0 g
set_option maxRecDepth 100000 in
theorem own_round {h0 : Heap} {N : Nat} {v : Value} {es : List Ev} (hS : EvS h0 v es) (h80 : es.length ≤ 1000000) (hdl : ∀ e ∈ es, e.data.length ≤ 100000000)
    {k : Nat} {y : Nat → Value} {g : Heap} (I : OL h0 N v es k y g) :
    Rnd 27 (OL h0 N v es) (fun ex y g => ex = .exit 0 ∧ Old h0 g ∧ EvV g (y 3) es) k (t10l10_11010 CW y g) := by
  obtain ⟨hk, y0, y4, ⟨cells, oc, el, hbv⟩, n0, Nn, hN, og⟩ := I
  obtain ⟨av, cv, hv, hx⟩ := hS
  have hlen : lenL v = some (.int .i64 es.length) := by rw [hv]; rfl
  unfold t10l10_11010
  simp -implicitDefEqProofs only [y0, y4, thenV_some, hlen, pu_some, bin_lss]
  by_cases hz : k = 0
  · have hd : ¬ (((es.length - k : Nat) : Int) < (es.length : Int)) := by omega
    simp -implicitDefEqProofs only [decide_eq_false hd]
    rw [hz, Nat.sub_zero] at oc
    rw [hz, Nat.sub_zero, List.take_of_length_le (Nat.le_refl _)] at el
    refine Rnd.out 0 ⟨rfl, og, ⟨N, cells, ?_, ?_⟩⟩ <;> simp only [up_cons, up_nil, Nat.reduceEqDiff, if_false]
    · exact oc
    · exact el
  have hd : (((es.length - k : Nat) : Int) < (es.length : Int)) := by omega
  have hi : es.length - k < es.length := by omega
  have hE0 := List.getElem?_eq_getElem hi
  generalize hE : es[es.length - k] = e at *
  have hmem : e ∈ es := List.mem_of_getElem? hE0
  obtain ⟨p, cs, i1, ⟨a, c, hc, hb, hgd, _⟩, l1, -⟩ := hx _ _ hE0
  have hdata := hdl e hmem
  let ga := g.alloc ev0
  have na : ga.next = g.next + 1 := Heap.next_alloc ..
  have n0g := g.n0_le_next
  have q1 : ga.get g.next = some ev0 := by rw [Heap.get_alloc, if_pos rfl]
  let gb := ga.set g.next cs
  have s1 : stN 6 (ptr g.next 0) (.agg cs.toArray) ga = some (undef, gb) := by
    have : gb = ga.set g.next (evc e (.slice a e.data.length c)) := by show ga.set g.next cs = _; rw [hc]
    rw [hc, this]
    exact stN_whole q1 n0g rfl rfl rfl
  have kab : Kept ga gb (fun c => c = g.next) := Kept.set (h := ga) n0g q1 (.inr rfl)
  have ogb : Old g gb := (Kept.alloc g ev0 _).also kab (fun d hd hh => by have hh : d = g.next := hh; omega)
  have m1 : gb.get g.next = some (evc e (.slice a e.data.length c)) := by rw [← hc]; exact Heap.get_set_same (h := ga) n0g q1 _
  have nb : g.next < gb.next := gb.lt_of_get m1
  let gc := gb.alloc []
  have nc : gc.next = gb.next + 1 := Heap.next_alloc ..
  have obc : Old gb gc := Kept.alloc _ _ _
  have m2 : gc.get g.next = some (evc e (.slice a e.data.length c)) := obc.getE m1 (fun h => h)
  have l5 : ld1 (ptr g.next 5) gc = some (.slice a e.data.length c, gc) := ld1_at m2 rfl
  have ogc : Old g gc := ogb.trans obc
  have hbc : sliceBytes a e.data.length gc = some e.data := Old.bytes (Kept.trans og ogc) hb
  obtain ⟨bd, sd, cd, gd, e1, e2, e3, e4, e5, e6, e7⟩ := append_fresh (g := gc) (E := gb.next) (c := c) gb.n0_le_next hbc hdata
  have ocd : Old gc gd := ⟨e5, e6, fun d hd _ => e7 d hd⟩
  have m3 : gd.get g.next = some (evc e (.slice a e.data.length c)) := ocd.getE m2 (fun h => h)
  have n0d : gd.n0 ≤ g.next := by rw [ocd.n0, ogc.n0]; exact n0g
  let K := evc e (.slice (some ⟨bd, 0, sd⟩) e.data.length cd)
  let ge := gd.set g.next K
  have s2 : stN 1 (ptr g.next 5) (.slice (some ⟨bd, 0, sd⟩) e.data.length cd) gd = some (undef, ge) := stN1_at m3 (by simp [evc]) n0d rfl rfl
  have kde : Kept gd ge (fun c => c = g.next) := Kept.set n0d m3 (.inr rfl)
  have m4 : ge.get g.next = some K := Heap.get_set_same n0d m3 _
  have oge : Old g ge := (ogc.trans ocd).also kde (fun d hd hh => by have hh : d = g.next := hh; omega)
  have ld6 : ldN 6 (ptr g.next 0) ge = some (.agg K.toArray, ge) := ldN_all m4 rfl rfl
  have hbs : bslR 6 (.agg ev0.toArray) 1 [(0, .agg K.toArray)] ge = some (.slice (some ⟨ge.next, 0, none⟩) 1 1, ge.alloc K) := bsl_ev ge e.kind e.peer e.a e.b e.draw (some ⟨bd, 0, sd⟩) e.data.length cd
  have g9 : (ge.alloc K).get ge.next = some K := by rw [Heap.get_alloc, if_pos rfl]
  have k9 : Old ge (ge.alloc K) := Kept.alloc _ _ _
  have n9 : (ge.alloc K).next = ge.next + 1 := Heap.next_alloc ..
  have o9 : Old g (ge.alloc K) := oge.trans k9
  have oc9 : OwnC (ge.alloc K) N 6 (y 3) (es.length - k) cells := oc.keep o9 (fun _ _ h => h)
  obtain ⟨v', hA, x1, x2, x3, x4⟩ := append_own (by_ := 64) (m := 1) oc9 (by rw [o9.n0]; exact n0) (by have := o9.next; omega) (by decide) (x := .slice (some ⟨ge.next, 0, none⟩) 1 1) rfl (firstA_one g9 rfl (by decide) rfl) rfl rfl rfl (by omega) (by omega)
  have kA : Kept (ge.alloc K) hA (fun c => baseOf (y 3) = some c) := x3.mono fun _ _ h => h.1
  have w9 : IntKind.wrap .i64 (((es.length - k : Nat) : Int) + 1) = ((es.length - (k - 1) : Nat) : Int) := by rw [wrap_i64 (by omega) (by omega)]; omega
  simp -implicitDefEqProofs only [decide_eq_true hd, i1, l1 g og, pu_some, thenV_some, newC_eq, show [Value.int .u8 0, .int .i64 0, .int .i64 0, .int .i64 0, .int .u64 0, .slice none 0 0] = ev0 from rfl, show g.alloc ev0 = ga from rfl, s1, bsl_bytes, show gb.alloc [] = gc from rfl, addP_ptr, Nat.zero_add, l5, e1, s2, ld6, hag0, hbs, x1, bin_add, w9]
  have hbase : ∀ b, baseOf (y 3) = some b → N ≤ b := fun b hb => oc.base hb
  have base' : ∀ b, baseOf v' = some b → b < hA.next := by
    intro b hb'
    rcases x4 with rfl | ⟨h1', h2'⟩
    · have := hbv b hb'; have := o9.next; have := kA.next; omega
    · rw [h1'] at hb'; cases hb'; exact h2'
  have data : EvAt hA (fun b => b < hA.next ∧ baseOf v' ≠ some b) K e := by
    have d6 : EvAt gd (fun b => gb.next ≤ b ∧ b < gd.next) K e := by
      refine ⟨some ⟨bd, 0, sd⟩, cd, rfl, e2, fun _ => e3, fun y0 hy => ?_⟩
      cases hy
      rcases e4 with rfl | ⟨rfl, h⟩
      · exact ⟨Nat.le_refl _, show gb.next < gd.next by omega⟩
      · exact ⟨show gb.next ≤ gc.next by omega, h⟩
    have dA := ((d6.keep kde (fun b hb1 hb2 => by have hb2 : b = g.next := hb2; omega)).keep k9 (fun _ _ h => h)).keep kA (fun b hb1 hb2 => by have := hbv b hb2; have := ogb.next; omega)
    refine dA.mono fun b hb1 => ⟨?_, ?_⟩
    · have := kde.next; have := kA.next; omega
    · intro hb2
      have := ogb.next
      rcases x4 with rfl | ⟨h1', _⟩
      · have := hbv b hb2; omega
      · rw [h1'] at hb2; cases hb2; have := kde.next; omega
  have prev : EvL hA (fun b => b < hA.next ∧ baseOf v' ≠ some b) cells (es.take (es.length - k)) := by
    refine ((el.keep o9 (fun _ _ h => h)).keep kA (fun b hb1 hb2 => hb1.2 hb2)).mono fun b hb1 => ⟨?_, ?_⟩
    · have := o9.next; have := kA.next; omega
    · intro hb2
      rcases x4 with rfl | ⟨h1', _⟩
      · exact hb1.2 hb2
      · rw [h1'] at hb2; cases hb2; have := o9.next; omega
  have htake : es.take (es.length - (k - 1)) = es.take (es.length - k) ++ [e] := by
    rw [show es.length - (k - 1) = es.length - k + 1 by omega]
    exact take_snoc hE0
  have hn1 : es.length - (k - 1) = es.length - k + 1 := by omega
  refine Rnd.next (k - 1) (by omega) ⟨by omega, ?_, ?_, ?_, ?_, ?_, hN, ?_⟩
  · simp only [up_cons, up_nil, Nat.reduceEqDiff, if_false, y0]
  · simp only [up_cons, up_nil, Nat.reduceEqDiff, if_false, if_true]
  · simp only [up_cons, up_nil, Nat.reduceEqDiff, if_false, if_true]
    refine ⟨cells ++ K, ?_, ?_, base'⟩
    · rw [hn1]; exact x2
    · rw [htake]; exact prev.snoc data
  · rw [kA.n0, o9.n0]; exact n0
  · have := kA.next; have := o9.next; omega
  · refine (og.trans o9).also kA (fun d hd hh => ?_)
    have := hbase _ hh
    omega
/-- own: a copy of a list of events. -/
theorem r10 {h : Heap} (hG : 2 ≤ h.n0) {v : Value} {es : List Ev} (hS : EvS h v es) (h80 : es.length ≤ 1000000) (hdl : ∀ e ∈ es, e.data.length ≤ 100000000) :
    ∃ w h', CW 10 [v] h = some (w, h') ∧ Old h h' ∧ EvV h' w es := by
  suffices hh : ∃ r : Value × Heap, t10 CW v h = some r ∧ Old h r.2 ∧ EvV r.2 r.1 es by
    obtain ⟨⟨w, h'⟩, h1, h2⟩ := hh
    exact ⟨w, h', CW_body is10 hG rfl ((t10_eq _ _ _).trans h1), h2⟩
  unfold t10
  simp -implicitDefEqProofs only [thenV_some, show [Value.int .u8 0, .int .i64 0, .int .i64 0, .int .i64 0, .int .u64 0, .slice none 0 0] = ev0 from rfl, hag0, bsl_ev0]
  have o1 : Old h (h.alloc []) := Kept.alloc _ _ _
  have n1 : (h.alloc []).next = h.next + 1 := Heap.next_alloc ..
  refine endL_fin (n := 27) (fin := fun ex y g => ex = .exit 0 ∧ Old h g ∧ EvV g (y 3) es) (Q := fun o : Out => ∃ r : Value × Heap, o = some r ∧ Old h r.2 ∧ EvV r.2 r.1 es)
    (loop_fin (t10l10_11010_eq CW) (Inv := fun k y g => OL h h.next v es k y g) (fun k y g I => own_round hS h80 hdl I) es.length (by have : rounds = 18446744073709551616 := rfl; omega) ?_) ?_
  · refine ⟨Nat.le_refl _, rfl, by rw [Nat.sub_self]; rfl, ⟨[], ?_, ?_, ?_⟩, h.n0_le_next, by omega, Nat.le_refl _, o1⟩
    · rw [Nat.sub_self]; exact OwnC.empty _ (Nat.le_refl _)
    · rw [Nat.sub_self]; exact EvL.nil _ _
    · intro b hb; cases hb; show h.next < (h.alloc []).next; omega
  · rintro ex y g ⟨rfl, og, ev⟩
    refine ⟨(y 3, g), ?_, og, ev⟩
    rw [endL_exit]
    unfold b10_4
    rw [if_pos rfl, t10k10_2_eq]
    unfold t10k10_2
    simp -implicitDefEqProofs only [thenV_some]
end
end Go.Proofs.YtdmnphocgfnlpaaGreatDoor

namespace Go.Proofs.YtdmnphocgfnlpaaGreatDoor
open Go Go.Abs
noncomputable section
/-- Bytes that grow, beside what else is there. -/
structure RB (h0 g : Heap) (N : Nat) (u : Value) (cur : List Nat) : Prop where
  own : OwnB g N u cur
  lt : ∀ b, baseOf u = some b → b < g.next
  n0 : g.n0 ≤ N
  nN : N ≤ g.next
  old : Old h0 g
  hN : h0.next ≤ N
  g2 : 2 ≤ g.n0
/-- Blocks that are not the growing bytes stay. -/
structure St (g : Heap) (u : Value) (g' : Heap) (u' : Value) : Prop where
  next : g.next ≤ g'.next
  ap : ∀ b k, g.get b = some k → baseOf u ≠ some b → g'.get b = some k ∧ baseOf u' ≠ some b
theorem St.refl (g : Heap) (u : Value) : St g u g u := ⟨Nat.le_refl _, fun _ _ h1 h2 => ⟨h1, h2⟩⟩
theorem St.trans {a b c : Heap} {u v w : Value} (x : St a u b v) (y : St b v c w) : St a u c w :=
  ⟨Nat.le_trans x.next y.next, fun d k h1 h2 => by obtain ⟨h3, h4⟩ := x.ap d k h1 h2; exact y.ap d k h3 h4⟩
theorem rb_old {h0 g g' : Heap} {N : Nat} {u : Value} {cur : List Nat} (R : RB h0 g N u cur) (o : Old g g') : RB h0 g' N u cur ∧ St g u g' u :=
  ⟨⟨R.own.keep o (fun _ _ h => h), fun b hb => Nat.lt_of_lt_of_le (R.lt b hb) o.next, by rw [o.n0]; exact R.n0, Nat.le_trans R.nN o.next, R.old.trans o, R.hN, by rw [o.n0]; exact R.g2⟩, ⟨o.next, fun b k h1 h2 => ⟨o.getE h1 (fun h => h), h2⟩⟩⟩
theorem rb_app {h0 g : Heap} {N : Nat} {u : Value} {cur m : List Nat} {a : Option Addr} {n c : Nat} (R : RB h0 g N u cur) (hm : sliceBytes a n g = some m) (hb : cur.length + n ≤ 100000000) :
    ∃ u' g', appendA 1 1 u (.slice a n c) g = some (u', g') ∧ RB h0 g' N u' (cur ++ m) ∧ St g u g' u' := by
  obtain ⟨u', g', e1, e2, k, e4⟩ := append_ownB (c := c) R.own R.n0 R.nN hm hb
  refine ⟨u', g', e1, ⟨e2, fun b hb' => ?_, by rw [k.n0]; exact R.n0, Nat.le_trans R.nN k.next, R.old.also k (fun d hd hh => ?_), R.hN, by rw [k.n0]; exact R.g2⟩, ⟨k.next, fun b kk h1 h2 => ⟨k.getE h1 h2, ?_⟩⟩⟩
  · rcases e4 with rfl | ⟨h1, h2⟩
    · exact Nat.lt_of_lt_of_le (R.lt b hb') k.next
    · rw [h1] at hb'; cases hb'; exact h2
  · have := R.own.own.base hh
    have := R.hN
    omega
  · rcases e4 with rfl | ⟨h3, _⟩
    · exact h2
    · rw [h3]
      intro hh
      cases hh
      have := g.lt_of_get h1
      omega
theorem rb_num {h0 g : Heap} {N : Nat} {u : Value} {cur : List Nat} (R : RB h0 g N u cur) {n k : Nat} (h1 : 1 ≤ k) (hk : k ≤ 8) (hn : n < 18446744073709551616) (hb : cur.length + 8 ≤ 100000000) :
    ∃ v g1 u' g2, CW 44 [.int .u64 (n : Int), i64n k] g = some (v, g1) ∧ Old g g1 ∧ appendA 1 1 u v g1 = some (u', g2) ∧ RB h0 g2 N u' (cur ++ beB k n) ∧ St g u g2 u' := by
  obtain ⟨v, g1, e1, ow, o1⟩ := r44 g R.g2 h1 hk hn
  obtain ⟨a, c, hv, s1, _⟩ := ow.bytes
  obtain ⟨R1, S1⟩ := rb_old R o1
  obtain ⟨u', g2, e2, R2, S2⟩ := rb_app (c := c) R1 s1 (by rw [beB_length]; omega)
  exact ⟨v, g1, u', g2, e1, o1, by rw [hv]; exact e2, R2, S1.trans S2⟩
/-- What stands before a round. -/
structure TL (h0 : Heap) (N : Nat) (v : Value) (es : List Ev) (l0 : List Nat) (k : Nat) (y : Nat → Value) (g : Heap) : Prop where
  hk : k ≤ es.length
  y1 : y 1 = v
  y7 : y 7 = .int .i64 ((es.length - k : Nat) : Int)
  cur : RB h0 g N (y 6) (l0 ++ (es.take (es.length - k)).flatMap encE)
  len : (l0 ++ (es.take (es.length - k)).flatMap encE).length ≤ 100 + (es.length - k) * 65600
  all : (es.take (es.length - k)).all writB = true
/-- What stands behind the loop. -/
def TF (h0 : Heap) (N : Nat) (es : List Ev) (l0 : List Nat) (ex : Ex) (y : Nat → Value) (g : Heap) : Prop :=
  Old h0 g ∧ ((ex = .exit 0 ∧ es.all writB = true ∧ RB h0 g N (y 6) (l0 ++ es.flatMap encE)) ∨ (ex = .ret ∧ es.all writB = false ∧ y 4 = .slice none 0 0 ∧ y 5 = .int .i64 2))
theorem beB1 {x : Nat} (h : x < 256) : beB 1 x = [x] := by simp [beB, Nat.mod_eq_of_lt h]
set_option maxRecDepth 100000 in
set_option maxHeartbeats 1000000 in
theorem refs_round {h0 : Heap} {N : Nat} {v : Value} {es : List Ev} {l0 : List Nat} (hS : EvS h0 v es) (hwf : ∀ e ∈ es, e.Wf) (h80 : es.length ≤ 80) {k : Nat} {y : Nat → Value} {g : Heap} (I : TL h0 N v es l0 k y g) :
    Rnd 106 (TL h0 N v es l0) (TF h0 N es l0) k (t11l11_1111010 CW y g) := by
  obtain ⟨hk, y1, y7, R, hlen, hall⟩ := I
  have og := R.old
  obtain ⟨av, cv, hv, hx⟩ := hS
  have hlenv : lenL v = some (.int .i64 es.length) := by rw [hv]; rfl
  unfold t11l11_1111010
  simp -implicitDefEqProofs only [y1, y7, thenV_some, hlenv, pu_some, bin_lss]
  by_cases hz : k = 0
  · have hd : ¬ (((es.length - k : Nat) : Int) < (es.length : Int)) := by omega
    simp -implicitDefEqProofs only [decide_eq_false hd]
    rw [hz, Nat.sub_zero, List.take_of_length_le (Nat.le_refl _)] at R hall
    refine Rnd.out 0 ⟨og, .inl ⟨rfl, hall, ?_⟩⟩
    simp only [up_cons, up_nil, Nat.reduceEqDiff, if_false]
    exact R
  have hd : (((es.length - k : Nat) : Int) < (es.length : Int)) := by omega
  have hi : es.length - k < es.length := by omega
  have hE0 := List.getElem?_eq_getElem hi
  generalize hE : es[es.length - k] = e at *
  have hmem : e ∈ es := List.mem_of_getElem? hE0
  have wf := hwf e hmem
  obtain ⟨p, cs, i1, ⟨a, c, hc, hb, hgd, _⟩, l1, -⟩ := hx _ _ hE0
  let ga := g.alloc ev0
  have na : ga.next = g.next + 1 := Heap.next_alloc ..
  have n0g := g.n0_le_next
  have q1 : ga.get g.next = some ev0 := by rw [Heap.get_alloc, if_pos rfl]
  let gb := ga.set g.next cs
  have s1 : stN 6 (ptr g.next 0) (.agg cs.toArray) ga = some (undef, gb) := by
    have : gb = ga.set g.next (evc e (.slice a e.data.length c)) := by show ga.set g.next cs = _; rw [hc]
    rw [hc, this]
    exact stN_whole q1 n0g rfl rfl rfl
  have kab : Kept ga gb (fun c => c = g.next) := Kept.set (h := ga) n0g q1 (.inr rfl)
  have ogb : Old g gb := (Kept.alloc g ev0 _).also kab (fun d hd hh => by have hh : d = g.next := hh; omega)
  have m1 : gb.get g.next = some (evc e (.slice a e.data.length c)) := by rw [← hc]; exact Heap.get_set_same (h := ga) n0g q1 _
  obtain ⟨Rb, Sb⟩ := rb_old R ogb
  have apb : baseOf (y 6) ≠ some g.next := fun hh => by have := R.lt _ hh; omega
  have ld : ∀ {hh : Heap} {u : Value} (kk : St gb (y 6) hh u) (o : Nat) (x : Value), (evc e (.slice a e.data.length c))[o]? = some x → isHole x = false → ld1 (ptr g.next o) hh = some (x, hh) := fun kk o x hx hh => ld1_at (kk.ap _ _ m1 apb).1 hx hh
  have lb := fun (o : Nat) (x : Value) (hx : (evc e (.slice a e.data.length c))[o]? = some x) (hh : isHole x = false) => ld (St.refl gb (y 6)) o x hx hh
  simp -implicitDefEqProofs only [decide_eq_true hd, i1, l1 g og, pu_some, thenV_some, newC_eq, show [Value.int .u8 0, .int .i64 0, .int .i64 0, .int .i64 0, .int .u64 0, .slice none 0 0] = ev0 from rfl, show g.alloc ev0 = ga from rfl, s1, addP_ptr, Nat.zero_add, lb 1 _ rfl rfl, bin_lss]
  have bad : writB e = false → ∀ x' : Nat → Value, x' 4 = .slice none 0 0 → x' 5 = .int .i64 2 → Rnd 106 (TL h0 N v es l0) (TF h0 N es l0) k (some (.ret, mkF 106 x', gb)) := by
    intro hw x' x4 x5
    refine Rnd.ret ⟨og.trans ogb, .inr ⟨rfl, ?_, x4, x5⟩⟩
    rw [List.all_eq_false]
    exact ⟨e, hmem, by rw [hw]; decide⟩
  by_cases c1 : e.peer < 0
  · simp -implicitDefEqProofs only [decide_eq_true c1, bOf_bool, sT, guardK_false, thenV_some, if_true]
    refine bad ?_ _ ?_ ?_
    · unfold writB; rw [decide_eq_false (by omega : ¬ e.peer ≥ 0)]; simp
    all_goals simp only [up_cons, up_nil, Nat.reduceEqDiff, if_false, if_true]
  simp -implicitDefEqProofs only [decide_eq_false c1, bOf_bool, beq_self_eq_true, guardK_true, thenV_some, pu_some, lb 1 _ rfl rfl, bin_gtr, Bool.false_eq_true, if_false]
  by_cases c2 : e.peer > 255
  · simp -implicitDefEqProofs only [decide_eq_true c2, bOf_bool, sT, guardK_false, thenV_some, if_true]
    refine bad ?_ _ ?_ ?_
    · unfold writB; rw [decide_eq_false (by omega : ¬ e.peer ≤ 255)]; simp
    all_goals simp only [up_cons, up_nil, Nat.reduceEqDiff, if_false, if_true]
  simp -implicitDefEqProofs only [decide_eq_false c2, bOf_bool, beq_self_eq_true, guardK_true, thenV_some, pu_some, lb 2 _ rfl rfl, bin_lss, Bool.false_eq_true, if_false]
  by_cases c3 : e.a < 0
  · simp -implicitDefEqProofs only [decide_eq_true c3, bOf_bool, sT, guardK_false, thenV_some, if_true]
    refine bad ?_ _ ?_ ?_
    · unfold writB; rw [decide_eq_false (by omega : ¬ e.a ≥ 0)]; simp
    all_goals simp only [up_cons, up_nil, Nat.reduceEqDiff, if_false, if_true]
  simp -implicitDefEqProofs only [decide_eq_false c3, bOf_bool, beq_self_eq_true, guardK_true, thenV_some, pu_some, lb 2 _ rfl rfl, bin_gtr, Bool.false_eq_true, if_false]
  by_cases c4 : e.a > 65535
  · simp -implicitDefEqProofs only [decide_eq_true c4, bOf_bool, sT, guardK_false, thenV_some, if_true]
    refine bad ?_ _ ?_ ?_
    · unfold writB; rw [decide_eq_false (by omega : ¬ e.a ≤ 65535)]; simp
    all_goals simp only [up_cons, up_nil, Nat.reduceEqDiff, if_false, if_true]
  simp -implicitDefEqProofs only [decide_eq_false c4, bOf_bool, beq_self_eq_true, guardK_true, thenV_some, pu_some, lb 3 _ rfl rfl, bin_lss, Bool.false_eq_true, if_false]
  by_cases c5 : e.b < 0
  · simp -implicitDefEqProofs only [decide_eq_true c5, bOf_bool, sT, guardK_false, thenV_some, if_true]
    refine bad ?_ _ ?_ ?_
    · unfold writB; rw [decide_eq_false (by omega : ¬ e.b ≥ 0)]; simp
    all_goals simp only [up_cons, up_nil, Nat.reduceEqDiff, if_false, if_true]
  simp -implicitDefEqProofs only [decide_eq_false c5, bOf_bool, beq_self_eq_true, guardK_true, thenV_some, pu_some, lb 3 _ rfl rfl, bin_gtr, Bool.false_eq_true, if_false]
  by_cases c6 : e.b > 65535
  · simp -implicitDefEqProofs only [decide_eq_true c6, bOf_bool, sT, guardK_false, thenV_some, if_true]
    refine bad ?_ _ ?_ ?_
    · unfold writB; rw [decide_eq_false (by omega : ¬ e.b ≤ 65535)]; simp
    all_goals simp only [up_cons, up_nil, Nat.reduceEqDiff, if_false, if_true]
  simp -implicitDefEqProofs only [decide_eq_false c6, bOf_bool, beq_self_eq_true, guardK_true, thenV_some, pu_some, lb 5 _ rfl rfl, lenL_slice, bin_gtr, Bool.false_eq_true, if_false]
  by_cases c7 : (e.data.length : Int) > 65535
  · simp -implicitDefEqProofs only [decide_eq_true c7]
    refine bad ?_ _ ?_ ?_
    · unfold writB; rw [decide_eq_false (by omega : ¬ (e.data.length : Int) ≤ 65535)]; simp
    all_goals simp only [up_cons, up_nil, Nat.reduceEqDiff, if_false, if_true]
  have hwr : writB e = true := by
    unfold writB
    rw [decide_eq_true (by omega : e.peer ≥ 0), decide_eq_true (by omega : e.peer ≤ 255), decide_eq_true (by omega : e.a ≥ 0), decide_eq_true (by omega : e.a ≤ 65535), decide_eq_true (by omega : e.b ≥ 0), decide_eq_true (by omega : e.b ≤ 65535), decide_eq_true (by omega : (e.data.length : Int) ≤ 65535)]
    rfl
  obtain ⟨⟨k1, k2⟩, _, _, _, ⟨d1, d2⟩⟩ := wf
  have hkn : e.kind = ((e.kind.toNat : Nat) : Int) := (Int.toNat_of_nonneg k1).symm
  have hpn : e.peer = ((e.peer.toNat : Nat) : Int) := (Int.toNat_of_nonneg (by omega)).symm
  have han : e.a = ((e.a.toNat : Nat) : Int) := (Int.toNat_of_nonneg (by omega)).symm
  have hbn : e.b = ((e.b.toNat : Nat) : Int) := (Int.toNat_of_nonneg (by omega)).symm
  have hdn : e.draw = ((e.draw.toNat : Nat) : Int) := (Int.toNat_of_nonneg d1).symm
  have w1 : IntKind.wrap .u8 e.peer = e.peer := wrap_u8 (by omega) (by omega)
  have w2 : IntKind.wrap .u64 e.a = e.a := wrap_u64 (by omega) (by omega)
  have w3 : IntKind.wrap .u64 e.b = e.b := wrap_u64 (by omega) (by omega)
  have w4 : IntKind.wrap .u64 ((e.data.length : Nat) : Int) = ((e.data.length : Nat) : Int) := wrap_u64 (by omega) (by omega)
  have w9 : IntKind.wrap .i64 (((es.length - k : Nat) : Int) + 1) = ((es.length - (k - 1) : Nat) : Int) := by rw [wrap_i64 (by omega) (by omega)]; omega
  generalize hcur : l0 ++ (es.take (es.length - k)).flatMap encE = cur at *
  have hcl : cur.length + 66000 ≤ 100000000 := by omega
  have hx8 : e.kind.toNat < 256 := by omega
  have hy8 : e.peer.toNat < 256 := by omega
  -- kind and peer
  have olit : Old gb (gb.alloc [u8 e.kind.toNat, u8 e.peer.toNat]) := Kept.alloc _ _ _
  obtain ⟨Rl, Sl⟩ := rb_old Rb olit
  obtain ⟨u1, g1, x1, R1, S1⟩ := rb_app (c := 2) Rl (bytes2 gb hx8 hy8) (by omega)
  have S1 := Sl.trans S1
  have hl1 : (cur ++ [e.kind.toNat, e.peer.toNat]).length = cur.length + 2 := by simp
  obtain ⟨v2, f2, u2, g2, z2, o2, x2, R2, S2⟩ := rb_num R1 (n := e.a.toNat) (k := 2) (by decide) (by decide) (by omega) (by omega)
  obtain ⟨v3, f3, u3, g3, z3, o3, x3, R3, S3⟩ := rb_num R2 (n := e.b.toNat) (k := 2) (by decide) (by decide) (by omega) (by simp only [List.length_append, beB_length, hl1]; simp; omega)
  obtain ⟨v4, f4, u4, g4, z4, o4, x4, R4, S4⟩ := rb_num R3 (n := e.draw.toNat) (k := 8) (by decide) (by decide) (by omega) (by simp only [List.length_append, beB_length, hl1]; simp; omega)
  obtain ⟨v5, f5, u5, g5, z5, o5, x5, R5, S5⟩ := rb_num R4 (n := e.data.length) (k := 2) (by decide) (by decide) (by omega) (by simp only [List.length_append, beB_length, hl1]; simp; omega)
  have hb5 : sliceBytes a e.data.length g5 = some e.data := Old.bytes R5.old hb
  obtain ⟨u6, g6, x6, R6, S6⟩ := rb_app (c := c) R5 hb5 (by simp only [List.length_append, beB_length, hl1]; omega)
  have T1 := S1
  have T2 := T1.trans S2
  have T3 := T2.trans S3
  have T4 := T3.trans S4
  have T5 := T4.trans S5
  have T1' : St gb (y 6) f2 u1 := T1.trans (rb_old R1 o2).2
  have T3' : St gb (y 6) f4 u3 := T3.trans (rb_old R3 o4).2
  rw [← han] at z2
  rw [← hbn] at z3
  rw [← hdn] at z4
  have z2 : CW 44 [.int .u64 e.a, .int .i64 2] g1 = some (v2, f2) := z2
  have z3 : CW 44 [.int .u64 e.b, .int .i64 2] g2 = some (v3, f3) := z3
  have z4 : CW 44 [.int .u64 e.draw, .int .i64 8] g3 = some (v4, f4) := z4
  have z5 : CW 44 [.int .u64 (e.data.length : Int), .int .i64 2] g4 = some (v5, f5) := z5
  have hbs : bslR 1 (.int .u8 0) 2 [(0, .int .u8 e.kind), (1, .int .u8 e.peer)] gb = some (.slice (some ⟨gb.next, 0, none⟩) 2 2, gb.alloc [u8 e.kind.toNat, u8 e.peer.toNat]) := by
    have := bsl2 gb e.kind.toNat e.peer.toNat
    have e1 : u8 e.kind.toNat = .int .u8 e.kind := by show Value.int .u8 _ = _; rw [← hkn]
    have e2 : u8 e.peer.toNat = .int .u8 e.peer := by show Value.int .u8 _ = _; rw [← hpn]
    rw [e1, e2] at this ⊢
    exact this
  have ck : ∀ (aa : Option Addr) (n cc : Nat) (hh : Heap), chkR true (some (.slice aa n cc, hh)) (.slice aa n cc) = true := fun aa n cc hh => by simp [chkR, same, veq]
  simp -implicitDefEqProofs only [decide_eq_false c7, lb 0 _ rfl rfl, lb 1 _ rfl rfl, cvI_int, w1, thenV_some, pu_some, hbs, x1, ld T1 2 _ rfl rfl, w2, z2, x2, ld T2 3 _ rfl rfl, w3, z3, x3,
    ld T1 3 _ rfl rfl, ld T1' 3 _ rfl rfl, chkI, Bool.and_self, ld T3 4 _ rfl rfl, z4, x4, ld T4 5 _ rfl rfl, lenL_slice, w4, z5, x5, ld T3 5 _ rfl rfl, ld T3' 5 _ rfl rfl, ck, ld T5 5 _ rfl rfl, x6, bin_add, w9]
  have htake : es.take (es.length - (k - 1)) = es.take (es.length - k) ++ [e] := by
    rw [show es.length - (k - 1) = es.length - k + 1 by omega]
    exact take_snoc hE0
  have hfl : l0 ++ (es.take (es.length - (k - 1))).flatMap encE = cur ++ encE e := by
    rw [htake, List.flatMap_append, ← List.append_assoc, hcur]; simp
  refine Rnd.next (k - 1) (by omega) ⟨by omega, ?_, ?_, ?_, ?_, ?_⟩
  · simp only [up_cons, up_nil, Nat.reduceEqDiff, if_false, y1]
  · simp only [up_cons, up_nil, Nat.reduceEqDiff, if_false, if_true]
  · simp only [up_cons, up_nil, Nat.reduceEqDiff, if_false, if_true]
    rw [hfl]
    have hen : cur ++ encE e = cur ++ [e.kind.toNat, e.peer.toNat] ++ beB 2 e.a.toNat ++ beB 2 e.b.toNat ++ beB 8 e.draw.toNat ++ beB 2 e.data.length ++ e.data := by
      unfold encE
      rw [beB1 hx8, beB1 hy8]
      simp only [List.append_assoc, List.cons_append, List.nil_append]
    rw [hen]
    exact R6
  · rw [hfl, List.length_append, encE_len]
    omega
  · rw [htake, List.all_append, hall]
    simp [hwr]
end
end Go.Proofs.YtdmnphocgfnlpaaGreatDoor

namespace Go.Proofs.YtdmnphocgfnlpaaGreatDoor
open Go Go.Abs
noncomputable section
theorem is11 : IsFn Tryz.prog 11 Tryz.f11 := ⟨by kernel_rfl, by kernel_rfl, by kernel_rfl, by kernel_rfl⟩
theorem results11 : Tryz.f11.results.toList = [.tmp 4, .tmp 5] := by kernel_rfl
/-- append, behind bytes that are no one's own. -/
theorem append_lit {h : Heap} {b off n k c : Nat} {a : Option Addr} {l m : List Nat} (hl : sliceBytes (some ⟨b, off, none⟩) n h = some l) (hm : sliceBytes a k h = some m) (hk : 0 < k) (hb : n + k ≤ 100000000) :
    ∃ v' h', appendA 1 1 (.slice (some ⟨b, off, none⟩) n n) (.slice a k c) h = some (v', h') ∧ OwnB h' h.next v' (l ++ m) ∧ Old h h' ∧ baseOf v' = some h.next ∧ h.next < h'.next := by
  obtain ⟨l1, lb, _⟩ := sliceBytes_spec hl
  obtain ⟨m1, mb, _⟩ := sliceBytes_spec hm
  have f1 := firstA_of hl (Nat.le_refl n) (c := n)
  rw [List.take_of_length_le (by omega)] at f1
  have f2 := firstA_of hm (Nat.le_refl k) (c := c)
  rw [List.take_of_length_le (by omega)] at f2
  refine ⟨.slice (some ⟨h.next, 0, some 1⟩) (n + k) (n + k), h.alloc (l.map u8 ++ m.map u8), ?_, ⟨⟨?_, ?_, ?_, .inr ⟨h.next, some 1, ?_, Nat.le_refl _, .inr ⟨rfl, ?_⟩⟩⟩, ?_⟩, Kept.alloc _ _ _, rfl, by simp⟩
  · unfold appendA
    simp only [show lenA (.slice a k c) = some k from rfl, f1, f2]
    have c1 : ((!(oneCells (m.map u8)) || !(decide ((n + k) * 1 ≤ 140737488355328)) || !(decide (n + k ≤ 4611686018427387904)) || decide ((m.map u8).length ≠ k * 1)) = true) ↔ False := by
      rw [one_u8, decide_eq_true (by omega), decide_eq_true (by omega), decide_eq_false (by simp; omega)]
      simp
    rw [if_neg (by rw [c1]; exact id), if_neg (by omega), if_neg (by simp; omega)]
  · simp
  · rw [List.map_append]; exact noHoles_append _ _ (noHoles_u8 _) (noHoles_u8 _)
  · rw [List.map_append]; exact oneCells_append _ _ (one_u8 _) (one_u8 _)
  · rw [List.length_append, l1, m1]
  · rw [Heap.get_alloc, if_pos rfl, List.map_append]
  · intro x hx
    rcases List.mem_append.1 hx with hx | hx
    · exact lb x hx
    · exact mb x hx
set_option maxRecDepth 100000 in
theorem r11 {h : Heap} (hG : 2 ≤ h.n0) (p b q : Int) {v : Value} {es : List Ev} (hS : EvS h v es) (hwf : ∀ e ∈ es, e.Wf) (h80 : es.length ≤ 80) :
    ∃ r : Value × Heap, CW 11 [.agg (setC p b q).toArray, v] h = some r ∧ ∃ u h', r = (.tuple #[u, .int .i64 (if okScript p b q es = true then 0 else 2)], h') ∧ Old h h' ∧ BytesV h' u (if okScript p b q es = true then scriptL p b q es else []) := by
  suffices hh : ∃ r : Value × Heap, t11 CW (.agg (setC p b q).toArray) v h = some r ∧ ∃ u h', r = (.tuple #[u, .int .i64 (if okScript p b q es = true then 0 else 2)], h') ∧ Old h h' ∧ BytesV h' u (if okScript p b q es = true then scriptL p b q es else []) by
    obtain ⟨r, h1, h2⟩ := hh
    exact ⟨r, CW_body is11 hG rfl ((t11_eq _ _ _ _).trans h1), h2⟩
  let ha := h.alloc (setC p b q)
  have oa : Old h ha := Kept.alloc _ _ _
  have g : ha.get h.next = some (setC p b q) := by rw [Heap.get_alloc, if_pos rfl]
  obtain ⟨hb, e13, oab⟩ := r13 (h := ha) hG p b q
  have ob : Old h hb := oa.trans oab
  have gb : hb.get h.next = some (setC p b q) := oab.getE g (fun h => h)
  unfold t11
  simp -implicitDefEqProofs only [box_set, show h.alloc (setC p b q) = ha from rfl, thenV_some, ldSet g, e13, unA_not, pu_some]
  by_cases hv : validS p b q = true
  rotate_left
  · have hv' : validS p b q = false := by simpa using hv
    have hok : ¬ (okScript p b q es = true) := by unfold okScript; rw [hv']; simp
    simp -implicitDefEqProofs only [hv', Bool.not_false]
    exact ⟨_, rfl, .slice none 0 0, hb, by rw [if_neg hok], ob, by rw [if_neg hok]; exact ⟨none, 0, rfl, rfl, rfl⟩⟩
  obtain ⟨⟨v1, v2⟩, ⟨v3, v4⟩, v5, v6⟩ := valid_range hv
  have hpn : p = ((p.toNat : Nat) : Int) := (Int.toNat_of_nonneg (by omega)).symm
  have hbn : b = ((b.toNat : Nat) : Int) := (Int.toNat_of_nonneg (by omega)).symm
  have hqn : q = ((q.toNat : Nat) : Int) := (Int.toNat_of_nonneg (by omega)).symm
  have w1 : IntKind.wrap .u8 p = p := wrap_u8 (by omega) (by omega)
  have w2 : IntKind.wrap .u64 b = b := wrap_u64 (by omega) (by omega)
  have w3 : IntKind.wrap .u64 q = q := wrap_u64 (by omega) (by omega)
  have hgb : 2 ≤ hb.n0 := by rw [ob.n0]; exact hG
  have lnb := hb.lt_of_get gb
  have n0b := hb.n0_le_next
  obtain ⟨x1, h1, e1, ow1, o1⟩ := r44 hb hgb (n := b.toNat) (k := 2) (by decide) (by decide) (by omega)
  obtain ⟨a1, c1, hx1, s1, _⟩ := ow1.bytes
  rw [beB_length] at hx1 s1
  have g1 : h1.get h.next = some (setC p b q) := o1.getE gb (fun h => h)
  have hp8 : p.toNat < 256 := by omega
  have o2 : Old h1 (h1.alloc [u8 p.toNat]) := Kept.alloc _ _ _
  obtain ⟨u3, h3, e3, ow3, o3, b3, l3⟩ := append_lit (c := c1) (bytes1 h1 hp8) (o2.bytes s1) (by decide) (by decide)
  have n2 : (h1.alloc [u8 p.toNat]).next = h1.next + 1 := Heap.next_alloc ..
  have o13 : Old h1 h3 := o2.trans o3
  have g3 : h3.get h.next = some (setC p b q) := o13.getE g1 (fun h => h)
  have o03 : Old h h3 := (ob.trans o1).trans o13
  have R3 : RB h h3 (h1.alloc [u8 p.toNat]).next u3 ([p.toNat] ++ beB 2 b.toNat) := by
    refine ⟨ow3, fun d hd => ?_, ?_, o3.next, o03, ?_, by rw [o03.n0]; exact hG⟩
    · rw [b3] at hd; cases hd; exact l3
    · rw [o3.n0]; exact Heap.n0_le_next _
    · have := ob.next; have := o1.next; omega
  obtain ⟨x4, h4, u5, h5, e4, o4, e5, R5, S5⟩ := rb_num R3 (n := q.toNat) (k := 4) (by decide) (by decide) (by omega) (by simp [beB_length])
  have e1 : CW 44 [.int .u64 b, .int .i64 2] hb = some (x1, h1) := by rw [hbn]; exact e1
  have e4 : CW 44 [.int .u64 q, .int .i64 4] h3 = some (x4, h4) := by rw [hqn]; exact e4
  have hu8 : Value.int .u8 p = u8 p.toNat := by show _ = Value.int .u8 _; rw [← hpn]
  have lp : ∀ {hh : Heap} (o : Nat) (x : Value), hh.get h.next = some (setC p b q) → (setC p b q)[o]? = some x → isHole x = false → ld1 (ptr h.next o) hh = some (x, hh) := fun o x hg hx hh => ld1_at hg hx hh
  have hlen : lenL v = some (.int .i64 es.length) := by obtain ⟨a, c, hv, _⟩ := hS; rw [hv]; rfl
  simp -implicitDefEqProofs only [hv, Bool.not_true, addP_ptr, Nat.zero_add, pu_some, thenV_some, lp 0 _ gb rfl rfl, cvI_int, w1, lp 1 _ gb rfl rfl, w2, e1, hu8, bsl1, hx1, e3, lp 0 _ g1 rfl rfl, chkI, Bool.and_self, lp 2 _ g3 rfl rfl, w3, e4, e5]
  have ck8 : ∀ hh : Heap, chkR true (some (u8 p.toNat, hh)) (u8 p.toNat) = true := fun hh => chkI .u8 _ _
  let l0 := [p.toNat] ++ beB 2 b.toNat ++ beB 4 q.toNat
  have hl0 : l0.length = 7 := by simp [l0, beB_length]
  refine endL_fin (n := 106) (fin := fun ex y g => TF h (h1.alloc [u8 p.toNat]).next es l0 ex y g) (Q := fun o : Out => ∃ r : Value × Heap, o = some r ∧ ∃ u h', r = (.tuple #[u, .int .i64 (if okScript p b q es = true then 0 else 2)], h') ∧ Old h h' ∧ BytesV h' u (if okScript p b q es = true then scriptL p b q es else []))
    (loop_fin (t11l11_1111010_eq CW) (Inv := fun k y g => TL h (h1.alloc [u8 p.toNat]).next v es l0 k y g) (fun k y g I => refs_round hS hwf h80 I) es.length (by have : rounds = 18446744073709551616 := rfl; omega) ?_) ?_
  · refine ⟨Nat.le_refl _, rfl, by rw [Nat.sub_self]; rfl, ?_, ?_, ?_⟩
    · rw [Nat.sub_self, List.take_zero, List.flatMap_nil, List.append_nil]; exact R5
    · rw [Nat.sub_self, List.take_zero, List.flatMap_nil, List.append_nil]; omega
    · rw [Nat.sub_self]; rfl
  · intro ex y g hf
    obtain ⟨og, hf⟩ := hf
    rcases hf with ⟨rfl, hall, R⟩ | ⟨rfl, hall, y4, y5⟩
    · have hok : okScript p b q es = true := by unfold okScript; rw [hv, hall]; rfl
      have hsc : l0 ++ es.flatMap encE = scriptL p b q es := by
        unfold scriptL
        rw [beB1 hp8]
        simp [l0]
      rw [hsc] at R
      obtain ⟨a, c, e2, s2, gd, _⟩ := R.own.bytes
      rw [if_pos hok, if_pos hok]
      refine ⟨_, ?_, y 6, g, rfl, og, ⟨a, c, e2, s2, gd⟩⟩
      rw [endL_exit]
      unfold b11_9
      rw [if_pos rfl, t11k11_7_eq]
      unfold t11k11_7
      simp -implicitDefEqProofs only [thenV_some]
    · have hok : ¬ (okScript p b q es = true) := by unfold okScript; rw [hall]; simp
      rw [if_neg hok, if_neg hok]
      refine ⟨_, ?_, .slice none 0 0, g, rfl, og, ⟨none, 0, rfl, rfl, rfl⟩⟩
      rw [endL_ret, res_two results11 (by decide) (by decide), y4, y5]
end
end Go.Proofs.YtdmnphocgfnlpaaGreatDoor

