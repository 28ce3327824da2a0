/-
  The swarm: the document's Script.
  Conditions: as each theorem states.
  The swarm: SwarmScripts.
  Conditions: as each theorem states.
-/
import Derived.Test.YtdmnphocgfnlpaaGreatDoorG17
namespace Go.Proofs.YtdmnphocgfnlpaaGreatDoor
open Go Go.Abs
noncomputable section
theorem is11 : IsFn Tryz.prog 11 Tryz.f11 := ⟨by kernel_rfl, by kernel_rfl, by kernel_rfl, by kernel_rfl⟩
theorem results11 : Tryz.f11.results.toList = [.tmp 4, .tmp 5] := by kernel_rfl
/-- append, behind bytes that are no one's own. -/
theorem append_lit {h : Heap} {b off n k c : Nat} {a : Option Addr} {l m : List Nat} (hl : sliceBytes (some ⟨b, off, none⟩) n h = some l) (hm : sliceBytes a k h = some m) (hk : 0 < k) (hb : n + k ≤ 100000000) :
    ∃ v' h', appendA 1 1 (.slice (some ⟨b, off, none⟩) n n) (.slice a k c) h = some (v', h') ∧ OwnB h' h.next v' (l ++ m) ∧ Old h h' ∧ baseOf v' = some h.next ∧ h.next < h'.next := by
  obtain ⟨l1, lb, _⟩ := sliceBytes_spec hl
  obtain ⟨m1, mb, _⟩ := sliceBytes_spec hm
  have f1 := firstA_of hl (Nat.le_refl n) (c := n)
  rw [List.take_of_length_le (by omega)] at f1
  have f2 := firstA_of hm (Nat.le_refl k) (c := c)
  rw [List.take_of_length_le (by omega)] at f2
  refine ⟨.slice (some ⟨h.next, 0, some 1⟩) (n + k) (n + k), h.alloc (l.map u8 ++ m.map u8), ?_, ⟨⟨?_, ?_, ?_, .inr ⟨h.next, some 1, ?_, Nat.le_refl _, .inr ⟨rfl, ?_⟩⟩⟩, ?_⟩, Kept.alloc _ _ _, rfl, by simp⟩
  · unfold appendA
    simp only [show lenA (.slice a k c) = some k from rfl, f1, f2]
    have c1 : ((!(oneCells (m.map u8)) || !(decide ((n + k) * 1 ≤ 140737488355328)) || !(decide (n + k ≤ 4611686018427387904)) || decide ((m.map u8).length ≠ k * 1)) = true) ↔ False := by
      rw [one_u8, decide_eq_true (by omega), decide_eq_true (by omega), decide_eq_false (by simp; omega)]
      simp
    rw [if_neg (by rw [c1]; exact id), if_neg (by omega), if_neg (by simp; omega)]
  · simp
  · rw [List.map_append]; exact noHoles_append _ _ (noHoles_u8 _) (noHoles_u8 _)
  · rw [List.map_append]; exact oneCells_append _ _ (one_u8 _) (one_u8 _)
  · rw [List.length_append, l1, m1]
  · rw [Heap.get_alloc, if_pos rfl, List.map_append]
  · intro x hx
    rcases List.mem_append.1 hx with hx | hx
    · exact lb x hx
    · exact mb x hx
set_option maxRecDepth 100000 in
theorem r11 {h : Heap} (hG : 2 ≤ h.n0) (p b q : Int) {v : Value} {es : List Ev} (hS : EvS h v es) (hwf : ∀ e ∈ es, e.Wf) (h80 : es.length ≤ 80) :
    ∃ r : Value × Heap, CW 11 [.agg (setC p b q).toArray, v] h = some r ∧ ∃ u h', r = (.tuple #[u, .int .i64 (if okScript p b q es = true then 0 else 2)], h') ∧ Old h h' ∧ BytesV h' u (if okScript p b q es = true then scriptL p b q es else []) := by
  suffices hh : ∃ r : Value × Heap, t11 CW (.agg (setC p b q).toArray) v h = some r ∧ ∃ u h', r = (.tuple #[u, .int .i64 (if okScript p b q es = true then 0 else 2)], h') ∧ Old h h' ∧ BytesV h' u (if okScript p b q es = true then scriptL p b q es else []) by
    obtain ⟨r, h1, h2⟩ := hh
    exact ⟨r, CW_body is11 hG rfl ((t11_eq _ _ _ _).trans h1), h2⟩
  let ha := h.alloc (setC p b q)
  have oa : Old h ha := Kept.alloc _ _ _
  have g : ha.get h.next = some (setC p b q) := by rw [Heap.get_alloc, if_pos rfl]
  obtain ⟨hb, e13, oab⟩ := r13 (h := ha) hG p b q
  have ob : Old h hb := oa.trans oab
  have gb : hb.get h.next = some (setC p b q) := oab.getE g (fun h => h)
  unfold t11
  simp -implicitDefEqProofs only [box_set, show h.alloc (setC p b q) = ha from rfl, thenV_some, ldSet g, e13, unA_not, pu_some]
  by_cases hv : validS p b q = true
  rotate_left
  · have hv' : validS p b q = false := by simpa using hv
    have hok : ¬ (okScript p b q es = true) := by unfold okScript; rw [hv']; simp
    simp -implicitDefEqProofs only [hv', Bool.not_false]
    exact ⟨_, rfl, .slice none 0 0, hb, by rw [if_neg hok], ob, by rw [if_neg hok]; exact ⟨none, 0, rfl, rfl, rfl⟩⟩
  obtain ⟨⟨v1, v2⟩, ⟨v3, v4⟩, v5, v6⟩ := valid_range hv
  have hpn : p = ((p.toNat : Nat) : Int) := (Int.toNat_of_nonneg (by omega)).symm
  have hbn : b = ((b.toNat : Nat) : Int) := (Int.toNat_of_nonneg (by omega)).symm
  have hqn : q = ((q.toNat : Nat) : Int) := (Int.toNat_of_nonneg (by omega)).symm
  have w1 : IntKind.wrap .u8 p = p := wrap_u8 (by omega) (by omega)
  have w2 : IntKind.wrap .u64 b = b := wrap_u64 (by omega) (by omega)
  have w3 : IntKind.wrap .u64 q = q := wrap_u64 (by omega) (by omega)
  have hgb : 2 ≤ hb.n0 := by rw [ob.n0]; exact hG
  have lnb := hb.lt_of_get gb
  have n0b := hb.n0_le_next
  obtain ⟨x1, h1, e1, ow1, o1⟩ := r44 hb hgb (n := b.toNat) (k := 2) (by decide) (by decide) (by omega)
  obtain ⟨a1, c1, hx1, s1, _⟩ := ow1.bytes
  rw [beB_length] at hx1 s1
  have g1 : h1.get h.next = some (setC p b q) := o1.getE gb (fun h => h)
  have hp8 : p.toNat < 256 := by omega
  have o2 : Old h1 (h1.alloc [u8 p.toNat]) := Kept.alloc _ _ _
  obtain ⟨u3, h3, e3, ow3, o3, b3, l3⟩ := append_lit (c := c1) (bytes1 h1 hp8) (o2.bytes s1) (by decide) (by decide)
  have n2 : (h1.alloc [u8 p.toNat]).next = h1.next + 1 := Heap.next_alloc ..
  have o13 : Old h1 h3 := o2.trans o3
  have g3 : h3.get h.next = some (setC p b q) := o13.getE g1 (fun h => h)
  have o03 : Old h h3 := (ob.trans o1).trans o13
  have R3 : RB h h3 (h1.alloc [u8 p.toNat]).next u3 ([p.toNat] ++ beB 2 b.toNat) := by
    refine ⟨ow3, fun d hd => ?_, ?_, o3.next, o03, ?_, by rw [o03.n0]; exact hG⟩
    · rw [b3] at hd; cases hd; exact l3
    · rw [o3.n0]; exact Heap.n0_le_next _
    · have := ob.next; have := o1.next; omega
  obtain ⟨x4, h4, u5, h5, e4, o4, e5, R5, S5⟩ := rb_num R3 (n := q.toNat) (k := 4) (by decide) (by decide) (by omega) (by simp [beB_length])
  have e1 : CW 44 [.int .u64 b, .int .i64 2] hb = some (x1, h1) := by rw [hbn]; exact e1
  have e4 : CW 44 [.int .u64 q, .int .i64 4] h3 = some (x4, h4) := by rw [hqn]; exact e4
  have hu8 : Value.int .u8 p = u8 p.toNat := by show _ = Value.int .u8 _; rw [← hpn]
  have lp : ∀ {hh : Heap} (o : Nat) (x : Value), hh.get h.next = some (setC p b q) → (setC p b q)[o]? = some x → isHole x = false → ld1 (ptr h.next o) hh = some (x, hh) := fun o x hg hx hh => ld1_at hg hx hh
  have hlen : lenL v = some (.int .i64 es.length) := by obtain ⟨a, c, hv, _⟩ := hS; rw [hv]; rfl
  simp -implicitDefEqProofs only [hv, Bool.not_true, addP_ptr, Nat.zero_add, pu_some, thenV_some, lp 0 _ gb rfl rfl, cvI_int, w1, lp 1 _ gb rfl rfl, w2, e1, hu8, bsl1, hx1, e3, lp 0 _ g1 rfl rfl, chkI, Bool.and_self, lp 2 _ g3 rfl rfl, w3, e4, e5]
  have ck8 : ∀ hh : Heap, chkR true (some (u8 p.toNat, hh)) (u8 p.toNat) = true := fun hh => chkI .u8 _ _
  let l0 := [p.toNat] ++ beB 2 b.toNat ++ beB 4 q.toNat
  have hl0 : l0.length = 7 := by simp [l0, beB_length]
  refine endL_fin (n := 106) (fin := fun ex y g => TF h (h1.alloc [u8 p.toNat]).next es l0 ex y g) (Q := fun o : Out => ∃ r : Value × Heap, o = some r ∧ ∃ u h', r = (.tuple #[u, .int .i64 (if okScript p b q es = true then 0 else 2)], h') ∧ Old h h' ∧ BytesV h' u (if okScript p b q es = true then scriptL p b q es else []))
    (loop_fin (t11l11_1111010_eq CW) (Inv := fun k y g => TL h (h1.alloc [u8 p.toNat]).next v es l0 k y g) (fun k y g I => refs_round hS hwf h80 I) es.length (by have : rounds = 18446744073709551616 := rfl; omega) ?_) ?_
  · refine ⟨Nat.le_refl _, rfl, by rw [Nat.sub_self]; rfl, ?_, ?_, ?_⟩
    · rw [Nat.sub_self, List.take_zero, List.flatMap_nil, List.append_nil]; exact R5
    · rw [Nat.sub_self, List.take_zero, List.flatMap_nil, List.append_nil]; omega
    · rw [Nat.sub_self]; rfl
  · intro ex y g hf
    obtain ⟨og, hf⟩ := hf
    rcases hf with ⟨rfl, hall, R⟩ | ⟨rfl, hall, y4, y5⟩
    · have hok : okScript p b q es = true := by unfold okScript; rw [hv, hall]; rfl
      have hsc : l0 ++ es.flatMap encE = scriptL p b q es := by
        unfold scriptL
        rw [beB1 hp8]
        simp [l0]
      rw [hsc] at R
      obtain ⟨a, c, e2, s2, gd, _⟩ := R.own.bytes
      rw [if_pos hok, if_pos hok]
      refine ⟨_, ?_, y 6, g, rfl, og, ⟨a, c, e2, s2, gd⟩⟩
      rw [endL_exit]
      unfold b11_9
      rw [if_pos rfl, t11k11_7_eq]
      unfold t11k11_7
      simp -implicitDefEqProofs only [thenV_some]
    · have hok : ¬ (okScript p b q es = true) := by unfold okScript; rw [hall]; simp
      rw [if_neg hok, if_neg hok]
      refine ⟨_, ?_, .slice none 0 0, g, rfl, og, ⟨none, 0, rfl, rfl, rfl⟩⟩
      rw [endL_ret, res_two results11 (by decide) (by decide), y4, y5]
end
end Go.Proofs.YtdmnphocgfnlpaaGreatDoor

namespace Go.Proofs.YtdmnphocgfnlpaaGreatDoor
open Go Go.Abs
noncomputable section
theorem is3 : IsFn Tryz.prog 3 Tryz.f3 := ⟨by kernel_rfl, by kernel_rfl, by kernel_rfl, by kernel_rfl⟩
theorem results3 : Tryz.f3.results.toList = [.tmp 4] := by kernel_rfl
theorem eql_str (a : ByteArray) : bin Tryz.prog .eql 9 (.string a) (.string a) = some (.bool true) := by
  unfold bin eqOk
  simp only [if_true]
  unfold binA
  simp only [ground, flat, Bool.and_self, if_true]
  have e : (binOp .eql 9 (.string a) (.string a)) = pure (.bool (a.toList == a.toList)) := rfl
  rw [e, beq_self_eq_true]
  rfl
theorem eql_bool (a : Bool) : bin Tryz.prog .eql 4 (.bool a) (.bool a) = some (.bool true) := by cases a <;> kernel_rfl
theorem chk_set (p b q : Int) (g : Heap) : chkR true (some (.agg (setC p b q).toArray, g)) (.agg (setC p b q).toArray) = true := by
  simp [chkR, same, veq, veqL, setC]
/-- What stands before a round of the law's loop over sizes. -/
structure ZL (ha : Heap) (b : Nat) (v : Value) (es : List Ev) (k : Nat) (y : Nat → Value) (g : Heap) : Prop where
  hk : k ≤ es.length
  y1 : y 1 = v
  y2 : y 2 = ptr b 0
  y5 : y 5 = .int .i64 ((es.length - k : Nat) : Int)
  all : ∀ e ∈ es.take (es.length - k), e.data.length ≤ 70000
  g : g = ha
theorem size_round {h0 ha : Heap} {b : Nat} {v : Value} {es : List Ev} (hS : EvS h0 v es) (o : Old h0 ha) (hz : ha.get 1 = some roundsL) (hlen : es.length ≤ 100000) {k : Nat} {y : Nat → Value} {g : Heap} (I : ZL ha b v es k y g) :
    Rnd 61 (ZL ha b v es) (fun ex y g => g = ha ∧ ((ex = .exit 0 ∧ y 1 = v ∧ y 2 = ptr b 0 ∧ ∀ e ∈ es, e.data.length ≤ 70000) ∨ (ex = .ret ∧ y 4 = .bool true))) k (t3l3_11010 CW y g) := by
  obtain ⟨hk, y1, y2, y5, hall, rfl⟩ := I
  obtain ⟨av, cv, hv, hx⟩ := hS
  have hlenv : lenL v = some (.int .i64 es.length) := by rw [hv]; rfl
  unfold t3l3_11010
  simp -implicitDefEqProofs only [y1, y5, thenV_some, hlenv, pu_some, bin_lss]
  by_cases hz' : k = 0
  · have hd : ¬ (((es.length - k : Nat) : Int) < (es.length : Int)) := by omega
    simp -implicitDefEqProofs only [decide_eq_false hd]
    rw [hz', Nat.sub_zero, List.take_of_length_le (Nat.le_refl _)] at hall
    refine Rnd.out 0 ⟨rfl, .inl ⟨rfl, ?_, ?_, hall⟩⟩ <;> simp only [up_cons, up_nil, Nat.reduceEqDiff, if_false]
    · exact y1
    · exact y2
  have hd : (((es.length - k : Nat) : Int) < (es.length : Int)) := by omega
  have hi : es.length - k < es.length := by omega
  have hE0 := List.getElem?_eq_getElem hi
  generalize hE : es[es.length - k] = e at *
  obtain ⟨p, cs, i1, ⟨a, c, hc, _, _, _⟩, _, bb, off, hp, hld⟩ := hx _ _ hE0
  have l5 : ld1 (ptr bb (off + 5)) g = some (.slice a e.data.length c, g) := hld g 5 _ o (by rw [hc]; rfl)
  subst hp
  have w9 : IntKind.wrap .i64 (((es.length - k : Nat) : Int) + 1) = ((es.length - (k - 1) : Nat) : Int) := by rw [wrap_i64 (by omega) (by omega)]; omega
  simp -implicitDefEqProofs only [decide_eq_true hd, i1, pu_some, thenV_some, addP_ptr, l5, lenL_slice, bin_gtr]
  by_cases hgt : (e.data.length : Int) > 70000
  · simp -implicitDefEqProofs only [decide_eq_true hgt, r8 hz, thenV_some]
    refine Rnd.ret ⟨rfl, .inr ⟨rfl, ?_⟩⟩
    simp only [up_cons, up_nil, Nat.reduceEqDiff, if_false, if_true]
  · simp -implicitDefEqProofs only [decide_eq_false hgt, bin_add, w9, pu_some, thenV_some]
    have htake : es.take (es.length - (k - 1)) = es.take (es.length - k) ++ [e] := by
      rw [show es.length - (k - 1) = es.length - k + 1 by omega]
      exact take_snoc hE0
    refine Rnd.next (k - 1) (by omega) ⟨by omega, ?_, ?_, ?_, ?_, rfl⟩
    · simp only [up_cons, up_nil, Nat.reduceEqDiff, if_false, y1]
    · simp only [up_cons, up_nil, Nat.reduceEqDiff, if_false, y2]
    · simp only [up_cons, up_nil, Nat.reduceEqDiff, if_false, if_true]
    · intro e' he'
      rw [htake] at he'
      rcases List.mem_append.1 he' with h1 | h1
      · exact hall e' h1
      · rw [List.mem_singleton.1 h1]; omega
set_option maxRecDepth 100000 in
theorem r3 {h : Heap} (hG : 2 ≤ h.n0) (hz : h.get 1 = some roundsL) (p b q : Int) {v : Value} {es : List Ev} (hS : EvS h v es) (hwf : ∀ e ∈ es, e.Wf) :
    ∃ h', CW 3 [.agg (setC p b q).toArray, v] h = some (.bool true, h') := by
  suffices hh : ∃ r : Value × Heap, t3 CW (.agg (setC p b q).toArray) v h = some r ∧ r.1 = .bool true by
    obtain ⟨⟨r, h'⟩, h1, h2⟩ := hh
    have h2 : r = .bool true := h2
    subst h2
    exact ⟨h', CW_body is3 hG rfl ((t3_eq _ _ _ _).trans h1)⟩
  let ha := h.alloc (setC p b q)
  have oa : Old h ha := Kept.alloc _ _ _
  have ga : ha.get h.next = some (setC p b q) := by rw [Heap.get_alloc, if_pos rfl]
  have hza : ha.get 1 = some roundsL := oa.getE hz (fun h => h)
  have hlenv : lenL v = some (.int .i64 es.length) := by obtain ⟨a, c, hv, _⟩ := hS; rw [hv]; rfl
  unfold t3
  simp -implicitDefEqProofs only [box_set, show h.alloc (setC p b q) = ha from rfl, thenV_some, hlenv, pu_some, bin_gtr]
  by_cases h80 : (es.length : Int) > 80
  · simp -implicitDefEqProofs only [decide_eq_true h80, r8 hza, thenV_some]
    exact ⟨_, rfl, rfl⟩
  simp -implicitDefEqProofs only [decide_eq_false h80, thenV_some]
  refine endL_fin (n := 61) (fin := fun ex y g => g = ha ∧ ((ex = .exit 0 ∧ y 1 = v ∧ y 2 = ptr h.next 0 ∧ ∀ e ∈ es, e.data.length ≤ 70000) ∨ (ex = .ret ∧ y 4 = .bool true))) (Q := fun o : Out => ∃ r : Value × Heap, o = some r ∧ r.1 = .bool true)
    (loop_fin (t3l3_11010_eq CW) (Inv := fun k y g => ZL ha h.next v es k y g) (fun k y g I => size_round hS oa hza (by omega) I) es.length (by have : rounds = 18446744073709551616 := rfl; omega) ?_) ?_
  · exact ⟨Nat.le_refl _, rfl, rfl, by rw [Nat.sub_self]; rfl, (by rw [Nat.sub_self]; intro e he; cases he), rfl⟩
  · rintro ex y g ⟨rfl, ⟨rfl, y1, y2, hdl⟩ | ⟨rfl, y4⟩⟩
    rotate_left
    · refine ⟨(.bool true, ha), ?_, rfl⟩
      rw [endL_ret, res_one results3 (by decide), y4]
    rw [endL_exit]
    unfold b3_6
    rw [if_pos rfl, t3k3_4_eq]
    have hGa : 2 ≤ ha.n0 := hG
    obtain ⟨w, h1, e10, o1, V1⟩ := r10 (h := ha) hGa (hS.old oa) (by omega) (fun e he => Nat.le_trans (hdl e he) (by decide))
    have o1' : Old h h1 := oa.trans o1
    obtain ⟨_, e9, u1, h2, rfl, o2, B1, _⟩ := r9 (h := h1) (by rw [o1'.n0]; exact hG) p b q V1.toS hwf (by omega)
    have o2' : Old h h2 := o1'.trans o2
    obtain ⟨_, e11, u2, h3, rfl, o3, B2⟩ := r11 (h := h2) (by rw [o2'.n0]; exact hG) p b q (hS.old o2') hwf (by omega)
    have o3' : Old h h3 := o2'.trans o3
    obtain ⟨h4, e12, o4⟩ := r12 (h := h3) (by rw [o3'.n0]; exact hG) p b q
    have o4' : Old h h4 := o3'.trans o4
    obtain ⟨h5, e13, o5⟩ := r13 (h := h4) (by rw [o4'.n0]; exact hG) p b q
    have o5' : Old h h5 := o4'.trans o5
    generalize (if okScript p b q es = true then scriptL p b q es else []) = L at *
    generalize (if okScript p b q es = true then (0 : Int) else 2) = E at *
    obtain ⟨a1, c1, rfl, s1, _⟩ := (B1.old ((o3.trans o4).trans o5))
    obtain ⟨a2, c2, rfl, s2, _⟩ := (B2.old (o4.trans o5))
    have ld : ∀ g, Old ha g → ldN 3 (ptr h.next 0) g = some (.agg (setC p b q).toArray, g) := fun g o => ldSet (o.getE ga (fun h => h))
    have z1 : extractA (.tuple #[.slice a1 L.length c1, .int .i64 E]) 0 = some (.slice a1 L.length c1) := rfl
    have z2 : extractA (.tuple #[.slice a1 L.length c1, .int .i64 E]) 1 = some (.int .i64 E) := rfl
    have z3 : extractA (.tuple #[.slice a2 L.length c2, .int .i64 E]) 0 = some (.slice a2 L.length c2) := rfl
    have z4 : extractA (.tuple #[.slice a2 L.length c2, .int .i64 E]) 1 = some (.int .i64 E) := rfl
    unfold t3k3_4
    simp -implicitDefEqProofs only [y2, y1, ld ha (Kept.refl _ _), thenV_some, e10, e9, z1, z2, pu_some, ld h1 o1, chk_set, Bool.and_self, ld h2 (o1.trans o2), e11, z3, z4, ld h3 ((o1.trans o2).trans o3), e12, ld h4 (((o1.trans o2).trans o3).trans o4), e13,
      eql_bool, bOf_bool, beq_self_eq_true, guardK_true, eql_selfI, if_true, cvBS_at s1, cvBS_at s2, eql_str, r8 (o5'.getE hz (fun h => h))]
    exact ⟨(.bool true, h5), rfl, rfl⟩
end
end Go.Proofs.YtdmnphocgfnlpaaGreatDoor

