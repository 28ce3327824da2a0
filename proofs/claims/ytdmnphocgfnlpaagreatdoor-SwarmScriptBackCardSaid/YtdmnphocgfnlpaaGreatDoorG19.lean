/-
  The swarm: SwarmScripts.
  Conditions: as each theorem states.
  The swarm: the bytes of a script are parsed to it.
  Conditions: as each theorem states.
  The swarm: SwarmScriptBack.
  Conditions: as each theorem states.
-/
import Derived.Test.YtdmnphocgfnlpaaGreatDoorG18
namespace Go.Proofs.YtdmnphocgfnlpaaGreatDoor
open Go Go.Abs
noncomputable section
theorem is3 : IsFn Tryz.prog 3 Tryz.f3 := ⟨by kernel_rfl, by kernel_rfl, by kernel_rfl, by kernel_rfl⟩
theorem results3 : Tryz.f3.results.toList = [.tmp 4] := by kernel_rfl
theorem eql_str (a : ByteArray) : bin Tryz.prog .eql 9 (.string a) (.string a) = some (.bool true) := by
  unfold bin eqOk
  simp only [if_true]
  unfold binA
  simp only [ground, flat, Bool.and_self, if_true]
  have e : (binOp .eql 9 (.string a) (.string a)) = pure (.bool (a.toList == a.toList)) := rfl
  rw [e, beq_self_eq_true]
  rfl
theorem eql_bool (a : Bool) : bin Tryz.prog .eql 4 (.bool a) (.bool a) = some (.bool true) := by cases a <;> kernel_rfl
theorem chk_set (p b q : Int) (g : Heap) : chkR true (some (.agg (setC p b q).toArray, g)) (.agg (setC p b q).toArray) = true := by
  simp [chkR, same, veq, veqL, setC]
/-- What stands before a round of the law's loop over sizes. -/
structure ZL (ha : Heap) (b : Nat) (v : Value) (es : List Ev) (k : Nat) (y : Nat → Value) (g : Heap) : Prop where
  hk : k ≤ es.length
  y1 : y 1 = v
  y2 : y 2 = ptr b 0
  y5 : y 5 = .int .i64 ((es.length - k : Nat) : Int)
  all : ∀ e ∈ es.take (es.length - k), e.data.length ≤ 70000
  g : g = ha
theorem size_round {h0 ha : Heap} {b : Nat} {v : Value} {es : List Ev} (hS : EvS h0 v es) (o : Old h0 ha) (hz : ha.get 1 = some roundsL) (hlen : es.length ≤ 100000) {k : Nat} {y : Nat → Value} {g : Heap} (I : ZL ha b v es k y g) :
    Rnd 61 (ZL ha b v es) (fun ex y g => g = ha ∧ ((ex = .exit 0 ∧ y 1 = v ∧ y 2 = ptr b 0 ∧ ∀ e ∈ es, e.data.length ≤ 70000) ∨ (ex = .ret ∧ y 4 = .bool true))) k (t3l3_11010 CW y g) := by
  obtain ⟨hk, y1, y2, y5, hall, rfl⟩ := I
  obtain ⟨av, cv, hv, hx⟩ := hS
  have hlenv : lenL v = some (.int .i64 es.length) := by rw [hv]; rfl
  unfold t3l3_11010
  simp -implicitDefEqProofs only [y1, y5, thenV_some, hlenv, pu_some, bin_lss]
  by_cases hz' : k = 0
  · have hd : ¬ (((es.length - k : Nat) : Int) < (es.length : Int)) := by omega
    simp -implicitDefEqProofs only [decide_eq_false hd]
    rw [hz', Nat.sub_zero, List.take_of_length_le (Nat.le_refl _)] at hall
    refine Rnd.out 0 ⟨rfl, .inl ⟨rfl, ?_, ?_, hall⟩⟩ <;> simp only [up_cons, up_nil, Nat.reduceEqDiff, if_false]
    · exact y1
    · exact y2
  have hd : (((es.length - k : Nat) : Int) < (es.length : Int)) := by omega
  have hi : es.length - k < es.length := by omega
  have hE0 := List.getElem?_eq_getElem hi
  generalize hE : es[es.length - k] = e at *
  obtain ⟨p, cs, i1, ⟨a, c, hc, _, _, _⟩, _, bb, off, hp, hld⟩ := hx _ _ hE0
  have l5 : ld1 (ptr bb (off + 5)) g = some (.slice a e.data.length c, g) := hld g 5 _ o (by rw [hc]; rfl)
  subst hp
  have w9 : IntKind.wrap .i64 (((es.length - k : Nat) : Int) + 1) = ((es.length - (k - 1) : Nat) : Int) := by rw [wrap_i64 (by omega) (by omega)]; omega
  simp -implicitDefEqProofs only [decide_eq_true hd, i1, pu_some, thenV_some, addP_ptr, l5, lenL_slice, bin_gtr]
  by_cases hgt : (e.data.length : Int) > 70000
  · simp -implicitDefEqProofs only [decide_eq_true hgt, r8 hz, thenV_some]
    refine Rnd.ret ⟨rfl, .inr ⟨rfl, ?_⟩⟩
    simp only [up_cons, up_nil, Nat.reduceEqDiff, if_false, if_true]
  · simp -implicitDefEqProofs only [decide_eq_false hgt, bin_add, w9, pu_some, thenV_some]
    have htake : es.take (es.length - (k - 1)) = es.take (es.length - k) ++ [e] := by
      rw [show es.length - (k - 1) = es.length - k + 1 by omega]
      exact take_snoc hE0
    refine Rnd.next (k - 1) (by omega) ⟨by omega, ?_, ?_, ?_, ?_, rfl⟩
    · simp only [up_cons, up_nil, Nat.reduceEqDiff, if_false, y1]
    · simp only [up_cons, up_nil, Nat.reduceEqDiff, if_false, y2]
    · simp only [up_cons, up_nil, Nat.reduceEqDiff, if_false, if_true]
    · intro e' he'
      rw [htake] at he'
      rcases List.mem_append.1 he' with h1 | h1
      · exact hall e' h1
      · rw [List.mem_singleton.1 h1]; omega
set_option maxRecDepth 100000 in
theorem r3 {h : Heap} (hG : 2 ≤ h.n0) (hz : h.get 1 = some roundsL) (p b q : Int) {v : Value} {es : List Ev} (hS : EvS h v es) (hwf : ∀ e ∈ es, e.Wf) :
    ∃ h', CW 3 [.agg (setC p b q).toArray, v] h = some (.bool true, h') := by
  suffices hh : ∃ r : Value × Heap, t3 CW (.agg (setC p b q).toArray) v h = some r ∧ r.1 = .bool true by
    obtain ⟨⟨r, h'⟩, h1, h2⟩ := hh
    have h2 : r = .bool true := h2
    subst h2
    exact ⟨h', CW_body is3 hG rfl ((t3_eq _ _ _ _).trans h1)⟩
  let ha := h.alloc (setC p b q)
  have oa : Old h ha := Kept.alloc _ _ _
  have ga : ha.get h.next = some (setC p b q) := by rw [Heap.get_alloc, if_pos rfl]
  have hza : ha.get 1 = some roundsL := oa.getE hz (fun h => h)
  have hlenv : lenL v = some (.int .i64 es.length) := by obtain ⟨a, c, hv, _⟩ := hS; rw [hv]; rfl
  unfold t3
  simp -implicitDefEqProofs only [box_set, show h.alloc (setC p b q) = ha from rfl, thenV_some, hlenv, pu_some, bin_gtr]
  by_cases h80 : (es.length : Int) > 80
  · simp -implicitDefEqProofs only [decide_eq_true h80, r8 hza, thenV_some]
    exact ⟨_, rfl, rfl⟩
  simp -implicitDefEqProofs only [decide_eq_false h80, thenV_some]
  refine endL_fin (n := 61) (fin := fun ex y g => g = ha ∧ ((ex = .exit 0 ∧ y 1 = v ∧ y 2 = ptr h.next 0 ∧ ∀ e ∈ es, e.data.length ≤ 70000) ∨ (ex = .ret ∧ y 4 = .bool true))) (Q := fun o : Out => ∃ r : Value × Heap, o = some r ∧ r.1 = .bool true)
    (loop_fin (t3l3_11010_eq CW) (Inv := fun k y g => ZL ha h.next v es k y g) (fun k y g I => size_round hS oa hza (by omega) I) es.length (by have : rounds = 18446744073709551616 := rfl; omega) ?_) ?_
  · exact ⟨Nat.le_refl _, rfl, rfl, by rw [Nat.sub_self]; rfl, (by rw [Nat.sub_self]; intro e he; cases he), rfl⟩
  · rintro ex y g ⟨rfl, ⟨rfl, y1, y2, hdl⟩ | ⟨rfl, y4⟩⟩
    rotate_left
    · refine ⟨(.bool true, ha), ?_, rfl⟩
      rw [endL_ret, res_one results3 (by decide), y4]
    rw [endL_exit]
    unfold b3_6
    rw [if_pos rfl, t3k3_4_eq]
    have hGa : 2 ≤ ha.n0 := hG
    obtain ⟨w, h1, e10, o1, V1⟩ := r10 (h := ha) hGa (hS.old oa) (by omega) (fun e he => Nat.le_trans (hdl e he) (by decide))
    have o1' : Old h h1 := oa.trans o1
    obtain ⟨_, e9, u1, h2, rfl, o2, B1, _⟩ := r9 (h := h1) (by rw [o1'.n0]; exact hG) p b q V1.toS hwf (by omega)
    have o2' : Old h h2 := o1'.trans o2
    obtain ⟨_, e11, u2, h3, rfl, o3, B2⟩ := r11 (h := h2) (by rw [o2'.n0]; exact hG) p b q (hS.old o2') hwf (by omega)
    have o3' : Old h h3 := o2'.trans o3
    obtain ⟨h4, e12, o4⟩ := r12 (h := h3) (by rw [o3'.n0]; exact hG) p b q
    have o4' : Old h h4 := o3'.trans o4
    obtain ⟨h5, e13, o5⟩ := r13 (h := h4) (by rw [o4'.n0]; exact hG) p b q
    have o5' : Old h h5 := o4'.trans o5
    generalize (if okScript p b q es = true then scriptL p b q es else []) = L at *
    generalize (if okScript p b q es = true then (0 : Int) else 2) = E at *
    obtain ⟨a1, c1, rfl, s1, _⟩ := (B1.old ((o3.trans o4).trans o5))
    obtain ⟨a2, c2, rfl, s2, _⟩ := (B2.old (o4.trans o5))
    have ld : ∀ g, Old ha g → ldN 3 (ptr h.next 0) g = some (.agg (setC p b q).toArray, g) := fun g o => ldSet (o.getE ga (fun h => h))
    have z1 : extractA (.tuple #[.slice a1 L.length c1, .int .i64 E]) 0 = some (.slice a1 L.length c1) := rfl
    have z2 : extractA (.tuple #[.slice a1 L.length c1, .int .i64 E]) 1 = some (.int .i64 E) := rfl
    have z3 : extractA (.tuple #[.slice a2 L.length c2, .int .i64 E]) 0 = some (.slice a2 L.length c2) := rfl
    have z4 : extractA (.tuple #[.slice a2 L.length c2, .int .i64 E]) 1 = some (.int .i64 E) := rfl
    unfold t3k3_4
    simp -implicitDefEqProofs only [y2, y1, ld ha (Kept.refl _ _), thenV_some, e10, e9, z1, z2, pu_some, ld h1 o1, chk_set, Bool.and_self, ld h2 (o1.trans o2), e11, z3, z4, ld h3 ((o1.trans o2).trans o3), e12, ld h4 (((o1.trans o2).trans o3).trans o4), e13,
      eql_bool, bOf_bool, beq_self_eq_true, guardK_true, eql_selfI, if_true, cvBS_at s1, cvBS_at s2, eql_str, r8 (o5'.getE hz (fun h => h))]
    exact ⟨(.bool true, h5), rfl, rfl⟩
end
end Go.Proofs.YtdmnphocgfnlpaaGreatDoor

namespace Go.Proofs.YtdmnphocgfnlpaaGreatDoor
open Go Go.Abs
noncomputable section
theorem be_cons (x : Nat) (l : List Nat) : be (x :: l) = x * 256 ^ l.length + be l := by
  have key : ∀ (l : List Nat) (a : Nat), l.foldl (fun v x => v * 256 + x) a = a * 256 ^ l.length + be l := by
    intro l
    induction l with
    | nil => intro a; simp [be]
    | cons y l ih =>
      intro a
      have h1 := ih (a * 256 + y)
      have h2 := ih (0 * 256 + y)
      unfold be
      simp only [List.foldl_cons, List.length_cons] at h1 h2 ⊢
      rw [h1, h2, Nat.pow_succ, Nat.add_mul, Nat.zero_mul, Nat.zero_add, Nat.mul_assoc, Nat.mul_comm 256, Nat.add_assoc]
  have := key l x
  unfold be at this ⊢
  simp only [List.foldl_cons, Nat.zero_mul, Nat.zero_add]
  exact this
theorem be_beB : ∀ n v, be (beB n v) = v % 256 ^ n
  | 0, v => by simp [beB, be, Nat.mod_one]
  | n + 1, v => by
    rw [beB, be_cons, beB_length, be_beB n v, Nat.mod_pow_succ, Nat.mul_comm, Nat.add_comm]
theorem be_beB_lt {n v : Nat} (h : v < 256 ^ n) : be (beB n v) = v := by rw [be_beB, Nat.mod_eq_of_lt h]
/-- A part of bytes that are joined. -/
theorem part {A B C l : List Nat} {i n : Nat} (h : l = A ++ (B ++ C)) (hA : A.length = i) (hB : B.length = n) : (l.drop i).take n = B := by
  subst h hA hB
  rw [List.drop_left, List.take_left]
theorem writ_range {e : Ev} (h : writB e = true) : (0 ≤ e.peer ∧ e.peer ≤ 255) ∧ (0 ≤ e.a ∧ e.a ≤ 65535) ∧ (0 ≤ e.b ∧ e.b ≤ 65535) ∧ e.data.length ≤ 65535 := by
  unfold writB at h
  simp only [Bool.and_eq_true, decide_eq_true_eq] at h
  obtain ⟨⟨⟨⟨⟨⟨b1, b2⟩, b3⟩, b4⟩, b5⟩, b6⟩, b7⟩ := h
  omega
theorem parse_ev {e : Ev} (wf : e.Wf) (hw : writB e = true) (t : List Nat) : (q6 (encE e ++ t)).e = 0 ∧ evOf (encE e ++ t) = e ∧ (q6 (encE e ++ t)).l = t := by
  obtain ⟨⟨p1, p2⟩, ⟨a1, a2⟩, ⟨b1, b2⟩, d⟩ := writ_range hw
  obtain ⟨⟨k1, k2⟩, _, _, _, ⟨d1, d2⟩⟩ := wf
  generalize hl : encE e ++ t = l
  have hl' : l = beB 1 e.kind.toNat ++ (beB 1 e.peer.toNat ++ (beB 2 e.a.toNat ++ (beB 2 e.b.toNat ++ (beB 8 e.draw.toNat ++ (beB 2 e.data.length ++ (e.data ++ t)))))) := by
    rw [← hl]; unfold encE; simp only [List.append_assoc]
  have hlen : l.length = 16 + e.data.length + t.length := by rw [← hl, List.length_append, encE_len]
  have f0 : l.take 1 = beB 1 e.kind.toNat := by
    have := part (i := 0) (n := 1) (A := []) (l := l) (by rw [List.nil_append]; exact hl') rfl (beB_length _ _)
    rw [List.drop_zero] at this; exact this
  have f1 : (l.drop 1).take 1 = beB 1 e.peer.toNat := part (A := beB 1 e.kind.toNat) hl' (by simp [beB_length]) (beB_length _ _)
  have f2 : (l.drop 2).take 2 = beB 2 e.a.toNat := part (A := beB 1 e.kind.toNat ++ beB 1 e.peer.toNat) (by rw [hl']; simp only [List.append_assoc]; rfl) (by simp [beB_length]) (beB_length _ _)
  have f3 : (l.drop 4).take 2 = beB 2 e.b.toNat := part (A := beB 1 e.kind.toNat ++ (beB 1 e.peer.toNat ++ beB 2 e.a.toNat)) (by rw [hl']; simp only [List.append_assoc]; rfl) (by simp [beB_length]) (beB_length _ _)
  have f4 : (l.drop 6).take 8 = beB 8 e.draw.toNat := part (A := beB 1 e.kind.toNat ++ (beB 1 e.peer.toNat ++ (beB 2 e.a.toNat ++ beB 2 e.b.toNat))) (by rw [hl']; simp only [List.append_assoc]; rfl) (by simp [beB_length]) (beB_length _ _)
  have f5 : (l.drop 14).take 2 = beB 2 e.data.length := part (A := beB 1 e.kind.toNat ++ (beB 1 e.peer.toNat ++ (beB 2 e.a.toNat ++ (beB 2 e.b.toNat ++ beB 8 e.draw.toNat)))) (by rw [hl']; simp only [List.append_assoc]; rfl) (by simp [beB_length]) (beB_length _ _)
  have hA : (beB 1 e.kind.toNat ++ (beB 1 e.peer.toNat ++ (beB 2 e.a.toNat ++ (beB 2 e.b.toNat ++ (beB 8 e.draw.toNat ++ beB 2 e.data.length))))).length = 16 := by simp [beB_length]
  have f6 : (l.drop 16).take e.data.length = e.data := part (A := beB 1 e.kind.toNat ++ (beB 1 e.peer.toNat ++ (beB 2 e.a.toNat ++ (beB 2 e.b.toNat ++ (beB 8 e.draw.toNat ++ beB 2 e.data.length))))) (by rw [hl']; simp only [List.append_assoc]; rfl) hA rfl
  have f7 : l.drop (16 + e.data.length) = t := by
    rw [← hl, show 16 + e.data.length = (encE e).length by rw [encE_len], List.drop_left]
  have n5 : be ((l.drop 14).take 2) = e.data.length := by rw [f5, be_beB_lt (by omega)]
  rcases q6_ok l with ⟨z1, z2, z3, z4, z5⟩ | ⟨_, z2⟩
  · refine ⟨z1, ?_, ?_⟩
    · rw [z5, n5, f0, f1, f2, f3, f4, f6, be_beB_lt (by omega), be_beB_lt (by omega), be_beB_lt (by omega), be_beB_lt (by omega), be_beB_lt (by omega)]
      rw [Int.toNat_of_nonneg k1, Int.toNat_of_nonneg p1, Int.toNat_of_nonneg a1, Int.toNat_of_nonneg b1, Int.toNat_of_nonneg d1]
    · rw [z4, n5, f7]
  · refine absurd ⟨by omega, ?_⟩ z2
    rw [n5]; omega
theorem parseE_enc {rest : List Nat} (hr : rest.length < 16) : ∀ (es : List Ev) (f : Nat), es.length < f → (∀ e ∈ es, e.Wf) → es.all writB = true → parseE f (es.flatMap encE ++ rest) = es
  | [], 0, h, _, _ => absurd h (Nat.lt_irrefl 0)
  | [], f + 1, _, _, _ => by
    unfold parseE
    rw [List.flatMap_nil, List.nil_append]
    rcases q6_ok rest with ⟨_, z2, _⟩ | ⟨z1, _⟩
    · omega
    · rw [if_neg (by omega)]
  | e :: es, 0, h, _, _ => absurd h (Nat.not_lt_zero _)
  | e :: es, f + 1, h, hwf, hall => by
    rw [List.all_cons, Bool.and_eq_true] at hall
    obtain ⟨h1, h2, h3⟩ := parse_ev (hwf e (by simp)) hall.1 (es.flatMap encE ++ rest)
    unfold parseE
    rw [List.flatMap_cons, List.append_assoc, if_pos h1, h2, h3, parseE_enc hr es f (by simp at h; omega) (fun e he => hwf e (by simp [he])) hall.2]
theorem enc_total : ∀ es : List Ev, es.length ≤ (es.flatMap encE).length
  | [] => Nat.le_refl _
  | e :: es => by
    have := enc_total es
    rw [List.flatMap_cons, List.length_append, encE_len, List.length_cons]
    omega
theorem parse_script {p b q : Int} {es : List Ev} (hok : okScript p b q es = true) (hwf : ∀ e ∈ es, e.Wf) {rest : List Nat} (hr : rest.length < 16) :
    parseP (scriptL p b q es ++ rest) = ⟨p, b, q, es, 0⟩ := by
  unfold okScript at hok
  rw [Bool.and_eq_true] at hok
  obtain ⟨hv, hall⟩ := hok
  obtain ⟨⟨v1, v2⟩, ⟨v3, v4⟩, v5, v6⟩ := valid_range hv
  generalize hl : scriptL p b q es ++ rest = l
  have hl' : l = beB 1 p.toNat ++ (beB 2 b.toNat ++ (beB 4 q.toNat ++ (es.flatMap encE ++ rest))) := by rw [← hl]; unfold scriptL; simp only [List.append_assoc]
  have f0 : l.take 1 = beB 1 p.toNat := by
    have := part (i := 0) (n := 1) (A := []) (l := l) (by rw [List.nil_append]; exact hl') rfl (beB_length _ _)
    rw [List.drop_zero] at this; exact this
  have f1 : (l.drop 1).take 2 = beB 2 b.toNat := part (A := beB 1 p.toNat) hl' (by simp [beB_length]) (beB_length _ _)
  have f2 : (l.drop 3).take 4 = beB 4 q.toNat := part (A := beB 1 p.toNat ++ beB 2 b.toNat) (by rw [hl']; simp only [List.append_assoc]; rfl) (by simp [beB_length]) (beB_length _ _)
  have f3 : l.drop 7 = es.flatMap encE ++ rest := by
    have : l = (beB 1 p.toNat ++ (beB 2 b.toNat ++ beB 4 q.toNat)) ++ (es.flatMap encE ++ rest) := by rw [hl']; simp only [List.append_assoc]
    rw [this, show 7 = (beB 1 p.toNat ++ (beB 2 b.toNat ++ beB 4 q.toNat)).length by simp [beB_length], List.drop_left]
  have hlen : l.length = 7 + (es.flatMap encE).length + rest.length := by rw [hl']; simp only [List.length_append, beB_length]; omega
  have n0 : ((be (l.take 1) : Nat) : Int) = p := by rw [f0, be_beB_lt (by omega), Int.toNat_of_nonneg (by omega)]
  have n1 : ((be ((l.drop 1).take 2) : Nat) : Int) = b := by rw [f1, be_beB_lt (by omega), Int.toNat_of_nonneg (by omega)]
  have n2 : ((be ((l.drop 3).take 4) : Nat) : Int) = q := by rw [f2, be_beB_lt (by omega), Int.toNat_of_nonneg (by omega)]
  have ht := enc_total es
  unfold parseP
  rw [if_neg (by omega), n0, n1, n2, if_pos hv, f3, parseE_enc hr es _ (by omega) hwf hall]
end
end Go.Proofs.YtdmnphocgfnlpaaGreatDoor

namespace Go.Proofs.YtdmnphocgfnlpaaGreatDoor
open Go Go.Abs
noncomputable section
theorem is5 : IsFn Tryz.prog 5 Tryz.f5 := ⟨by kernel_rfl, by kernel_rfl, by kernel_rfl, by kernel_rfl⟩
theorem results5 : Tryz.f5.results.toList = [.tmp 6] := by kernel_rfl
/-- What stands before a round of the law's loop over sizes. -/
structure YL (ha : Heap) (b : Nat) (v w : Value) (es : List Ev) (k : Nat) (y : Nat → Value) (g : Heap) : Prop where
  hk : k ≤ es.length
  y1 : y 1 = v
  y2 : y 2 = w
  y3 : y 3 = ptr b 0
  y7 : y 7 = .int .i64 ((es.length - k : Nat) : Int)
  all : ∀ e ∈ es.take (es.length - k), e.data.length ≤ 70000
  g : g = ha
theorem size_round5 {h0 ha : Heap} {b : Nat} {v w : Value} {es : List Ev} (hS : EvS h0 v es) (o : Old h0 ha) (hz : ha.get 1 = some roundsL) (hlen : es.length ≤ 100000) {k : Nat} {y : Nat → Value} {g : Heap} (I : YL ha b v w es k y g) :
    Rnd 75 (YL ha b v w es) (fun ex y g => g = ha ∧ ((ex = .exit 0 ∧ y 1 = v ∧ y 2 = w ∧ y 3 = ptr b 0 ∧ ∀ e ∈ es, e.data.length ≤ 70000) ∨ (ex = .ret ∧ y 6 = .bool true))) k (t5l5_11010 CW y g) := by
  obtain ⟨hk, y1, y2, y3, y7, hall, rfl⟩ := I
  obtain ⟨av, cv, hv, hx⟩ := hS
  have hlenv : lenL v = some (.int .i64 es.length) := by rw [hv]; rfl
  unfold t5l5_11010
  simp -implicitDefEqProofs only [y1, y7, thenV_some, hlenv, pu_some, bin_lss]
  by_cases hz' : k = 0
  · have hd : ¬ (((es.length - k : Nat) : Int) < (es.length : Int)) := by omega
    simp -implicitDefEqProofs only [decide_eq_false hd]
    rw [hz', Nat.sub_zero, List.take_of_length_le (Nat.le_refl _)] at hall
    refine Rnd.out 0 ⟨rfl, .inl ⟨rfl, ?_, ?_, ?_, hall⟩⟩ <;> simp only [up_cons, up_nil, Nat.reduceEqDiff, if_false]
    · exact y1
    · exact y2
    · exact y3
  have hd : (((es.length - k : Nat) : Int) < (es.length : Int)) := by omega
  have hi : es.length - k < es.length := by omega
  have hE0 := List.getElem?_eq_getElem hi
  generalize hE : es[es.length - k] = e at *
  obtain ⟨p, cs, i1, ⟨a, c, hc, _, _, _⟩, _, bb, off, hp, hld⟩ := hx _ _ hE0
  have l5 : ld1 (ptr bb (off + 5)) g = some (.slice a e.data.length c, g) := hld g 5 _ o (by rw [hc]; rfl)
  subst hp
  have w9 : IntKind.wrap .i64 (((es.length - k : Nat) : Int) + 1) = ((es.length - (k - 1) : Nat) : Int) := by rw [wrap_i64 (by omega) (by omega)]; omega
  simp -implicitDefEqProofs only [decide_eq_true hd, i1, pu_some, thenV_some, addP_ptr, l5, lenL_slice, bin_gtr]
  by_cases hgt : (e.data.length : Int) > 70000
  · simp -implicitDefEqProofs only [decide_eq_true hgt, r8 hz, thenV_some]
    refine Rnd.ret ⟨rfl, .inr ⟨rfl, ?_⟩⟩
    simp only [up_cons, up_nil, Nat.reduceEqDiff, if_false, if_true]
  · simp -implicitDefEqProofs only [decide_eq_false hgt, bin_add, w9, pu_some, thenV_some]
    have htake : es.take (es.length - (k - 1)) = es.take (es.length - k) ++ [e] := by
      rw [show es.length - (k - 1) = es.length - k + 1 by omega]
      exact take_snoc hE0
    refine Rnd.next (k - 1) (by omega) ⟨by omega, ?_, ?_, ?_, ?_, ?_, rfl⟩
    · simp only [up_cons, up_nil, Nat.reduceEqDiff, if_false, y1]
    · simp only [up_cons, up_nil, Nat.reduceEqDiff, if_false, y2]
    · simp only [up_cons, up_nil, Nat.reduceEqDiff, if_false, y3]
    · simp only [up_cons, up_nil, Nat.reduceEqDiff, if_false, if_true]
    · intro e' he'
      rw [htake] at he'
      rcases List.mem_append.1 he' with h1 | h1
      · exact hall e' h1
      · rw [List.mem_singleton.1 h1]; omega
set_option maxRecDepth 100000 in
theorem r5 {h : Heap} (hG : 2 ≤ h.n0) (hz : h.get 1 = some roundsL) (p b q : Int) {v : Value} {es : List Ev} (hS : EvS h v es) (hwf : ∀ e ∈ es, e.Wf) {ar : Option Addr} {n cr : Nat} {m : List Nat} (hm : sliceBytes ar n h = some m) :
    ∃ h', CW 5 [.agg (setC p b q).toArray, v, .slice ar n cr] h = some (.bool true, h') := by
  have hmn : m.length = n := (sliceBytes_spec hm).1
  suffices hh : ∃ r : Value × Heap, t5 CW (.agg (setC p b q).toArray) v (.slice ar n cr) h = some r ∧ r.1 = .bool true by
    obtain ⟨⟨r, h'⟩, h1, h2⟩ := hh
    have h2 : r = .bool true := h2
    subst h2
    exact ⟨h', CW_body is5 hG rfl ((t5_eq _ _ _ _ _).trans h1)⟩
  let ha := h.alloc (setC p b q)
  have oa : Old h ha := Kept.alloc _ _ _
  have ga : ha.get h.next = some (setC p b q) := by rw [Heap.get_alloc, if_pos rfl]
  have hza : ha.get 1 = some roundsL := oa.getE hz (fun h => h)
  have hlenv : lenL v = some (.int .i64 es.length) := by obtain ⟨a, c, hv, _⟩ := hS; rw [hv]; rfl
  unfold t5
  simp -implicitDefEqProofs only [box_set, show h.alloc (setC p b q) = ha from rfl, thenV_some, hlenv, pu_some, bin_gtr]
  by_cases h80 : (es.length : Int) > 80
  · simp -implicitDefEqProofs only [decide_eq_true h80, bOf_bool, sT, guardK_false, thenV_some, if_true, r8 hza]
    exact ⟨(.bool true, ha), rfl, rfl⟩
  simp -implicitDefEqProofs only [decide_eq_false h80, bOf_bool, beq_self_eq_true, guardK_true, thenV_some, lenL_slice, pu_some, bin_gtr, Bool.false_eq_true, if_false]
  by_cases h15 : (n : Int) > 15
  · simp -implicitDefEqProofs only [decide_eq_true h15, thenV_some, r8 hza]
    exact ⟨(.bool true, ha), rfl, rfl⟩
  simp -implicitDefEqProofs only [decide_eq_false h15, thenV_some]
  refine endL_fin (n := 75) (fin := fun ex y g => g = ha ∧ ((ex = .exit 0 ∧ y 1 = v ∧ y 2 = .slice ar n cr ∧ y 3 = ptr h.next 0 ∧ ∀ e ∈ es, e.data.length ≤ 70000) ∨ (ex = .ret ∧ y 6 = .bool true))) (Q := fun o : Out => ∃ r : Value × Heap, o = some r ∧ r.1 = .bool true)
    (loop_fin (t5l5_11010_eq CW) (Inv := fun k y g => YL ha h.next v (.slice ar n cr) es k y g) (fun k y g I => size_round5 hS oa hza (by omega) I) es.length (by have : rounds = 18446744073709551616 := rfl; omega) ?_) ?_
  · exact ⟨Nat.le_refl _, rfl, rfl, rfl, by rw [Nat.sub_self]; rfl, (by rw [Nat.sub_self]; intro e he; cases he), rfl⟩
  · rintro ex y g ⟨rfl, ⟨rfl, y1, y2, y3, hdl⟩ | ⟨rfl, y6⟩⟩
    rotate_left
    · refine ⟨(.bool true, ha), ?_, rfl⟩
      rw [endL_ret, res_one results5 (by decide), y6]
    rw [endL_exit]
    unfold b5_6
    rw [if_pos rfl, t5k5_4_eq]
    have hGa : 2 ≤ ha.n0 := hG
    obtain ⟨w, h1, e10, o1, V1⟩ := r10 (h := ha) hGa (hS.old oa) (by omega) (fun e he => Nat.le_trans (hdl e he) (by decide))
    have o1' : Old h h1 := oa.trans o1
    obtain ⟨_, e9, u1, h2, rfl, o2, B1, hL⟩ := r9 (h := h1) (by rw [o1'.n0]; exact hG) p b q V1.toS hwf (by omega)
    have o2' : Old h h2 := o1'.trans o2
    have ld : ∀ g, Old ha g → ldN 3 (ptr h.next 0) g = some (.agg (setC p b q).toArray, g) := fun g o => ldSet (o.getE ga (fun h => h))
    by_cases hok : okScript p b q es = true
    rotate_left
    · rw [if_neg hok] at e9
      have z1 : extractA (.tuple #[u1, .int .i64 2]) 0 = some u1 := rfl
      have z2 : extractA (.tuple #[u1, .int .i64 2]) 1 = some (.int .i64 2) := rfl
      unfold t5k5_4
      simp -implicitDefEqProofs only [y3, y1, ld ha (Kept.refl _ _), thenV_some, e10, e9, z1, z2, pu_some, ld h1 o1, chk_set, Bool.and_self, neq31, show ((2 : Int) != 0) = true from rfl, r8 (o2'.getE hz (fun h => h))]
      exact ⟨(.bool true, h2), rfl, rfl⟩
    rw [if_pos hok] at e9 B1
    have hL := hL hok
    have hval : validS p b q = true := by unfold okScript at hok; rw [Bool.and_eq_true] at hok; exact hok.1
    obtain ⟨a1, c1, rfl, s1, _⟩ := B1
    have z1 : extractA (.tuple #[.slice a1 (scriptL p b q es).length c1, .int .i64 0]) 0 = some (.slice a1 (scriptL p b q es).length c1) := rfl
    have z2 : extractA (.tuple #[.slice a1 (scriptL p b q es).length c1, .int .i64 0]) 1 = some (.int .i64 0) := rfl
    let h3 := h2.alloc []
    have o23 : Old h2 h3 := Kept.alloc _ _ _
    have n3 : h3.next = h2.next + 1 := Heap.next_alloc ..
    have ob0 : OwnB h3 h2.next (.slice (some ⟨h2.next, 0, none⟩) 0 0) [] := ⟨OwnC.empty _ (Nat.le_refl _), by simp⟩
    obtain ⟨v4, h4, e4, ob4, k4, _⟩ := append_ownB (c := c1) ob0 (show h3.n0 ≤ h2.next from h2.n0_le_next) (by omega) (o23.bytes s1) (by simp; omega)
    have o24 : Old h2 h4 := o23.also k4 (fun d hd hh => by have := ob0.own.base hh; omega)
    obtain ⟨v5, h5, e5, ob5, k5, _⟩ := append_ownB (c := cr) ob4 (by rw [o24.n0]; exact h2.n0_le_next) o24.next (Old.bytes (Kept.trans o2' o24) hm) (by simp; omega)
    have o25 : Old h2 h5 := o24.also k5 (fun d hd hh => by have := ob4.own.base hh; omega)
    rw [List.nil_append] at ob5
    obtain ⟨a5, c5, rfl, s5, _⟩ := ob5.bytes
    have hp := parse_script hok hwf (rest := m) (by omega)
    obtain ⟨v6, h6, e6, o6, V6⟩ := r14 (h := h5) (c := c5) (by rw [(o2'.trans o25).n0]; exact hG) s5 (by rw [List.length_append]; omega)
    rw [hp] at e6 V6
    simp only at e6 V6
    have o26 : Old h2 h6 := o25.trans o6
    have o06 : Old h h6 := o2'.trans o26
    have n6 := h6.n0_le_next
    let h7 := h6.alloc (setC 0 0 0)
    have g7 : h7.get h6.next = some (setC 0 0 0) := by rw [Heap.get_alloc, if_pos rfl]
    let h8 := h7.set h6.next (setC p b q)
    have s8 : stN 3 (ptr h6.next 0) (.agg (setC p b q).toArray) h7 = some (undef, h8) := stSet g7 n6
    have k78 : Kept h7 h8 (fun c => c = h6.next) := Kept.set (h := h7) n6 g7 (.inr rfl)
    have o68 : Old h6 h8 := (Kept.alloc h6 (setC 0 0 0) _).also k78 (fun d hd hh => by have hh : d = h6.next := hh; omega)
    have g8 : h8.get h6.next = some (setC p b q) := Heap.get_set_same (h := h7) n6 g7 _
    have o08 : Old h h8 := o06.trans o68
    obtain ⟨h9, e16, o9⟩ := r16 (h := h8) (by rw [o08.n0]; exact hG) (V6.toS.old o68) (hS.old o08) (by omega)
    have o09 : Old h h9 := o08.trans o9
    obtain ⟨h10, e12, o10⟩ := r12 (h := h9) (by rw [o09.n0]; exact hG) p b q
    have oa9 : Old ha h9 := ((((o1.trans o2).trans o26).trans o68).trans o9)
    have oa8 : Old ha h8 := (((o1.trans o2).trans o26).trans o68)
    have x0 : extractA (.tuple #[.agg (setC p b q).toArray, v6, .int .i64 0]) 0 = some (.agg (setC p b q).toArray) := rfl
    have x1 : extractA (.tuple #[.agg (setC p b q).toArray, v6, .int .i64 0]) 1 = some v6 := rfl
    have x2 : extractA (.tuple #[.agg (setC p b q).toArray, v6, .int .i64 0]) 2 = some (.int .i64 0) := rfl
    unfold t5k5_4
    simp -implicitDefEqProofs only [y3, y1, y2, ld ha (Kept.refl _ _), thenV_some, e10, e9, z1, z2, pu_some, ld h1 o1, chk_set, Bool.and_self, neq31, bne_self_eq_false, bsl_bytes, show h2.alloc [] = h3 from rfl, e4, e5, e6, x0, x1, x2, set_eq, newC_eq, show h6.alloc (setC 0 0 0) = h7 from rfl, s8,
      eql_selfI, bOf_bool, beq_self_eq_true, guardK_true, ldSet g8, ld h8 oa8, eq_set, if_true, e16, ld h9 oa9, e12, hval, r8 ((o09.trans o10).getE hz (fun h => h))]
    exact ⟨(.bool true, h10), rfl, rfl⟩
end
end Go.Proofs.YtdmnphocgfnlpaaGreatDoor

