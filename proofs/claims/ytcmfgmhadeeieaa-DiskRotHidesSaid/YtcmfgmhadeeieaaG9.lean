/-
  The journal's plain law: a changed byte hides exactly the record.
  Conditions: as each theorem states.
  Parts of lists of records; the script that heavy is asked about.
  Conditions: as each theorem states.
  DiskRotHides: the walk.
  Conditions: as each theorem states.
-/
import Derived.Test.YtcmfgmhadeeieaaG8
namespace Go.Proofs.Ytcmfgmhadeeieaa
open Go Go.Abs

theorem right_logOk {at_ : Nat} {b : List Nat} (h : right b = false) : logOk at_ b = false := by unfold logOk; rw [h]; rfl

/-- A block of a record is no more right. -/
theorem hides {D : Dk} {area gen at_ : Nat} {r : List Nat} (hg : gen < 18446744073709551616) (hr : r.length ≤ 20000) (hb : ∀ x ∈ r, x < 256) (hfit : at_ + costN r.length ≤ D.ar) (har : D.ar ≤ 4096) {i : Nat} (hi : i < costN r.length) (hbad : right (D.jb area (at_ + i)) = false)
    (hrest : ∀ j, j < costN r.length → j ≠ i → D.jb area (at_ + j) = logBlk gen (at_ + j) j (costN r.length) (chunk r j)) : ∀ j, j < costN r.length → D.stands area gen (at_ + j) = false := by
  intro j hj
  have hc := costN_le (n := r.length) (by omega)
  by_cases hji : j = i
  · subst hji
    exact Dk.noB.stands (.inl (right_logOk hbad))
  by_cases hj0 : j = 0
  · subst hj0
    rw [Nat.add_zero]
    have h0 := hrest 0 hj hji
    rw [Nat.add_zero] at h0
    have hp : D.parts area at_ = costN r.length := by
      unfold Dk.parts
      rw [h0, logParts_log (by omega)]
    refine Dk.not_stands (i := i) (by rw [hp]; exact hi) ?_
    unfold Dk.part
    rw [right_logOk hbad]; rfl
  · refine Dk.noB.stands (.inr (.inr ?_))
    rw [hrest j hj hji, logPart_log (by omega)]
    exact hj0

theorem layR_filter (A B : List (List Nat)) (r : List Nat) : (layR (A ++ r :: B) 0).filter (fun e => !decide (e.1 = recsTot A)) = layR A 0 ++ layR B (recsTot A + costN r.length) := by
  have hp := costN_pos r.length
  rw [layR_append, Nat.zero_add, layR, List.filter_append, List.filter_cons, if_neg (by simp)]
  rw [List.filter_eq_self.2, List.filter_eq_self.2]
  · intro e he
    have := lay_bound _ _ _ he
    rw [decide_eq_false (by omega)]; rfl
  · intro e he
    have := lay_bound _ _ _ he
    have := costN_pos e.2.length
    rw [decide_eq_false (by omega)]; rfl

theorem Dk.blk_len {D : Dk} (hlen : D.img.length = 128 * D.n) {i : Nat} (hi : i < D.n) : (D.blk i).length = 128 := by
  unfold Dk.blk
  rw [List.length_take, List.length_drop]
  omega

theorem rot_hides {D : Dk} {s area gen : Nat} {A B : List (List Nat)} {r : List Nat} (H : Has D area gen (A ++ r :: B)) (sup : Sup D s area gen) (hlen : D.img.length = 128 * D.n) (har : D.ar ≤ 4096) {i p m : Nat} (hi : i < costN r.length) (hp : p < 128) (hm : m ≠ 0) (hm2 : m < 256) :
    ∃ E, D.rot ((2 + area * D.ar + (recsTot A + i) : Nat) : Int) (p : Int) m = (0, E) ∧ Alike D E ∧ E.stands area gen (recsTot A) = false ∧ E.entries = layR A 0 ++ layR B (recsTot A + costN r.length) := by
  have hfit := H.fit
  rw [recsTot_append, recsTot_cons] at hfit
  have hin := D.area_in H.a (by omega)
  obtain ⟨E, e1, e2, e3, e4⟩ := Dk.rot_blk hlen (i := 2 + area * D.ar + (recsTot A + i)) (at_ := p) (m := m) (by omega) hp
  have hmem : (recsTot A, r) ∈ layR (A ++ r :: B) 0 := by
    rw [layR_append, Nat.zero_add, layR]
    exact List.mem_append_right _ List.mem_cons_self
  obtain ⟨hr1, hr2⟩ := H.ok r (List.mem_append_right _ List.mem_cons_self)
  have hpl := H.placed _ hmem
  have hbi : D.blk (2 + area * D.ar + (recsTot A + i)) = logBlk gen (recsTot A + i) i (costN r.length) (chunk r i) := hpl i hi
  have hbl := D.blk_len hlen (i := 2 + area * D.ar + (recsTot A + i)) (by omega)
  have hbyte : ∀ x ∈ D.blk (2 + area * D.ar + (recsTot A + i)), x < 256 := by
    rw [hbi]
    exact logBlk_byte (chunk_byte hr2 i)
  have hbad : right (E.jb area (recsTot A + i)) = false := by
    unfold Dk.jb
    rw [e2.ar, e4]
    have hv : (D.blk (2 + area * D.ar + (recsTot A + i))).getD p 0 = (D.blk (2 + area * D.ar + (recsTot A + i)))[p]'(by omega) := by
      rw [List.getD_eq_getElem?_getD, List.getElem?_eq_getElem (by omega)]; rfl
    rw [hv]
    refine right_set hbyte (by rw [hbi]; exact right_log (chunk_byte hr2 i)) (by omega) (by omega) (Nat.xor_lt_two_pow (n := 8) (hbyte _ (List.getElem_mem _)) hm2) (xor_ne hm)
  have hst := hides H.g hr1 hr2 (by rw [e2.ar]; omega) (by rw [e2.ar]; exact har) hi hbad (fun j hj hji => by
    have := hpl j hj
    unfold Dk.jb at this ⊢
    rw [e2.ar, e3 _ (by omega) (by omega)]
    exact this)
  have h0 := hst 0 (by omega)
  rw [Nat.add_zero] at h0
  refine ⟨E, e1, e2, h0, ?_⟩
  have sup' : Sup E s area gen := ⟨sup.s, by rw [e3 s (by have := sup.s; omega) (by have := sup.s; omega)]; exact sup.ok, by rw [e3 s (by have := sup.s; omega) (by have := sup.s; omega)]; exact sup.g, by rw [e3 s (by have := sup.s; omega) (by have := sup.s; omega)]; exact sup.a, by rw [e3 (1 - s) (by have := sup.s; omega) (by have := sup.s; omega)]; exact sup.other⟩
  obtain ⟨q1, q2, q3, _⟩ := sup'.jn
  rw [← layR_filter]
  have key := ents_lay (D := E.opened) (J := E.jn) (by omega) (by rw [q3]; exact H.g) (by show E.ar ≤ 4096; rw [e2.ar]; exact har) (fun e => decide (e.1 = recsTot A)) (A ++ r :: B) 0 E.ar H.ok (by show _ ≤ E.ar; rw [e2.ar]; have := H.fit; omega) (by show E.ar ≤ _; omega) ?_ ?_ ?_
  · exact key
  · rw [q2, q3]
    intro e he hne
    have hne : e.1 ≠ recsTot A := of_decide_eq_false hne
    refine (H.placed e he).keep (E := E) e2.ar (fun j hj => e3 _ (by have := lay_bound _ _ _ he; rw [recsTot_append, recsTot_cons] at this; omega) ?_)
    have hb := lay_bound _ _ _ he
    rw [layR_append, Nat.zero_add, layR] at he
    rcases List.mem_append.1 he with he | he
    · have := lay_bound _ _ _ he
      omega
    · rcases List.mem_cons.1 he with rfl | he
      · exact absurd rfl hne
      · have := lay_bound _ _ _ he
        omega
  · rw [q2, q3]
    intro e he hb j hj
    have hb : e.1 = recsTot A := of_decide_eq_true hb
    have he2 : e = (recsTot A, r) := by
      rw [layR_append, Nat.zero_add, layR] at he
      rcases List.mem_append.1 he with he | he
      · have := lay_bound _ _ _ he
        have := costN_pos e.2.length
        omega
      · rcases List.mem_cons.1 he with rfl | he
        · rfl
        · have := lay_bound _ _ _ he
          have := costN_pos r.length
          omega
    subst he2
    exact hst j hj
  · rw [q2, q3]
    intro q h1 h2
    have h2 : q < E.ar := h2
    rw [e2.ar] at h2
    rw [Nat.zero_add] at h1
    have hrs := H.rest q h1 h2
    rw [recsTot_append, recsTot_cons] at h1
    show E.stands area gen q = false
    refine Dk.noB.stands ?_
    unfold Dk.noB Dk.jb at hrs ⊢
    rw [e2.ar, e3 _ (by omega) (by omega)]
    exact hrs
end Go.Proofs.Ytcmfgmhadeeieaa

namespace Go.Proofs.Ytcmfgmhadeeieaa
open Go Go.Abs

theorem BytesV.old {h h' : Heap} {v : Value} {l : List Nat} (x : BytesV h v l) (k : Old h h') : BytesV h' v l := by
  obtain ⟨a, n, c, rfl, h1, h2⟩ := x
  exact ⟨a, n, c, rfl, Old.bytes k h1, h2⟩
theorem RecsV.old {h h' : Heap} {v : Value} {vals : List (List Nat)} (x : RecsV h v vals) (k : Old h h') : RecsV h' v vals := by
  obtain ⟨a, n, c, rfl, h1, h2, h3⟩ := x
  refine ⟨a, n, c, rfl, h1, h2, fun i hi => ?_⟩
  obtain ⟨b, off, s, kk, rv, e1, e2, e3, e4, e5⟩ := h3 i hi
  exact ⟨b, off, s, kk, rv, e1, Old.get k e2, e3, e4, e5.old k⟩
theorem RecsV.byte {h : Heap} {v : Value} {vals : List (List Nat)} (x : RecsV h v vals) : ∀ r ∈ vals, ∀ y ∈ r, y < 256 := by
  intro r hr
  obtain ⟨i, hi⟩ := List.getElem?_of_mem hr
  obtain ⟨a, n, c, rfl, h1, h2, h3⟩ := x
  obtain ⟨b, off, s, kk, rv, e1, e2, e3, e4, a', n', c', _, e5, _⟩ := h3 i (by have := (List.getElem?_eq_some_iff.1 hi).1; omega)
  rw [List.getD_eq_getElem?_getD, hi] at e5
  exact (sliceBytes_spec e5).2.1

/-- A list of records as an argument. -/
def RecsI (h : Heap) (v : Value) (vals : List (List Nat)) : Prop := RecsV h v vals ∧ ∃ a n c, v = .slice a n c ∧ n ≤ c ∧ ∀ y, a = some y → 0 < n → y.spot = none
theorem RecsI.old {h h' : Heap} {v : Value} {vals : List (List Nat)} (x : RecsI h v vals) (k : Old h h') : RecsI h' v vals := ⟨x.1.old k, x.2⟩
theorem RecsI.S {h : Heap} {v : Value} {vals : List (List Nat)} (x : RecsI h v vals) : RecsS h v vals 1 0 := x.1.S
theorem RecsI.to {h : Heap} {v : Value} {vals : List (List Nat)} (x : RecsI h v vals) (h0 : 0 < vals.length) {k : Nat} (hk : k ≤ vals.length) : ∃ v', slR 1 v none (some (i64n k)) none = some v' ∧ RecsS h v' (vals.take k) 1 0 := by
  obtain ⟨hV, a, n, c, rfl, hnc, hsp⟩ := x
  obtain ⟨a', c', e, hS⟩ := hV.S
  cases e
  obtain ⟨b, f, s, kk, ai, ni, ci, rfl, _⟩ := hS 0 _ (List.getElem?_eq_getElem h0)
  have : s = none := hsp _ rfl h0
  subst this
  have hb : boundsA vals.length c none (some (i64n k)) none = some (0, k, c) := by
    unfold boundsA
    simp only [boundA, i64n]
    rw [if_pos (by omega), Int.toNat_natCast]
  refine ⟨.slice (some ⟨b, if c = 0 then f else f + 0 * 1, none⟩) (k - 0) (c - 0), ?_, ?_⟩
  · unfold slR sliceSl
    simp only [hb]
  · refine ⟨_, _, by rw [List.length_take, Nat.min_eq_left hk, Nat.sub_zero], fun i r hi => ?_⟩
    rw [List.getElem?_take] at hi
    split at hi
    · obtain ⟨b', f', s', k2, ai', ni', ci', e, r1, r2, r3⟩ := hS i r hi
      cases e
      exact ⟨b, _, none, k2, ai', ni', ci', rfl, r1, by rw [show (if c = 0 then f else f + 0 * 1) = f by split <;> omega]; exact r2, r3⟩
    · cases hi
theorem RecsI.from {h : Heap} {v : Value} {vals : List (List Nat)} (x : RecsI h v vals) (h0 : 0 < vals.length) {k : Nat} (hk : k ≤ vals.length) : ∃ v', slR 1 v (some (i64n k)) none none = some v' ∧ RecsS h v' (vals.drop k) 1 0 := by
  obtain ⟨hV, a, n, c, rfl, hnc, hsp⟩ := x
  obtain ⟨a', c', e, hS⟩ := hV.S
  cases e
  obtain ⟨b, f, s, kk, ai, ni, ci, rfl, _⟩ := hS 0 _ (List.getElem?_eq_getElem h0)
  have : s = none := hsp _ rfl h0
  subst this
  have hb : boundsA vals.length c (some (i64n k)) none none = some (k, vals.length, c) := by
    unfold boundsA
    simp only [boundA, i64n]
    rw [if_pos (by omega), Int.toNat_natCast]
  refine ⟨.slice (some ⟨b, if c = k then f else f + k * 1, none⟩) (vals.length - k) (c - k), ?_, ?_⟩
  · unfold slR sliceSl
    simp only [hb]
  · refine ⟨_, _, by rw [List.length_drop], fun i r hi => ?_⟩
    rw [List.getElem?_drop] at hi
    have hl := (List.getElem?_eq_some_iff.1 hi).1
    obtain ⟨b', f', s', k2, ai', ni', ci', e, r1, r2, r3⟩ := hS _ r hi
    cases e
    refine ⟨b, _, none, k2, ai', ni', ci', rfl, r1, ?_, r3⟩
    rw [if_neg (by omega), show f + k * 1 + i * 1 + 0 = f + (k + i) * 1 + 0 by omega]
    exact r2

theorem X17 : XX 17 = s17 := rfl
/-- heavy, asked about one call's records. -/
theorem r17 {h : Heap} {v : Value} {vals : List (List Nat)} (x : RecsV h v vals) (n : Int) :
    bldR [(.int .i64 0), (.int .i64 0), (.int .i64 0), (.int .u8 0), (.slice none 0 0), (.slice none 0 0)] [(5, 1, v)] = some (.agg #[.int .i64 0, .int .i64 0, .int .i64 0, .int .u8 0, .slice none 0 0, v]) ∧
    bslR 6 (.agg #[(.int .i64 0), (.int .i64 0), (.int .i64 0), (.int .u8 0), (.slice none 0 0), (.slice none 0 0)]) 1 [(0, .agg #[.int .i64 0, .int .i64 0, .int .i64 0, .int .u8 0, .slice none 0 0, v])] h = some (.slice (some ⟨h.next, 0, none⟩) 1 1, h.alloc [.int .i64 0, .int .i64 0, .int .i64 0, .int .u8 0, .slice none 0 0, v]) ∧
    CD 17 [.int .i64 n, .slice (some ⟨h.next, 0, none⟩) 1 1] (h.alloc [.int .i64 0, .int .i64 0, .int .i64 0, .int .u8 0, .slice none 0 0, v]) = some (.bool (decide (64 < n) && decide (n ≤ 4096) || (decide (40 < vals.length) || vals.any fun r => decide (21000 < r.length))), h.alloc [.int .i64 0, .int .i64 0, .int .i64 0, .int .u8 0, .slice none 0 0, v]) := by
  have xA := x.old (Kept.alloc h [.int .i64 0, .int .i64 0, .int .i64 0, .int .u8 0, .slice none 0 0, v] _)
  obtain ⟨a, m, c, rfl, h1, h2, h3⟩ := x
  refine ⟨rfl, rfl, CD_known ?_⟩
  have hO : OpsV (h.alloc [.int .i64 0, .int .i64 0, .int .i64 0, .int .u8 0, .slice none 0 0, .slice a m c]) (.slice (some ⟨h.next, 0, none⟩) 1 1) [⟨0, 0, 0, 0, [], vals⟩] := by
    refine ⟨_, 1, 1, rfl, rfl, by decide, fun i hi => ?_⟩
    obtain rfl : i = 0 := by omega
    exact ⟨h.next, 0, none, _, rfl, by rw [Heap.get_alloc, if_pos rfl], _, rfl, rfl, rfl, rfl, rfl, ⟨_, rfl, rfl, none, 0, 0, rfl, rfl, Nat.zero_le _⟩, ⟨_, rfl, rfl, xA⟩, ⟨rfl, rfl, rfl, by show (0 : Nat) < 256; omega⟩⟩
  rw [X17, s17_at n hO]
  have hb : heavyB n [⟨0, 0, 0, 0, [], vals⟩] = (decide (64 < n) && decide (n ≤ 4096) || (decide (40 < vals.length) || vals.any fun r => decide (21000 < r.length))) := by
    unfold heavyB heavyOp
    simp
  rw [hb]

/-- A cell of a list of one's own. -/
theorem OwnC.at {h : Heap} {N size len : Nat} {v : Value} {cells : List Value} (o : OwnC h N size v len cells) {i : Nat} (hi : i < len) : ∃ b, idxS size v (i64n i) = some (ptr b (i * size)) ∧ h.get b = some cells ∧ lenL v = some (i64n len) ∧ N ≤ b := by
  obtain ⟨_, _, _, ⟨rfl, h4⟩ | ⟨b, s, rfl, h5, ⟨rfl, h4⟩ | ⟨rfl, h6⟩⟩⟩ := o
  · omega
  · omega
  · refine ⟨b, ?_, h6, rfl, h5⟩
    unfold idxS
    simp only [i64n]
    rw [if_pos (by omega), Int.toNat_natCast, Nat.zero_add]
theorem OwnC.len {h : Heap} {N size len : Nat} {v : Value} {cells : List Value} (o : OwnC h N size v len cells) : lenL v = some (i64n len) := by
  obtain ⟨_, _, _, ⟨rfl, h4⟩ | ⟨b, s, rfl, h5, _⟩⟩ := o
  · rw [h4]; rfl
  · rfl
theorem OwnC.first {h : Heap} {N len : Nat} {v : Value} {cells : List Value} (o : OwnC h N 1 v len cells) : lenA v = some len ∧ firstA 1 len v h = some cells := by
  obtain ⟨h1, h2, _, ⟨rfl, h4⟩ | ⟨b, s, rfl, h5, ⟨rfl, h4⟩ | ⟨rfl, h6⟩⟩⟩ := o
  · subst h4
    have : cells = [] := List.length_eq_zero_iff.1 (by omega)
    subst this
    exact ⟨rfl, rfl⟩
  · subst h4
    have : cells = [] := List.length_eq_zero_iff.1 (by omega)
    subst this
    exact ⟨rfl, rfl⟩
  · refine ⟨rfl, ?_⟩
    simp only [firstA, h6]
    by_cases h0 : len = 0
    · subst h0
      have : cells = [] := List.length_eq_zero_iff.1 (by omega)
      subst this
      rfl
    · rw [if_neg (by omega), List.drop_zero, List.take_of_length_le (by omega), if_pos ⟨by omega, h2⟩]
/-- Two lists of records, one behind the other. -/
theorem append_recs {h : Heap} {N : Nat} {v w : Value} {cv cw : List Value} {a b : List (List Nat)} (o : OwnC h N 1 v a.length cv) (E : RecsAt h N cv a) (p : OwnC h N 1 w b.length cw) (F : RecsAt h N cw b) (h0 : h.n0 ≤ N) (hN : N ≤ h.next) (ha : a.length ≤ 100000) (hb : b.length ≤ 100000) :
    ∃ v' h', appendA 1 24 v w h = some (v', h') ∧ OwnC h' N 1 v' (a ++ b).length (cv ++ cw) ∧ RecsAt h' N (cv ++ cw) (a ++ b) ∧ Kept h h' (fun c => N ≤ c) := by
  obtain ⟨l1, l2⟩ := p.first
  obtain ⟨v', h', f1, f2, f3, f4⟩ := append_own (by_ := 24) o h0 hN (by decide) l1 l2 p.2.2.1 p.2.1 (by rw [F.1, Nat.mul_one]) (by omega) (by omega)
  have pl : ∀ b, baseOf v = some b ∧ h.get b = some cv → Plain h b := fun b hb => ⟨cv, hb.2, E.plain⟩
  exact ⟨v', h', f1, by rw [List.length_append]; exact f2, (E.append F).keep f3 pl, f3.mono (fun c _ hc => o.base hc.1)⟩
theorem layR_at : ∀ (vals : List (List Nat)) (a k : Nat), k < vals.length → (layR vals a)[k]? = some (a + recsTot (vals.take k), vals.getD k [])
  | r :: rs, a, 0, _ => by simp [layR, recsTot_nil]
  | r :: rs, a, k + 1, h => by
    rw [layR, List.getElem?_cons_succ, layR_at rs _ k (by simpa using h), List.take_succ_cons, recsTot_cons, Nat.add_assoc]
    rfl

/-- A new disk, opened: the journal of a disk on which nothing stands. -/
theorem new_open (h : Heap) {n : Nat} (h4 : 4 ≤ n) (hn : n ≤ 4096) : ∃ d D j v N g1 g2, CD 18 [i64n n] h = some (.tuple #[ptr d 0, .int .i64 0], g1) ∧ CD 21 [ptr d 0] g1 = some (.tuple #[ptr j 0, v, .int .i64 0], g2) ∧
    IsDk g2 d D ∧ IsJn g2 j d (D.jn0 D.turn) ∧ Old h g2 ∧ Up D ∧ Fresh D ∧ D.n = n ∧ D.turn = 1 ∧ (D.jn0 D.turn).live D = true ∧ JnOk (D.jn0 D.turn) D ∧ h.next ≤ d ∧ h.next ≤ j ∧ h.next ≤ D.bb ∧ D.img = List.replicate (128 * n) 0 ∧ OwnC g2 N 2 v 0 [] := by
  obtain ⟨e1, x1, o1⟩ := r18 h h4 hn
  have u1 := new_up h n
  have f1 := new_fresh h n
  obtain ⟨j, v2, cells2, N2, g2, e2, x2, j2, own2, ent2, k2, l2, l2', l2''⟩ := r21 x1 (by show 2 ≤ n; omega) u1.down
  have hj := f1.jn h4
  have hle := f1.entries h4
  rw [hj] at j2
  rw [hle] at own2 ent2
  have hc : cells2 = [] := List.length_eq_zero_iff.1 ent2.1
  subst hc
  have hn1 : (newDk h n).next = h.next + 2 := rfl
  exact ⟨h.next + 1, (Dk.new h n).opened, j, v2, N2, newDk h n, g2, e1, e2, x2, j2, o1.also k2 (fun c hc e => by subst e; omega), ⟨u1.len, rfl, rfl⟩, f1, rfl, rfl, Jn.live_opened rfl rfl, JnOk.new _ _, by omega, by omega, Nat.le_refl _, rfl, own2⟩
theorem rewrite_ok {J : Jn} {D : Dk} {vals : List (List Nat)} (hl : J.live D = true) (h : (J.rewrite D vals).1 = 0) : (∀ r ∈ vals, r.length ≤ 20000) ∧ recsTot vals ≤ D.ar ∧ J.known ≠ 18446744073709551615 := by
  unfold Jn.rewrite at h
  rw [hl, if_neg (by decide)] at h
  split at h
  · exact absurd h (show ¬ ((3 : Int) = 0) by decide)
  · rename_i h1
    split at h
    · exact absurd h (show ¬ ((8 : Int) = 0) by decide)
    · rename_i h2
      refine ⟨fun r hr => ?_, by omega, fun e => h2 (.inr e)⟩
      have h1 : (vals.any fun r => decide (20000 < r.length)) = false := by simpa using h1
      have := List.any_eq_false.1 h1 r hr
      simp at this; omega
end Go.Proofs.Ytcmfgmhadeeieaa

namespace Go.Proofs.Ytcmfgmhadeeieaa
open Go Go.Abs

theorem is6 : IsFn Try.prog 6 Try.f6 := ⟨by kernel_rfl, by kernel_rfl, by kernel_rfl, by kernel_rfl⟩
theorem chk_no (o : Out) (v : Value) : chkR false o v = true := rfl
theorem ld_op {h : Heap} {b : Nat} {kind A B : Int} {m : Nat} {p q : Value} (g : h.get b = some [.int .i64 kind, .int .i64 A, .int .i64 B, u8 m, p, q]) : ld1 (ptr b 1) h = some (.int .i64 A, h) ∧ ld1 (ptr b 2) h = some (.int .i64 B, h) ∧ ld1 (ptr b 3) h = some (u8 m, h) := ⟨ld1_at g rfl, ld1_at g rfl, ld1_at g rfl⟩
theorem bin5z (m : Nat) : bin Try.prog .eql 5 (u8 m) (.int .u8 0) = some (.bool (m == 0)) := by
  rw [bin_eql]
  exact congrArg (fun q => some (Value.bool q)) (int_beq m 0)

section
variable {h g2 : Heap} {d j ob : Nat} {D : Dk} {v : Value} {vals : List (List Nat)} {kind A B : Int} {m : Nat} {p q : Value}
/-- What comes behind the Rewrite: the last part. -/
theorem hides_end (R : RecsI h v vals) (gob : h.get ob = some [.int .i64 kind, .int .i64 A, .int .i64 B, u8 m, p, q]) (h40 : vals.length ≤ 40) (h20 : ∀ r ∈ vals, r.length ≤ 20000) (hm : m < 256)
    {J : Jn} {N : Nat} {w : Value} {s : Nat} {g : Heap} {E : Dk} (x : IsDk g d E) (xj : IsJn g j d J) (old : Old h g) (u : Up E) (hl : J.live E = true) (hJ : J.area = 0 ∧ 0 ≤ J.slot) (H : Has E J.area J.gen vals) (sup : Sup E s J.area J.gen) (h4 : 4 ≤ E.n) (hn : E.n ≤ 64)
    (own : OwnC g N 1 w vals.length (((layR vals 0).map (·.1)).map i64n)) (hd : h.next ≤ d) (hb : h.next ≤ E.bb) (hj : h.next ≤ j) (hNd : d < N) (hNb : E.bb < N) (hNj : j < N) {k bn : Nat} (hA : A = k) (hk : k < vals.length) (hB : B = bn) (hbn : bn < 128 * costN (vals[k]).length) (hmz : m ≠ 0) :
    ∃ g1 g2 g3 g4 g5 g6 g7 g8 F b v1 v2 w1 w2 w3 K v4 v5, idxS 1 w (.int .i64 k) = some (ptr b k) ∧ (∀ g', Old g g' ∨ g' = g1 ∨ g' = g4 → ld1 (ptr b k) g' = some (i64n (recsTot (vals.take k)), g')) ∧
      CD 31 [ptr d 0, .int .i64 ((2 + recsTot (vals.take k) + bn / 128 : Nat) : Int), .int .i64 ((bn % 128 : Nat) : Int), u8 m] g = some (.int .i64 0, g1) ∧
      (∀ g', g' = g1 ∨ g' = g2 ∨ g' = g4 → g'.get ob = some [.int .i64 kind, .int .i64 A, .int .i64 B, u8 m, p, q]) ∧
      slR 1 v none (some (.int .i64 k)) none = some v1 ∧ CD 24 [v1] g1 = some (w1, g2) ∧ slR 1 v (some (i64n (k + 1))) none none = some v2 ∧ CD 24 [v2] g2 = some (w2, g3) ∧ appendA 1 24 w1 w2 g3 = some (w3, g4) ∧
      CD 28 [ptr j 0, i64n (recsTot (vals.take k))] g4 = some (.tuple #[.slice none 0 0, .int .i64 6], g5) ∧ CD 21 [ptr d 0] g5 = some (.tuple #[K, v4, .int .i64 0], g6) ∧ CD 30 [v4] g6 = some (v5, g7) ∧ CD 29 [v5, w3] g7 = some (.bool true, g8) ∧ IsDk g1 d F := by
  have hsm := x.small
  have har : E.ar = (E.n - 2) / 2 := rfl
  have har2 : E.ar ≤ 4096 := by omega
  have hNr := own.at hk
  obtain ⟨b, i1, i2, i3, i4⟩ := hNr
  have hpl : (((layR vals 0).map (·.1)).map i64n)[k]? = some (i64n (recsTot (vals.take k))) := by
    rw [List.getElem?_map, List.getElem?_map, layR_at vals 0 k hk, Nat.zero_add]; rfl
  have hvals : vals = vals.take k ++ vals[k] :: vals.drop (k + 1) := by rw [List.getElem_cons_drop, List.take_append_drop]
  have H' : Has E J.area J.gen (vals.take k ++ vals[k] :: vals.drop (k + 1)) := hvals ▸ H
  obtain ⟨F, f1, f2, f3, f4⟩ := rot_hides H' sup u.len har2 (i := bn / 128) (p := bn % 128) (m := m) (by omega) (by omega) hmz hm
  rw [hJ.1, Nat.zero_mul, Nat.add_zero, ← Nat.add_assoc] at f1
  obtain ⟨g1, c1, x1, k1⟩ := r31 x ((2 + recsTot (vals.take k) + bn / 128 : Nat) : Int) ((bn % 128 : Nat) : Int) hm
  rw [f1] at c1 x1
  dsimp only at c1 x1
  have o1 : Old h g1 := old.also k1 (fun c hc hB => by omega)
  have j1 := xj.keep k1 (fun h => h.elim (xj.ne_d x) (xj.ne_bb x))
  obtain ⟨v1, s1, S1⟩ := (R.old o1).to (by omega) (k := k) (by omega)
  have hlen1 : (vals.take k).length ≤ 40 := by rw [List.length_take]; omega
  have hlen2 : (vals.drop (k + 1)).length ≤ 40 := by rw [List.length_drop]; omega
  obtain ⟨w1, cl1, g2, e2, ow1, E1, o2⟩ := r24 S1 (by omega) (fun r hr => by have := h20 r (List.mem_of_mem_take hr); omega)
  obtain ⟨v2, s2, S2⟩ := (R.old (o1.trans o2)).from (by omega) (k := k + 1) (by omega)
  obtain ⟨w2, cl2, g3, e3, ow2, E2, o3⟩ := r24 S2 (by omega) (fun r hr => by have := h20 r (List.mem_of_mem_drop hr); omega)
  have n2 : g1.next ≤ g2.next := o2.next
  have n3 : g2.next ≤ g3.next := o3.next
  have ow1' := ow1.keep o3 (fun _ _ h => h)
  have E1' := E1.keep o3 (fun _ h => h.elim)
  have ow2' : OwnC g3 g1.next 1 w2 (vals.drop (k + 1)).length cl2 := by
    obtain ⟨z1, z2, z3, z4 | ⟨bb, ss, z4, z5, z6⟩⟩ := ow2
    · exact ⟨z1, z2, z3, .inl z4⟩
    · exact ⟨z1, z2, z3, .inr ⟨bb, ss, z4, by omega, z6⟩⟩
  obtain ⟨w3, g4, e4, ow3, E3, k4⟩ := append_recs ow1' E1' ow2' (E2.low n2) (by rw [(o2.trans o3).n0]; exact g1.n0_le_next) (by omega) (by omega) (by omega)
  have k4' : Old g1 g4 := (o2.trans o3).also k4 (fun c hc hB => by omega)
  have x4 := Old.dk k4' x1
  have j4 := j1.keep k4' (fun h => h)
  have hlF : J.live F = true := by
    unfold Jn.live at hl ⊢
    rw [f2.down, f2.turn]; exact hl
  have hFn : F.n = E.n := f2.n
  have hst : J.stands F ((recsTot (vals.take k) : Nat) : Int) = false := by
    have hpos := costN_pos (vals[k]).length
    have hft := H'.fit
    rw [recsTot_append, recsTot_cons] at hft
    rw [Jn.stands_iff (by rw [f2.ar]; omega), f3, Bool.and_false]
  obtain ⟨g5, e5, o5⟩ := r28_no x4 j4 (by omega) ((recsTot (vals.take k) : Nat) : Int) hlF hst
  have x5 := Old.dk o5 x4
  obtain ⟨j6, v4, cl4, N4, g6, e6, x6, _, ow4, E4, k6, l6, _⟩ := r21 x5 (by omega) (by rw [f2.down]; exact u.down)
  rw [f4] at ow4 E4
  have hmap : (layR (vals.take k) 0 ++ layR (vals.drop (k + 1)) (recsTot (vals.take k) + costN (vals[k]).length)).map (·.2) = vals.take k ++ vals.drop (k + 1) := by rw [List.map_append, layR_snd, layR_snd]
  have S4 := E4.S ow4
  rw [hmap] at S4
  have hlen3 : (vals.take k ++ vals.drop (k + 1)).length ≤ 80 := by rw [List.length_append]; omega
  obtain ⟨v5, cl5, g7, e7, ow5, E5, o7⟩ := r30 S4 (by omega) (fun r hr => by
    rcases List.mem_append.1 hr with hr | hr
    · have := h20 r (List.mem_of_mem_take hr); omega
    · have := h20 r (List.mem_of_mem_drop hr); omega)
  have hd1 := x1.lt
  have ow3' := ((ow3.keep o5 (fun _ _ h => h)).keep k6 (fun c hc hB => by have := (ow3.keep o5 (fun _ _ h => h)).base hc; omega)).keep o7 (fun _ _ h => h)
  have E3' := ((E3.keep o5 (fun _ h => h.elim)).keepN k6 (fun c hc hB => by omega)).keep o7 (fun _ h => h.elim)
  have e8 := r29 (E5.S ow5) (E3'.S ow3') (by omega)
  rw [decide_eq_true rfl] at e8
  have gb1 : g1.get b = some (((layR vals 0).map (·.1)).map i64n) := k1.getE i2 (by omega)
  have gb4 := Old.get k4' gb1
  have go1 := Old.get o1 gob
  refine ⟨g1, g2, g3, g4, g5, g6, g7, g7, F, b, v1, v2, w1, w2, w3, ptr j6 0, v4, v5, ?_, ?_, c1, ?_, s1, e2, s2, e3, e4, e5, e6, e7, e8, x1⟩
  · rw [Nat.mul_one] at i1; exact i1
  · rintro g' (ho | rfl | rfl)
    · exact ld1_at (Old.get ho i2) hpl
    · exact ld1_at gb1 hpl
    · exact ld1_at gb4 hpl
  · rintro g' (rfl | rfl | rfl)
    · exact go1
    · exact Old.get o2 go1
    · exact Old.get k4' go1
end
set_option maxRecDepth 100000 in
theorem hides6 (a : Int) {h : Heap} {v : Value} {vals : List (List Nat)} {kind A B : Int} {m : Nat} {da ra : Option Addr} {dn dc rn rc : Nat} (R : RecsI h v vals) (hm : m < 256) (hA : inI64 A = true) (hB : inI64 B = true) :
    ∃ h', CD 6 [.int .i64 a, v, .agg #[.int .i64 kind, .int .i64 A, .int .i64 B, u8 m, .slice da dn dc, .slice ra rn rc]] h = some (.bool true, h') := by
  have key : ∃ h', t6 CD (.int .i64 a) v (.agg #[.int .i64 kind, .int .i64 A, .int .i64 B, u8 m, .slice da dn dc, .slice ra rn rc]) h = some (.bool true, h') := by
    have hbox : box (.agg #[.int .i64 kind, .int .i64 A, .int .i64 B, u8 m, .slice da dn dc, .slice ra rn rc]) h = some (ptr h.next 0, h.alloc [.int .i64 kind, .int .i64 A, .int .i64 B, u8 m, .slice da dn dc, .slice ra rn rc]) := rfl
    have R0 := R.old (Kept.alloc h [.int .i64 kind, .int .i64 A, .int .i64 B, u8 m, .slice da dn dc, .slice ra rn rc] _)
    have gob : (h.alloc [.int .i64 kind, .int .i64 A, .int .i64 B, u8 m, .slice da dn dc, .slice ra rn rc]).get h.next = some [.int .i64 kind, .int .i64 A, .int .i64 B, u8 m, .slice da dn dc, .slice ra rn rc] := by rw [Heap.get_alloc, if_pos rfl]
    unfold t6
    simp -implicitDefEqProofs only [hbox, thenV_some, bin_lss, pu_some, bOf_bool]
    generalize h.alloc [.int .i64 kind, .int .i64 A, .int .i64 B, u8 m, .slice da dn dc, .slice ra rn rc] = h0 at *
    generalize h.next = ob at *
    by_cases h1 : a < 4
    · simp -implicitDefEqProofs only [decide_eq_true h1, sf, guardK_false, thenV_some, if_true, bOf_bool, r14]
      exact ⟨_, rfl⟩
    by_cases h2 : a > 64
    · simp -implicitDefEqProofs only [decide_eq_false h1, beq_self_eq_true, sf, guardK_true, guardK_false, thenV_some, Bool.false_eq_true, if_false, if_true, bin_gtr, pu_some, bOf_bool, decide_eq_true h2, r14]
      exact ⟨_, rfl⟩
    obtain ⟨n, rfl⟩ : ∃ n : Nat, a = n := ⟨a.toNat, by omega⟩
    obtain ⟨l1, l2, l3⟩ := r17 R0.1 (n : Int)
    rw [decide_eq_false (show ¬ (64 : Int) < (n : Int) by omega), Bool.false_and, Bool.false_or] at l3
    cases hheavy : (decide (40 < vals.length) || vals.any fun r => decide (21000 < r.length)) with
    | true =>
      rw [hheavy] at l3
      simp -implicitDefEqProofs only [decide_eq_false h1, beq_self_eq_true, guardK_true, thenV_some, Bool.false_eq_true, if_false, bin_gtr, pu_some, bOf_bool, decide_eq_false h2, l1, l2, l3, r14]
      exact ⟨_, rfl⟩
    | false =>
      rw [hheavy] at l3
      rw [Bool.or_eq_false_iff] at hheavy
      have h40 : vals.length ≤ 40 := by
        have := of_decide_eq_false hheavy.1
        omega
      have h21 : ∀ r ∈ vals, r.length ≤ 100000 := by
        intro r hr
        have := List.any_eq_false.1 hheavy.2 r hr
        simp at this; omega
      have oA : Old h0 (h0.alloc [.int .i64 0, .int .i64 0, .int .i64 0, .int .u8 0, .slice none 0 0, v]) := Kept.alloc _ _ _
      simp -implicitDefEqProofs only [decide_eq_false h1, beq_self_eq_true, guardK_true, thenV_some, Bool.false_eq_true, if_false, bin_gtr, pu_some, bOf_bool, decide_eq_false h2, l1, l2, l3]
      generalize h0.alloc [.int .i64 0, .int .i64 0, .int .i64 0, .int .u8 0, .slice none 0 0, v] = hA0 at *
      have hnA : h0.next ≤ hA0.next := oA.next
      obtain ⟨d, D, j, v2, N2, g1, g2, e1, e2, x2, j2, o2, u2, f2, hDn, hDt, hlive, ok, ld, lj, lb, _, _⟩ := new_open hA0 (n := n) (by omega) (by omega)
      obtain ⟨w3, cl3, g3, e3, ow3, E3, o3⟩ := r24 ((R0.old oA).S.old o2) (by omega) h21
      have x3 := Old.dk o3 x2
      have j3 := j2.keep o3 (fun h => h)
      have hdl := x2.lt
      have hbl := x2.blt
      have hjl := j2.lt
      have hF : ∀ b, g2.next ≤ b → ¬ rwF j d D b := by
        intro b hb
        unfold rwF
        omega
      have hr4 := r23 x3 j3 (by omega) ok (E3.G ow3 hF hF) (by omega)
      unfold RwPost at hr4
      obtain ⟨w4, g4, e4, x4, b4, n4, j4, k4, ow4⟩ := hr4
      have o03 : Old h0 g3 := (oA.trans o2).trans o3
      have o04 : Old h0 g4 := o03.also k4 (fun c hc hB => by omega)
      have gob4 := Old.get o04 gob
      obtain ⟨la, lB, lm⟩ := ld_op gob4
      have hll := R0.S.len
      simp -implicitDefEqProofs only [e1, thenV_some, xt20, xt21, pu_some, e2, xt30, xt31, xt32, e3, e4, bin28n0]
      by_cases hE : (D.jn0 D.turn |>.rewrite D vals).1 = 0
      · have hne : ((D.jn0 D.turn |>.rewrite D vals).1 != 0) = false := by rw [hE]; rfl
        simp -implicitDefEqProofs only [hne, bOf_bool, beq_self_eq_true, guardK_true, thenV_some, addP_ptr, Nat.zero_add, pu_some, la, bin_lss, Bool.false_eq_true, if_false]
        by_cases c1 : A < 0
        · simp -implicitDefEqProofs only [decide_eq_true c1, sf, guardK_false, thenV_some, if_true, bOf_bool, chk_no, Bool.and_true, r14]
          exact ⟨_, rfl⟩
        simp -implicitDefEqProofs only [decide_eq_false c1, beq_self_eq_true, guardK_true, thenV_some, addP_ptr, Nat.zero_add, pu_some, la, hll, bin_geq, bOf_bool, Bool.false_eq_true, if_false]
        obtain ⟨k, rfl⟩ : ∃ k : Nat, A = k := ⟨A.toNat, by omega⟩
        by_cases c2 : (k : Int) ≥ (vals.length : Int)
        · simp -implicitDefEqProofs only [decide_eq_true c2, sf, guardK_false, thenV_some, if_true, bOf_bool, chk_no, Bool.and_true, r14]
          exact ⟨_, rfl⟩
        have hk : k < vals.length := by omega
        simp -implicitDefEqProofs only [decide_eq_false c2, beq_self_eq_true, guardK_true, thenV_some, addP_ptr, Nat.zero_add, pu_some, lB, bin_lss, bOf_bool, Bool.false_eq_true, if_false]
        by_cases c3 : B < 0
        · simp -implicitDefEqProofs only [decide_eq_true c3, sf, guardK_false, thenV_some, if_true, bOf_bool, chk_no, Bool.and_true, r14]
          exact ⟨_, rfl⟩
        obtain ⟨bn, rfl⟩ : ∃ bn : Nat, B = bn := ⟨B.toNat, by omega⟩
        obtain ⟨rb, rp, ai, ni, ci, hix, hld, hs⟩ := R0.S.at (List.getElem?_eq_getElem hk)
        have hld := hld _ o04
        rw [Nat.add_zero] at hld
        have hni := (sliceBytes_spec hs).1
        have hlen : lenL (.slice ai ni ci) = some (i64n ni) := rfl
        have hk21 := h21 _ (List.getElem_mem hk)
        have e15 := r15 ni g4 (by omega)
        have hcl := costN_room ni
        have hct : costN ni ≤ 1000 := by unfold costN; split <;> omega
        have hmul : bin Try.prog .mul 3 (.int .i64 128) (i64n (costN ni)) = some (i64n (128 * costN ni)) := mul3 (a := 128) (by omega)
        have hchk : chkR true (some (Value.int .i64 (bn : Int), g4)) (.int .i64 (bn : Int)) = true := chk_at rfl (by simp [veq])
        simp -implicitDefEqProofs only [decide_eq_false c3, beq_self_eq_true, guardK_true, thenV_some, addP_ptr, Nat.zero_add, pu_some, lB, la, hix, hld, hlen, e15, hmul, bin_geq, bOf_bool, Bool.false_eq_true, if_false, hchk, Bool.and_true]
        by_cases c4 : (bn : Int) ≥ ((128 * costN ni : Nat) : Int)
        · simp -implicitDefEqProofs only [decide_eq_true c4, sf, guardK_false, thenV_some, if_true, bOf_bool, r14]
          exact ⟨_, rfl⟩
        simp -implicitDefEqProofs only [decide_eq_false c4, beq_self_eq_true, guardK_true, thenV_some, addP_ptr, Nat.zero_add, pu_some, lm, bin5z, bOf_bool, Bool.false_eq_true, if_false]
        by_cases c5 : m = 0
        · have : (m == 0) = true := by rw [c5]; rfl
          simp -implicitDefEqProofs only [this, r14, thenV_some]
          exact ⟨_, rfl⟩
        have c5' : (m == 0) = false := beq_eq_false_iff_ne.2 c5
        obtain ⟨h20, htot, _⟩ := rewrite_ok hlive hE
        have hbyte := R.1.byte
        obtain ⟨E, s, hs0, hrw, al, H, sup, kn, fr⟩ := rewrite_up (J := D.jn0 D.turn) (vals := vals) u2 (by omega) hlive (fun r hr => ⟨h20 r hr, hbyte r hr⟩) htot (by show 0 < _; omega) ok (f2.knows (by omega))
        rw [hrw] at x4 j4 ow4 b4
        dsimp only at x4 j4 ow4 b4
        rw [List.length_map, layR_length] at ow4
        have hlJ : ({ turn := (D.jn0 D.turn).turn, slot := (D.jn0 D.turn).newSlot, area := (D.jn0 D.turn).newArea, gen := (D.jn0 D.turn).known + 1, known := (D.jn0 D.turn).known + 1, ready := true, fin := recsTot vals } : Jn).live E = true := by
          unfold Jn.live at hlive ⊢
          rw [al.down, al.turn]; exact hlive
        have n3 : g2.next ≤ g3.next := o3.next
        obtain ⟨q1, q2, q3, q4, q5, q6, q7, q8, F, b, v1, v2', w1, w2, w3', K, v4, v5, t1, t2, t3, t4, t5, t6, t7, t8, t9, t10, t11, t12, t13, t14⟩ :=
          hides_end R0 gob h40 h20 hm x4 j4 o04 (u2.alike al) hlJ ⟨rfl, by show (0 : Int) ≤ 0; omega⟩ H sup (by rw [al.n]; omega) (by rw [al.n]; omega) ow4 (by omega) (by rw [b4]; omega) (by omega) (by omega) (by rw [b4]; omega) (by omega) rfl hk rfl (by rw [hni]; omega) c5
        obtain ⟨la1, _, _⟩ := ld_op (t4 q1 (.inl rfl))
        obtain ⟨la2, _, _⟩ := ld_op (t4 q2 (.inr (.inl rfl)))
        obtain ⟨la4, _, _⟩ := ld_op (t4 q4 (.inr (.inr rfl)))
        have t2a := t2 g4 (.inl (Kept.refl _ _))
        have t2b := t2 q4 (.inr (.inr rfl))
        have hwl := ow4.len
        have hfit := H.fit
        have har : E.ar = (E.n - 2) / 2 := rfl
        have hle := recsTot_le vals k
        have hEn : E.n = n := al.n.trans hDn
        have s1 : bin Try.prog .add 3 (.int .i64 2) (i64n (recsTot (vals.take k))) = some (i64n (2 + recsTot (vals.take k))) := add3 (a := 2) (by omega)
        have s2 : bin Try.prog .quo 3 (.int .i64 (bn : Int)) (.int .i64 128) = some (i64n (bn / 128)) := by
          rw [bin_quo _ _ _ _ _ (by decide)]
          have : (bn : Int).tdiv 128 = ((bn / 128 : Nat) : Int) := by rw [Int.tdiv_eq_ediv_of_nonneg (by omega)]; rfl
          rw [this, wrap_i64 (by omega) (by omega)]
        have s3 : bin Try.prog .add 3 (i64n (2 + recsTot (vals.take k))) (i64n (bn / 128)) = some (i64n (2 + recsTot (vals.take k) + bn / 128)) := add3 (by omega)
        have s4 : bin Try.prog .rem 3 (.int .i64 (bn : Int)) (.int .i64 128) = some (.int .i64 ((bn % 128 : Nat) : Int)) := by
          rw [bin_rem _ _ _ _ _ (by decide)]
          have : (bn : Int).tmod 128 = ((bn % 128 : Nat) : Int) := by rw [Int.tmod_eq_emod_of_nonneg (by omega)]; rfl
          rw [this]
        have s5 : bin Try.prog .add 3 (.int .i64 (k : Int)) (.int .i64 1) = some (i64n (k + 1)) := add31 (by omega)
        have hchk2 : chkR true (some (Value.int .i64 (k : Int), q1)) (.int .i64 (k : Int)) = true := chk_at rfl (by simp [veq])
        simp -implicitDefEqProofs only [c5', thenV_some, hwl, pu_some, hll, bin3n, beq_self_eq_true, Bool.not_true, bOf_bool, guardK_true, addP_ptr, Nat.zero_add, la, lB, lm, t1, t2a, s1, s2, s3, s4, t3, bin28n0, bne_self_eq_false, Bool.false_eq_true, if_false,
          la1, la2, t5, t6, t7, t8, s5, t9, hchk2, Bool.and_true, la4, t2b, t10, xt20, xt21, t11, xt30, xt31, xt32, bin28e, if_true, t12, t13, r14]
        exact ⟨_, rfl⟩
      · have hne : ((D.jn0 D.turn |>.rewrite D vals).1 != 0) = true := by rw [bne_iff_ne]; exact hE
        simp -implicitDefEqProofs only [hne, bOf_bool, sf, guardK_false, thenV_some, if_true, chk_no, Bool.and_true, r14]
        exact ⟨_, rfl⟩
  obtain ⟨h', e⟩ := key
  exact ⟨h', CD_body is6 rfl ((t6_eq _ _ _ _ _).trans e)⟩
end Go.Proofs.Ytcmfgmhadeeieaa

