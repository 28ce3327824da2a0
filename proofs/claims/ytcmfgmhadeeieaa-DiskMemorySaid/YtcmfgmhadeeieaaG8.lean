/-
  DiskMemory: bytes that are overwritten; the loops.
  Conditions: as each theorem states.
  DiskMemory: the walk.
  Conditions: as each theorem states.
  DiskMemory: what it answers.
  Conditions: as each theorem states.
-/
import Derived.Test.YtcmfgmhadeeieaaG7
namespace Go.Proofs.Ytcmfgmhadeeieaa
open Go Go.Abs

/-- Slices of bytes stay slices of bytes. -/
def Bys (h h' : Heap) : Prop := ∀ (a : Option Addr) (n : Nat), (∃ l, sliceBytes a n h = some l) → ∃ l, sliceBytes a n h' = some l
/-- Nothing changes but bytes, and these in late blocks alone. -/
def Xr (N : Nat) (h h' : Heap) : Prop := Bys h h' ∧ Kept h h' (fun c => N ≤ c ∧ ¬ Plain h c)
theorem Xr.old {N : Nat} {h h' : Heap} (k : Old h h') : Xr N h h' := ⟨fun a n ⟨l, e⟩ => ⟨l, Old.bytes k e⟩, k.mono (fun c _ h => h.elim)⟩
theorem Xr.refl (N : Nat) (h : Heap) : Xr N h h := Xr.old (Kept.refl _ _)
theorem Xr.plain {N : Nat} {h h' : Heap} (x : Xr N h h') {b : Nat} {k : Blk} (g : h.get b = some k) (p : ∀ v ∈ k, nat8 v = none) : h'.get b = some k := x.2.getE g (fun hb => hb.2 ⟨k, g, p⟩)
theorem Xr.low {N : Nat} {h h' : Heap} (x : Xr N h h') {b : Nat} (hb : b < N) (hn : b < h.next) : h'.get b = h.get b := x.2.get b hn (fun h => by have := h.1; omega)
theorem Xr.trans {N M : Nat} {a b c : Heap} (x : Xr N a b) (y : Xr M b c) (h : N ≤ M) : Xr N a c := by
  refine ⟨fun q n e => y.1 q n (x.1 q n e), x.2.also y.2 ?_⟩
  rintro d hd ⟨h1, h2⟩
  refine ⟨by omega, fun ⟨k, g, p⟩ => h2 ⟨k, x.plain g p, p⟩⟩
theorem Xr.dk {N : Nat} {h h' : Heap} (x : Xr N h h') {d : Nat} {D : Dk} (k : IsDk h d D) (hd : d < N) (hb : D.bb < N) : IsDk h' d D := k.mono x.2.n0 (x.low hd k.lt) (x.low hb k.blt)
theorem Xr.jn {N : Nat} {h h' : Heap} (x : Xr N h h') {j d : Nat} {J : Jn} (k : IsJn h j d J) : IsJn h' j d J := ⟨x.plain k.get (J.plain d), x.2.n0 ▸ k.n0, k.area⟩
theorem Xr.own {N M size len : Nat} {h h' : Heap} (x : Xr N h h') {v : Value} {cells : List Value} (o : OwnC h M size v len cells) (p : ∀ v ∈ cells, nat8 v = none) : OwnC h' M size v len cells := by
  obtain ⟨h1, h2, h3, h4⟩ := o
  refine ⟨h1, h2, h3, ?_⟩
  rcases h4 with h4 | ⟨b, s, rfl, h5, h6 | ⟨h6, h7⟩⟩
  · exact .inl h4
  · exact .inr ⟨b, s, rfl, h5, .inl h6⟩
  · exact .inr ⟨b, s, rfl, h5, .inr ⟨h6, x.plain h7 p⟩⟩
theorem Xr.bytes {N : Nat} {h h' : Heap} (x : Xr N h h') {a : Option Addr} {n : Nat} {l : List Nat} (e : sliceBytes a n h = some l) (ha : ∀ y, a = some y → 0 < n → y.block < N) : sliceBytes a n h' = some l :=
  x.2.bytes e fun y hy hn hb => by have := ha y hy hn; have := hb.1; omega
theorem plain_i64 (l : List Nat) : ∀ v ∈ l.map i64n, nat8 v = none := by
  intro v hv
  obtain ⟨n, _, rfl⟩ := List.mem_map.1 hv
  rfl

/-- A byte is overwritten. -/
theorem bys_set {h : Heap} {b o w x : Nat} {k : Blk} (g : h.get b = some k) (h0 : h.n0 ≤ b) (ho : k[o]? = some (u8 x)) (hw : w < 256) : Bys h (h.set b (k.set o (u8 w))) := by
  rintro a n ⟨l, e⟩
  obtain ⟨h1, h2, h3⟩ := sliceBytes_spec e
  by_cases hn : n = 0
  · subst hn
    exact ⟨[], by
      cases a with
      | none => rfl
      | some a => obtain ⟨b', off, s⟩ := a; rfl⟩
  · obtain ⟨b', off, s, k', rfl, g', hlen, hc⟩ := h3 (by omega)
    by_cases hb : b' = b
    · subst hb
      rw [g] at g'
      cases g'
      refine ⟨(List.range n).map (fun i => if off + i = o then w else l.getD i 0), bytes_of_cells (Heap.get_set_same h0 g _) (by simp) ?_ ?_⟩
      · intro y hy
        obtain ⟨i, hi, rfl⟩ := List.mem_map.1 hy
        have hi := List.mem_range.1 hi
        split
        · exact hw
        · rw [List.getD_eq_getElem?_getD, List.getElem?_eq_getElem (by omega)]
          exact h2 _ (List.getElem_mem _)
      · intro i hi
        rw [List.getD_eq_getElem?_getD, List.getElem?_map, List.getElem?_range hi]
        simp only [Option.map_some, Option.getD_some]
        by_cases hq : off + i = o
        · rw [if_pos hq, hq, List.getElem?_set_self (List.getElem?_eq_some_iff.1 ho).1]
        · rw [if_neg hq, List.getElem?_set_ne (by omega), hc i hi]
    · refine ⟨l, ?_⟩
      rw [sliceBytes_congr (h := h) (fun y hy => by cases hy; exact Heap.get_set_other h0 (h.lt_of_get g) _ (by exact hb)), e]
theorem xor_step {N n c i : Nat} {g : Heap} {a : Option Addr} (hs : ∃ l, sliceBytes a n g = some l) (hi : i < n) (hN : ∀ y, a = some y → 0 < n → N ≤ y.block) (h0 : g.n0 ≤ N) :
    ∃ b p x g', idxS 1 (.slice a n c) (i64n i) = some (ptr b p) ∧ ld1 (ptr b p) g = some (u8 x, g) ∧ bin Try.prog .xor 5 (u8 x) (.int .u8 255) = some (u8 (x ^^^ 255)) ∧ stN 1 (ptr b p) (u8 (x ^^^ 255)) g = some (undef, g') ∧ Xr N g g' := by
  obtain ⟨l, e⟩ := hs
  obtain ⟨h1, h2, h3⟩ := sliceBytes_spec e
  obtain ⟨b, off, s, k, rfl, hk, hlen, hc⟩ := h3 (by omega)
  have hb : N ≤ b := hN _ rfl (by omega)
  have hx : l.getD i 0 < 256 := by
    rw [List.getD_eq_getElem?_getD, List.getElem?_eq_getElem (by omega)]
    exact h2 _ (List.getElem_mem _)
  obtain ⟨x1, x2⟩ := xor255 hx
  refine ⟨b, off + i, l.getD i 0, _, ?_, ld1_at hk (hc i hi) rfl, x1, stN1_at (v := u8 (l.getD i 0 ^^^ 255)) hk (by omega) (by omega) rfl rfl, bys_set hk (by omega) (hc i hi) x2, ?_⟩
  · unfold idxS
    simp only [i64n]
    rw [if_pos (by omega), Int.toNat_natCast, Nat.mul_one]
  · refine Kept.set (by omega) hk (.inr ⟨hb, fun ⟨k', g', p⟩ => ?_⟩)
    rw [hk] at g'
    cases g'
    have := p _ (List.mem_of_getElem? (hc i hi))
    unfold nat8 u8 at this
    rw [show ((l.getD i 0 : Nat) : Int) = Int.ofNat (l.getD i 0) from rfl] at this
    simp only [if_pos hx] at this
    cases this

/-- A list whose members are slices of bytes, whichever. -/
def RecsW (h : Heap) (N : Nat) (v : Value) (len sz o : Nat) : Prop :=
  ∃ a c, v = .slice a len c ∧ ∀ i, i < len → ∃ b f s k ai ni ci, a = some ⟨b, f, s⟩ ∧ h.get b = some k ∧ (∀ v ∈ k, nat8 v = none) ∧ k[f + i * sz + o]? = some (.slice ai ni ci) ∧ ni ≤ 100000 ∧ (∃ l, sliceBytes ai ni h = some l) ∧ ∀ y, ai = some y → 0 < ni → N ≤ y.block
theorem RecsW.xr {h h' : Heap} {N M : Nat} {v : Value} {len sz o : Nat} (R : RecsW h N v len sz o) (x : Xr M h h') : RecsW h' N v len sz o := by
  obtain ⟨a, c, rfl, hR⟩ := R
  refine ⟨a, c, rfl, fun i hi => ?_⟩
  obtain ⟨b, f, s, k, ai, ni, ci, h1, h2, h3, h4, h5, h6, h7⟩ := hR i hi
  exact ⟨b, f, s, k, ai, ni, ci, h1, x.plain h2 h3, h3, h4, h5, x.1 _ _ h6, h7⟩
theorem RecsW.len {h : Heap} {N : Nat} {v : Value} {len sz o : Nat} (R : RecsW h N v len sz o) : lenL v = some (i64n len) := by
  obtain ⟨a, c, rfl, hR⟩ := R
  rfl
theorem RecsW.at {h : Heap} {N : Nat} {v : Value} {len sz o : Nat} (R : RecsW h N v len sz o) {i : Nat} (hi : i < len) : ∃ b p ai ni ci, idxS sz v (i64n i) = some (ptr b p) ∧ (∀ M h', Xr M h h' → ld1 (ptr b (p + o)) h' = some (.slice ai ni ci, h')) ∧ ni ≤ 100000 ∧ (∃ l, sliceBytes ai ni h = some l) ∧ ∀ y, ai = some y → 0 < ni → N ≤ y.block := by
  obtain ⟨a, c, rfl, hR⟩ := R
  obtain ⟨b, f, s, k, ai, ni, ci, rfl, h2, h3, h4, h5, h6, h7⟩ := hR i hi
  refine ⟨b, f + i * sz, ai, ni, ci, ?_, fun M h' x => ld1_at (x.plain h2 h3) h4 rfl, h5, h6, h7⟩
  unfold idxS
  simp only [i64n]
  rw [if_pos (by omega), Int.toNat_natCast]
theorem RecsAt.W {h : Heap} {N N' : Nat} {v : Value} {cells : List Value} {vals : List (List Nat)} (E : RecsAt h N' cells vals) (o : OwnC h N 1 v vals.length cells) (h21 : ∀ r ∈ vals, r.length ≤ 100000) : RecsW h N' v vals.length 1 0 := by
  have pl := E.plain
  obtain ⟨_, _, _, ⟨rfl, h4⟩ | ⟨b, s, rfl, h5, ⟨rfl, h4⟩ | ⟨rfl, h6⟩⟩⟩ := o
  · exact ⟨none, 0, by rw [h4], fun i hi => by omega⟩
  · exact ⟨_, _, rfl, fun i hi => by omega⟩
  · refine ⟨_, _, rfl, fun i hi => ?_⟩
    obtain ⟨a, n, c, h2, h3, _, h7⟩ := E.2 i _ (List.getElem?_eq_getElem hi)
    have := h21 _ (List.getElem_mem hi)
    have := (sliceBytes_spec h3).1
    exact ⟨b, 0, _, cells, a, n, c, rfl, h6, pl, by rw [Nat.zero_add, Nat.mul_one]; exact h2, by omega, ⟨_, h3⟩, h7⟩
theorem EntsAt.W {h : Heap} {N N' : Nat} {v : Value} {cells : List Value} {ents : List (Nat × List Nat)} (E : EntsAt h N' cells ents) (o : OwnC h N 2 v ents.length cells) (h21 : ∀ e ∈ ents, e.2.length ≤ 100000) : RecsW h N' v ents.length 2 1 := by
  have pl := E.plain
  obtain ⟨_, _, _, ⟨rfl, h4⟩ | ⟨b, s, rfl, h5, ⟨rfl, h4⟩ | ⟨rfl, h6⟩⟩⟩ := o
  · exact ⟨none, 0, by rw [h4], fun i hi => by omega⟩
  · exact ⟨_, _, rfl, fun i hi => by omega⟩
  · refine ⟨_, _, rfl, fun i hi => ?_⟩
    obtain ⟨_, a, n, c, h2, h3, _, h7⟩ := E.2 i _ (List.getElem?_eq_getElem hi)
    have := h21 _ (List.getElem_mem hi)
    have := (sliceBytes_spec h3).1
    exact ⟨b, 0, _, cells, a, n, c, rfl, h6, pl, by rw [Nat.zero_add, Nat.mul_comm]; exact h2, by omega, ⟨_, h3⟩, h7⟩

/-- The registers that the loops leave. -/
def Same7 (x y : Nat → Value) : Prop := y 1 = x 1 ∧ y 5 = x 5 ∧ y 7 = x 7 ∧ y 10 = x 10 ∧ y 11 = x 11 ∧ y 15 = x 15 ∧ y 21 = x 21
theorem Same7.refl (x : Nat → Value) : Same7 x x := ⟨rfl, rfl, rfl, rfl, rfl, rfl, rfl⟩
theorem Same7.trans {x y z : Nat → Value} (a : Same7 x y) (b : Same7 y z) : Same7 x z := by
  obtain ⟨a1, a2, a3, a4, a5, a6, a7⟩ := a
  obtain ⟨b1, b2, b3, b4, b5, b6, b7⟩ := b
  exact ⟨b1.trans a1, b2.trans a2, b3.trans a3, b4.trans a4, b5.trans a5, b6.trans a6, b7.trans a7⟩

section
variable {N : Nat}
/-- The bytes of one record of the argument's copy. -/
theorem inA (X : Nat → Value) (g0 : Heap) {v : Value} {len i : Nat} (R : RecsW g0 N v len 1 0) (hi : i < len) (h0 : g0.n0 ≤ N) (x10 : X 10 = v) (x13 : X 13 = i64n i) (x14 : X 14 = i64n 0) :
    Fin 189 (fun ex y g => ex = .exit 2 ∧ Same7 X y ∧ y 13 = X 13 ∧ Xr N g0 g) (iter (codeA Try.prog CD (partOf Try.f7 [1, 1, 1, 1, 1, 1, 1, 0, 1, 0, 0, 1, 0, 0, 1, 0, 0])) rounds (mkF 189 X) g0) := by
  obtain ⟨b, p, ai, ni, ci, hix, hld, hni, hs, hN⟩ := R.at hi
  have hll : lenL (.slice ai ni ci) = some (i64n ni) := rfl
  refine loop_fin (t7l7_1111111010010010_eq CD) (Inv := fun k y g => ∃ q, q + k = ni ∧ y 14 = i64n q ∧ y 13 = X 13 ∧ Same7 X y ∧ Xr N g0 g) ?_ ni (by have : rounds = 18446744073709551616 := rfl; omega) ⟨0, Nat.zero_add _, x14, rfl, Same7.refl _, Xr.refl _ _⟩
  rintro k y g ⟨q, hqk, y14, y13, hS, hX⟩
  have hld := hld _ _ hX
  rw [Nat.add_zero] at hld
  have y10 := hS.2.2.2.1.trans x10
  unfold t7l7_1111111010010010
  simp -implicitDefEqProofs only [y14, y10, y13, x13, thenV_some, hix, pu_some, hld, hll, lss3]
  by_cases hq : q < ni
  · obtain ⟨b', p', x, g', s1, s2, s3, s4, s5⟩ := xor_step (c := ci) (hX.1 _ _ hs) hq hN (by rw [hX.2.n0]; exact h0)
    simp -implicitDefEqProofs only [decide_eq_true hq, thenV_some, hix, pu_some, hld, s1, s2, s3, s4, add31 (show q + 1 ≤ 9223372036854775807 by omega)]
    exact Rnd.next (k - 1) (by omega) ⟨q + 1, by omega, rfl, y13.trans x13, hS, hX.trans s5 (Nat.le_refl _)⟩
  · simp -implicitDefEqProofs only [decide_eq_false hq]
    exact Rnd.out 2 ⟨rfl, hS, y13.trans x13, hX⟩
/-- The bytes that ReadAt returned. -/
theorem inB (X : Nat → Value) (g0 : Heap) {a : Option Addr} {n c : Nat} (hs : ∃ l, sliceBytes a n g0 = some l) (hN : ∀ y, a = some y → 0 < n → N ≤ y.block) (hn : n ≤ 100000) (h0 : g0.n0 ≤ N) (x17 : X 17 = .slice a n c) (x19 : X 19 = i64n 0) :
    Fin 189 (fun ex y g => ex = .exit 6 ∧ Same7 X y ∧ y 16 = X 16 ∧ Xr N g0 g) (iter (codeA Try.prog CD (partOf Try.f7 [1, 1, 1, 1, 1, 1, 1, 1, 1, 0, 1, 0, 0, 1, 0, 0, 1, 1, 0, 0])) rounds (mkF 189 X) g0) := by
  have hll : lenL (.slice a n c) = some (i64n n) := rfl
  refine loop_fin (t7l7_1111111110100100110_eq CD) (Inv := fun k y g => ∃ q, q + k = n ∧ y 19 = i64n q ∧ y 17 = X 17 ∧ y 16 = X 16 ∧ Same7 X y ∧ Xr N g0 g) ?_ n (by have : rounds = 18446744073709551616 := rfl; omega) ⟨0, Nat.zero_add _, x19, rfl, rfl, Same7.refl _, Xr.refl _ _⟩
  rintro k y g ⟨q, hqk, y19, y17, y16, hS, hX⟩
  unfold t7l7_1111111110100100110
  simp -implicitDefEqProofs only [y19, y17, x17, thenV_some, pu_some, hll, lss3]
  by_cases hq : q < n
  · obtain ⟨b', p', x, g', s1, s2, s3, s4, s5⟩ := xor_step (c := c) (hX.1 _ _ hs) hq hN (by rw [hX.2.n0]; exact h0)
    simp -implicitDefEqProofs only [decide_eq_true hq, thenV_some, pu_some, s1, s2, s3, s4, add31 (show q + 1 ≤ 9223372036854775807 by omega)]
    exact Rnd.next (k - 1) (by omega) ⟨q + 1, by omega, rfl, y17.trans x17, y16, hS, hX.trans s5 (Nat.le_refl _)⟩
  · simp -implicitDefEqProofs only [decide_eq_false hq]
    exact Rnd.out 6 ⟨rfl, hS, y16, hX⟩
/-- The bytes of the image. -/
theorem inC (X : Nat → Value) (g0 : Heap) {a : Option Addr} {n c : Nat} (hs : ∃ l, sliceBytes a n g0 = some l) (hN : ∀ y, a = some y → 0 < n → N ≤ y.block) (hn : n ≤ 1000000) (h0 : g0.n0 ≤ N) (x15 : X 15 = .slice a n c) (x23 : X 23 = i64n 0) :
    Fin 189 (fun ex y g => ex = .exit 8 ∧ Same7 X y ∧ Xr N g0 g) (iter (codeA Try.prog CD (partOf Try.f7 [1, 1, 1, 1, 1, 1, 1, 1, 1, 1, 1, 1, 0, 1, 0, 0])) rounds (mkF 189 X) g0) := by
  have hll : lenL (.slice a n c) = some (i64n n) := rfl
  refine loop_fin (t7l7_111111111111010_eq CD) (Inv := fun k y g => ∃ q, q + k = n ∧ y 23 = i64n q ∧ Same7 X y ∧ Xr N g0 g) ?_ n (by have : rounds = 18446744073709551616 := rfl; omega) ⟨0, Nat.zero_add _, x23, Same7.refl _, Xr.refl _ _⟩
  rintro k y g ⟨q, hqk, y23, hS, hX⟩
  have y15 := hS.2.2.2.2.2.1.trans x15
  unfold t7l7_111111111111010
  simp -implicitDefEqProofs only [y23, y15, thenV_some, pu_some, hll, lss3]
  by_cases hq : q < n
  · obtain ⟨b', p', x, g', s1, s2, s3, s4, s5⟩ := xor_step (c := c) (hX.1 _ _ hs) hq hN (by rw [hX.2.n0]; exact h0)
    simp -implicitDefEqProofs only [decide_eq_true hq, thenV_some, pu_some, s1, s2, s3, s4, add31 (show q + 1 ≤ 9223372036854775807 by omega)]
    exact Rnd.next (k - 1) (by omega) ⟨q + 1, by omega, rfl, hS, hX.trans s5 (Nat.le_refl _)⟩
  · simp -implicitDefEqProofs only [decide_eq_false hq]
    exact Rnd.out 8 ⟨rfl, hS, hX⟩
/-- The bytes of one entry. -/
theorem inD (X : Nat → Value) (g0 : Heap) {v : Value} {len i : Nat} (R : RecsW g0 N v len 2 1) (hi : i < len) (h0 : g0.n0 ≤ N) (x21 : X 21 = v) (x24 : X 24 = i64n i) (x25 : X 25 = i64n 0) :
    Fin 189 (fun ex y g => ex = .exit 12 ∧ Same7 X y ∧ y 24 = X 24 ∧ Xr N g0 g) (iter (codeA Try.prog CD (partOf Try.f7 [1, 1, 1, 1, 1, 1, 1, 1, 1, 1, 1, 1, 1, 0, 1, 0, 0, 1, 0, 0, 1, 0, 0])) rounds (mkF 189 X) g0) := by
  obtain ⟨b, p, ai, ni, ci, hix, hld, hni, hs, hN⟩ := R.at hi
  have hll : lenL (.slice ai ni ci) = some (i64n ni) := rfl
  refine loop_fin (t7l7_1111111111111010010010_eq CD) (Inv := fun k y g => ∃ q, q + k = ni ∧ y 25 = i64n q ∧ y 24 = X 24 ∧ Same7 X y ∧ Xr N g0 g) ?_ ni (by have : rounds = 18446744073709551616 := rfl; omega) ⟨0, Nat.zero_add _, x25, rfl, Same7.refl _, Xr.refl _ _⟩
  rintro k y g ⟨q, hqk, y25, y24, hS, hX⟩
  have hld := hld _ _ hX
  have y21 := hS.2.2.2.2.2.2.trans x21
  unfold t7l7_1111111111111010010010
  simp -implicitDefEqProofs only [y25, y21, y24, x24, thenV_some, hix, pu_some, addP_ptr, hld, hll, lss3]
  by_cases hq : q < ni
  · obtain ⟨b', p', x, g', s1, s2, s3, s4, s5⟩ := xor_step (c := ci) (hX.1 _ _ hs) hq hN (by rw [hX.2.n0]; exact h0)
    simp -implicitDefEqProofs only [decide_eq_true hq, thenV_some, hix, pu_some, addP_ptr, hld, s1, s2, s3, s4, add31 (show q + 1 ≤ 9223372036854775807 by omega)]
    exact Rnd.next (k - 1) (by omega) ⟨q + 1, by omega, rfl, y24.trans x24, hS, hX.trans s5 (Nat.le_refl _)⟩
  · simp -implicitDefEqProofs only [decide_eq_false hq]
    exact Rnd.out 12 ⟨rfl, hS, y24.trans x24, hX⟩
/-- All records of the argument's copy. -/
theorem outA (X : Nat → Value) (g0 : Heap) {v : Value} {len : Nat} (R : RecsW g0 N v len 1 0) (hn : len ≤ 100000) (h0 : g0.n0 ≤ N) (x10 : X 10 = v) (x13 : X 13 = i64n 0) :
    Fin 189 (fun ex y g => ex = .exit 0 ∧ Same7 X y ∧ Xr N g0 g) (iter (codeA Try.prog CD (partOf Try.f7 [1, 1, 1, 1, 1, 1, 1, 0, 1, 0, 0])) rounds (mkF 189 X) g0) := by
  have hll := R.len
  refine loop_fin (t7l7_1111111010_eq CD) (Inv := fun k y g => ∃ q, q + k = len ∧ y 13 = i64n q ∧ Same7 X y ∧ Xr N g0 g) ?_ len (by have : rounds = 18446744073709551616 := rfl; omega) ⟨0, Nat.zero_add _, x13, Same7.refl _, Xr.refl _ _⟩
  rintro k y g ⟨q, hqk, y13, hS, hX⟩
  have y10 := hS.2.2.2.1.trans x10
  unfold t7l7_1111111010
  simp -implicitDefEqProofs only [y13, y10, thenV_some, pu_some, hll, lss3]
  by_cases hq : q < len
  · simp -implicitDefEqProofs only [decide_eq_true hq, thenV_some]
    refine endL_fin (inA (N := N) _ g (R.xr hX) hq (by rw [hX.2.n0]; exact h0) y10 y13 rfl) ?_
    rintro ex z g' ⟨rfl, hZ, z13, hX2⟩
    simp -implicitDefEqProofs only [endL_exit, b7_23, if_true, t7k7_20_eq]
    unfold t7k7_20
    have z13 : z 13 = i64n q := z13.trans y13
    simp -implicitDefEqProofs only [z13, thenV_some, pu_some, add31 (show q + 1 ≤ 9223372036854775807 by omega)]
    exact Rnd.next (k - 1) (by omega) ⟨q + 1, by omega, rfl, hS.trans hZ, hX.trans hX2 (Nat.le_refl _)⟩
  · simp -implicitDefEqProofs only [decide_eq_false hq]
    exact Rnd.out 0 ⟨rfl, hS, hX⟩
/-- All entries. -/
theorem outD (X : Nat → Value) (g0 : Heap) {v : Value} {len : Nat} (R : RecsW g0 N v len 2 1) (hn : len ≤ 100000) (h0 : g0.n0 ≤ N) (x21 : X 21 = v) (x24 : X 24 = i64n 0) :
    Fin 189 (fun ex y g => ex = .exit 10 ∧ Same7 X y ∧ Xr N g0 g) (iter (codeA Try.prog CD (partOf Try.f7 [1, 1, 1, 1, 1, 1, 1, 1, 1, 1, 1, 1, 1, 0, 1, 0, 0])) rounds (mkF 189 X) g0) := by
  have hll := R.len
  refine loop_fin (t7l7_1111111111111010_eq CD) (Inv := fun k y g => ∃ q, q + k = len ∧ y 24 = i64n q ∧ Same7 X y ∧ Xr N g0 g) ?_ len (by have : rounds = 18446744073709551616 := rfl; omega) ⟨0, Nat.zero_add _, x24, Same7.refl _, Xr.refl _ _⟩
  rintro k y g ⟨q, hqk, y24, hS, hX⟩
  have y21 := hS.2.2.2.2.2.2.trans x21
  unfold t7l7_1111111111111010
  simp -implicitDefEqProofs only [y24, y21, thenV_some, pu_some, hll, lss3]
  by_cases hq : q < len
  · simp -implicitDefEqProofs only [decide_eq_true hq, thenV_some]
    refine endL_fin (inD (N := N) _ g (R.xr hX) hq (by rw [hX.2.n0]; exact h0) y21 y24 rfl) ?_
    rintro ex z g' ⟨rfl, hZ, z24, hX2⟩
    simp -implicitDefEqProofs only [endL_exit, b7_61, if_true, t7k7_58_eq]
    unfold t7k7_58
    have z24 : z 24 = i64n q := z24.trans y24
    simp -implicitDefEqProofs only [z24, thenV_some, pu_some, add31 (show q + 1 ≤ 9223372036854775807 by omega)]
    exact Rnd.next (k - 1) (by omega) ⟨q + 1, by omega, rfl, hS.trans hZ, hX.trans hX2 (Nat.le_refl _)⟩
  · simp -implicitDefEqProofs only [decide_eq_false hq]
    exact Rnd.out 10 ⟨rfl, hS, hX⟩
end
end Go.Proofs.Ytcmfgmhadeeieaa

namespace Go.Proofs.Ytcmfgmhadeeieaa
open Go Go.Abs

theorem Xr.still {N : Nat} {a h h' : Heap} (x : Xr N h h') (o : Old a h) (hN : a.next ≤ N) : Old a h' := o.also x.2 (fun c hc hB => by have := hB.1; omega)
theorem is7 : IsFn Try.prog 7 Try.f7 := ⟨by kernel_rfl, by kernel_rfl, by kernel_rfl, by kernel_rfl⟩
theorem str_ne (l : List Nat) : (!((strOf l).toList == (strOf l).toList)) = false := by simp
theorem Sup.op {E : Dk} {s area gen : Nat} (p : Sup E s area gen) : Sup E.opened s area gen := ⟨p.s, p.ok, p.g, p.a, p.other⟩
theorem Has.op {E : Dk} {area gen : Nat} {vals : List (List Nat)} (p : Has E area gen vals) : Has E.opened area gen vals := ⟨p.a, p.g, p.ok, p.fit, p.placed, p.rest⟩

section
variable {h0 : Heap} {v : Value} {vals : List (List Nat)} {d : Nat}
/-- All positions. -/
theorem outB (X : Nat → Value) (g0 : Heap) {E : Dk} {J : Jn} {j M : Nat} {w : Value} (x : IsDk g0 d E) (xj : IsJn g0 j d J) (hl : J.live E = true) (hs : 0 ≤ J.slot) (h2 : 2 ≤ E.n) (H : Has E J.area J.gen vals) (own : OwnC g0 M 1 w vals.length (((layR vals 0).map (·.1)).map i64n)) (h40 : vals.length ≤ 40)
    (x7 : X 7 = ptr j 0) (x11 : X 11 = w) (x16 : X 16 = i64n 0) :
    Fin 189 (fun ex y g => ex = .exit 4 ∧ Same7 X y ∧ Xr g0.next g0 g) (iter (codeA Try.prog CD (partOf Try.f7 [1, 1, 1, 1, 1, 1, 1, 1, 1, 0, 1, 0, 0])) rounds (mkF 189 X) g0) := by
  have hll := own.len
  have hsm := x.small
  have har : E.ar = (E.n - 2) / 2 := rfl
  refine loop_fin (t7l7_111111111010_eq CD) (Inv := fun k y g => ∃ q, q + k = vals.length ∧ y 16 = i64n q ∧ Same7 X y ∧ Xr g0.next g0 g) ?_ vals.length (by have : rounds = 18446744073709551616 := rfl; omega) ⟨0, Nat.zero_add _, x16, Same7.refl _, Xr.refl _ _⟩
  rintro k y g ⟨q, hqk, y16, hS, hX⟩
  have y7 := hS.2.2.1.trans x7
  have y11 := hS.2.2.2.2.1.trans x11
  unfold t7l7_111111111010
  simp -implicitDefEqProofs only [y16, y11, thenV_some, pu_some, hll, lss3]
  by_cases hq : q < vals.length
  · have xg := hX.dk x x.lt x.blt
    have jg := hX.jn xj
    obtain ⟨b, i1, i2, _, _⟩ := (hX.own own (plain_i64 _)).at hq
    have hpl : (((layR vals 0).map (·.1)).map i64n)[q]? = some (i64n (recsTot (vals.take q))) := by
      rw [List.getElem?_map, List.getElem?_map, layR_at vals 0 q hq, Nat.zero_add]; rfl
    have hld : ld1 (ptr b (q * 1)) g = some (i64n (recsTot (vals.take q)), g) := ld1_at i2 (by rw [Nat.mul_one]; exact hpl) rfl
    obtain ⟨e1, e2, e3, e4⟩ := H.at hs (by omega) (List.mem_of_getElem? (layR_at vals 0 q hq))
    rw [Nat.zero_add] at e1 e2 e3 e4
    dsimp only at e1 e2 e3 e4
    obtain ⟨u, g1, c1, o1, ow1⟩ := r28_yes xg jg h2 (at_ := recsTot (vals.take q)) hl e2
    rw [e3, e4] at ow1
    obtain ⟨a, c, rfl, s1, _, s3, _⟩ := ow1.bytes
    have hr : (vals.getD q []).length ≤ 20000 := by
      rw [List.getD_eq_getElem?_getD, List.getElem?_eq_getElem hq]
      exact (H.ok _ (List.getElem_mem hq)).1
    have X1 : Xr g0.next g0 g1 := hX.trans (Xr.old (N := g0.next) o1) (Nat.le_refl _)
    have hN : g0.next ≤ g.next := hX.2.next
    simp -implicitDefEqProofs only [decide_eq_true hq, thenV_some, pu_some, y7, i1, hld, c1, xt20, xt21]
    refine endL_fin (inB (N := g0.next) _ g1 ⟨_, s1⟩ (fun y hy _ => Nat.le_trans hN (s3 y hy)) (by omega) (by rw [X1.2.n0]; exact g0.n0_le_next) rfl rfl) ?_
    rintro ex z g' ⟨rfl, hZ, z16, hX2⟩
    simp -implicitDefEqProofs only [endL_exit, b7_38, if_true, t7k7_34_eq]
    unfold t7k7_34
    have z16 : z 16 = i64n q := z16.trans y16
    simp -implicitDefEqProofs only [z16, thenV_some, pu_some, add31 (show q + 1 ≤ 9223372036854775807 by omega)]
    exact Rnd.next (k - 1) (by omega) ⟨q + 1, by omega, rfl, hS.trans hZ, X1.trans hX2 (Nat.le_refl _)⟩
  · simp -implicitDefEqProofs only [decide_eq_false hq]
    exact Rnd.out 4 ⟨rfl, hS, hX⟩

/-- Open, and the records that it finds. -/
theorem open_same (R : RecsI h0 v vals) (h40 : vals.length ≤ 40) {g : Heap} {E : Dk} {s area gen : Nat} (old : Old h0 g) (x : IsDk g d E) (hd : E.down = false) (h2 : 2 ≤ E.n) (H : Has E area gen vals) (sup : Sup E s area gen) (hdh : h0.next ≤ d) :
    ∃ K w cells N g1 u g2, CD 21 [ptr d 0] g = some (.tuple #[K, w, .int .i64 0], g1) ∧ CD 30 [w] g1 = some (u, g2) ∧ CD 29 [u, v] g2 = some (.bool true, g2) ∧ IsDk g1 d E.opened ∧ Kept g g1 (fun c => c = d) ∧ Old g1 g2 ∧ OwnC g1 N 2 w (layR vals 0).length cells ∧ EntsAt g1 N cells (layR vals 0) ∧ g.next ≤ N := by
  have hsm := x.small
  have har : E.ar = (E.n - 2) / 2 := rfl
  obtain ⟨j, w, cells, N, g1, e1, x1, _, ow, En, k1, l1, l2, l3⟩ := r21 x h2 hd
  rw [Has.entries sup H (by omega)] at ow En
  have S := En.S ow
  rw [layR_snd] at S
  obtain ⟨u, cl, g2, e2, ou, Eu, o2⟩ := r30 S (by omega) (fun r hr => by have := (H.ok r hr).1; omega)
  have old2 : Old h0 g2 := (old.also k1 (fun c hc hB => by omega)).trans o2
  have e3 := r29 (Eu.S ou) (R.old old2).S (by omega)
  rw [decide_eq_true rfl] at e3
  have := x.lt
  exact ⟨_, w, cells, N, g1, u, g2, e1, e2, e3, x1, k1, o2, ow, En, by omega⟩

/-- The last part. -/
theorem mem_43 (R : RecsI h0 v vals) (h40 : vals.length ≤ 40) (X : Nat → Value) {g : Heap} {E : Dk} {s area gen : Nat} (old : Old h0 g) (x : IsDk g d E) (hd : E.down = false) (h2 : 2 ≤ E.n) (H : Has E area gen vals) (sup : Sup E s area gen) (hdh : h0.next ≤ d) (x5 : X 5 = ptr d 0) (x1 : X 1 = v) :
    ∃ g', t7k7_43 CD X g = some (.bool true, g') := by
  obtain ⟨K, w, cells, N, g1, u, g2, e1, e2, e3, _⟩ := open_same R h40 old x hd h2 H sup hdh
  unfold t7k7_43
  simp -implicitDefEqProofs only [x5, x1, thenV_some, e1, pu_some, xt30, xt31, xt32, bin28e, beq_self_eq_true, bOf_bool, guardK_true, if_true, e2, e3, r14]
  exact ⟨_, rfl⟩
/-- From the image's loop on. -/
theorem mem_29 (R : RecsI h0 v vals) (h40 : vals.length ≤ 40) (X : Nat → Value) {g : Heap} {E : Dk} {s area gen N M len : Nat} {w : Value} (old : Old h0 g) (x : IsDk g d E) (hd : E.down = false) (h2 : 2 ≤ E.n) (H : Has E area gen vals) (sup : Sup E s area gen) (hdh : h0.next ≤ d) (x5 : X 5 = ptr d 0) (x1 : X 1 = v)
    (hdN : d < N) (hbN : E.bb < N) (hn0 : g.n0 ≤ N) (hN : h0.next ≤ N) (W : RecsW g N w len 2 1) (hlen : len ≤ 40) (x21 : X 21 = w) :
    ∃ g', t7k7_29 CD X g = some (.bool true, g') := by
  unfold t7k7_29
  simp -implicitDefEqProofs only [thenV_some]
  refine endL_fin (Q := fun o : Out => ∃ g', o = some (Value.bool true, g')) (outD (N := N) _ g W (by omega) hn0 x21 rfl) ?_
  rintro ex z g' ⟨rfl, hZ, hX⟩
  simp -implicitDefEqProofs only [endL_exit, b7_45, if_true, t7k7_43_eq]
  exact mem_43 R h40 z (hX.still old hN) (hX.dk x hdN hbN) hd h2 H sup hdh (hZ.2.1.trans x5) (hZ.1.trans x1)
set_option maxRecDepth 100000 in
/-- From the second Open on. -/
theorem mem_15 (R : RecsI h0 v vals) (h40 : vals.length ≤ 40) (X : Nat → Value) {g : Heap} {E : Dk} {s area gen N : Nat} {a : Option Addr} {c : Nat} (old : Old h0 g) (x : IsDk g d E) (hd : E.down = false) (h2 : 2 ≤ E.n) (H : Has E area gen vals) (sup : Sup E s area gen) (hdh : h0.next ≤ d) (x5 : X 5 = ptr d 0) (x1 : X 1 = v)
    (hdN : d < N) (hbN : E.bb < N) (hn0 : g.n0 ≤ N) (hN : h0.next ≤ N) (hbh : h0.next ≤ E.bb) (x15 : X 15 = .slice a (128 * E.n) c) (hs : sliceBytes a (128 * E.n) g = some E.img) (ha : ∀ y, a = some y → N ≤ y.block) (hn64 : E.n ≤ 64) :
    ∃ g', t7k7_15 CD X g = some (.bool true, g') := by
  obtain ⟨K, w, cells, N2, g1, u, g2, e1, e2, e3, x1', k1, o2, ow, En, hgN⟩ := open_same R h40 old x hd h2 H sup hdh
  have x2 := Old.dk o2 x1'
  obtain ⟨a5, c5, g5, e5, s5, _, _, o5⟩ := r25 x2
  have hs1 : sliceBytes a (128 * E.n) g1 = some E.img := k1.bytes hs (fun y hy _ hB => by have := ha y hy; omega)
  have hs2 := Old.bytes o2 hs1
  have hs5 := Old.bytes o5 hs2
  have cv := cvBS_at (c := c) hs2
  have cv5 := cvBS_at (c := c) hs5
  have cv6 : cvBS (.slice a5 (128 * E.n) c5) g5 = some (.string (strOf E.img), g5) := cvBS_at (c := c5) s5
  have e5 : CD 25 [ptr d 0] g2 = some (.slice a5 (128 * E.n) c5, g5) := e5
  have hchk : chkR true (some (Value.string (strOf E.img), g5)) (.string (strOf E.img)) = true := chk_at rfl (by simp [veq])
  have old5 : Old h0 g5 := ((old.also k1 (fun c hc hB => by omega)).trans o2).trans o5
  have x5' := Old.dk o5 x2
  have ho : E.opened.n = E.n := rfl
  have hoi : E.opened.img = E.img := rfl
  have run : ∀ Z : Nat → Value, Z 15 = .slice a (128 * E.n) c → Z 23 = i64n 0 → Z 5 = ptr d 0 → Z 1 = v → Z 21 = w →
      ∃ g', endL (iter (codeA Try.prog CD (partOf Try.f7 [1, 1, 1, 1, 1, 1, 1, 1, 1, 1, 1, 1, 0, 1, 0, 0])) rounds (mkF 189 Z) g5) (resultsA Try.prog Try.f7.results.toList) (b7_31 CD) = some (.bool true, g') := by
    intro Z z15 z23 z5 z1 z21
    refine endL_fin (Q := fun o : Out => ∃ g', o = some (Value.bool true, g')) (inC (N := N) Z g5 (c := c) ⟨_, hs5⟩ (fun y hy _ => ha y hy) (by omega) (by rw [o5.n0, o2.n0, k1.n0]; exact hn0) z15 z23) ?_
    rintro ex z g' ⟨rfl, hZ, hX⟩
    simp -implicitDefEqProofs only [endL_exit, b7_31, if_true, t7k7_29_eq]
    have hlay : (layR vals 0).length = vals.length := layR_length _ _
    have W1 : RecsW g1 N2 w (layR vals 0).length 2 1 := En.W ow (fun e he => by have := (H.ok _ (lay_bound _ _ _ he).2.2).1; omega)
    have W5 := (W1.xr (Xr.old (N := N) (o2.trans o5))).xr hX
    have hmin : RecsW g' (min N N2) w (layR vals 0).length 2 1 := by
      obtain ⟨a, c, rfl, hR⟩ := W5
      refine ⟨a, c, rfl, fun i hi => ?_⟩
      obtain ⟨b, f, s, k, ai, ni, ci, q1, q2, q3, q4, q5, q6, q7⟩ := hR i hi
      exact ⟨b, f, s, k, ai, ni, ci, q1, q2, q3, q4, q5, q6, fun y hy hn => by have := q7 y hy hn; omega⟩
    have hd2 := x.lt
    have hb2 := x.blt
    have x6 := hX.dk x5' hdN (show E.opened.bb < N from hbN)
    have hn5 : g'.n0 = g.n0 := by rw [hX.2.n0, o5.n0, o2.n0, k1.n0]
    have hgn := g.n0_le_next
    have hon := old.next
    have hE : E.opened.bb = E.bb := rfl
    exact mem_29 (N := min N N2) (M := 0) R h40 z (hX.still old5 hN) x6 hd h2 H.op sup.op hdh (hZ.2.1.trans z5) (hZ.1.trans z1) (by omega) (by omega) (by omega) (by omega) hmin (by omega) (hZ.2.2.2.2.2.2.trans z21)

  unfold t7k7_15
  simp -implicitDefEqProofs only [x5, x1, x15, thenV_some, e1, pu_some, xt30, xt31, xt32, e2, e3, unA_not, Bool.not_true, bOf_bool, beq_self_eq_true, guardK_true, cv, e5, cv6, bin_str_neq, str_ne, Bool.false_eq_true, if_false, cv5, hchk, Bool.and_true]
  exact run _ x15 rfl x5 x1 rfl
end
end Go.Proofs.Ytcmfgmhadeeieaa

namespace Go.Proofs.Ytcmfgmhadeeieaa
open Go Go.Abs

/-- The first image and the loop over the positions. -/
theorem mem_11 {h0 : Heap} {v : Value} {vals : List (List Nat)} {d : Nat} (R : RecsI h0 v vals) (h40 : vals.length ≤ 40) (X : Nat → Value) {g : Heap} {E : Dk} {J : Jn} {s j M : Nat} {w : Value} (old : Old h0 g) (x : IsDk g d E) (xj : IsJn g j d J) (hl : J.live E = true) (hs : 0 ≤ J.slot) (hd : E.down = false) (h2 : 2 ≤ E.n) (hn64 : E.n ≤ 64)
    (H : Has E J.area J.gen vals) (sup : Sup E s J.area J.gen) (own : OwnC g M 1 w vals.length (((layR vals 0).map (·.1)).map i64n)) (hdh : h0.next ≤ d) (hbh : h0.next ≤ E.bb) (x5 : X 5 = ptr d 0) (x7 : X 7 = ptr j 0) (x1 : X 1 = v) (x11 : X 11 = w) :
    ∃ g', t7k7_11 CD X g = some (.bool true, g') := by
  obtain ⟨a, c, g1, e1, s1, _, ha, o1⟩ := r25 x
  have hdl := x.lt
  have hbl := x.blt
  have hhn := old.next
  have x1' := Old.dk o1 x
  have j1 := xj.keep o1 (fun h => h)
  have own1 := own.keep o1 (fun _ _ h => h)
  have hn1 := o1.next
  have run : ∀ Z : Nat → Value, Z 15 = .slice a (128 * E.n) c → Z 16 = i64n 0 → Z 5 = ptr d 0 → Z 7 = ptr j 0 → Z 1 = v → Z 11 = w →
      ∃ g', endL (iter (codeA Try.prog CD (partOf Try.f7 [1, 1, 1, 1, 1, 1, 1, 1, 1, 0, 1, 0, 0])) rounds (mkF 189 Z) g1) (resultsA Try.prog Try.f7.results.toList) (b7_17 CD) = some (.bool true, g') := by
    intro Z z15 z16 z5 z7 z1 z11
    refine endL_fin (Q := fun o : Out => ∃ g', o = some (Value.bool true, g')) (outB Z g1 x1' j1 hl hs h2 H own1 h40 z7 z11 z16) ?_
    rintro ex z g' ⟨rfl, hZ, hX⟩
    simp -implicitDefEqProofs only [endL_exit, b7_17, if_true, t7k7_15_eq]
    have hn0 := g.n0_le_next
    have hxn := hX.2.n0
    have o1n := o1.n0
    refine mem_15 (N := g.next) R h40 z (hX.still (old.trans o1) (by omega)) (hX.dk x1' (by omega) (by omega)) hd h2 H sup hdh (hZ.2.1.trans z5) (hZ.1.trans z1) hdl hbl (by omega) (by omega) hbh (hZ.2.2.2.2.2.1.trans z15) (hX.bytes s1 (fun y hy hn => ?_)) ha hn64
    subst hy
    obtain ⟨b, off, ss, e, hlt⟩ := sliceBytes_lt s1 hn
    cases e
    exact hlt
  unfold t7k7_11
  simp -implicitDefEqProofs only [x5, thenV_some, e1]
  exact run _ rfl rfl x5 x7 x1 x11

set_option maxRecDepth 100000 in
theorem mem7 (a : Int) {h0 : Heap} {v : Value} {vals : List (List Nat)} (R0 : RecsI h0 v vals) : ∃ h', CD 7 [.int .i64 a, v] h0 = some (.bool true, h') := by
  have key : ∃ h', t7 CD (.int .i64 a) v h0 = some (.bool true, h') := by
    unfold t7
    simp -implicitDefEqProofs only [thenV_some, bin_lss, pu_some, bOf_bool]
    by_cases h1 : a < 4
    · simp -implicitDefEqProofs only [decide_eq_true h1, sf, guardK_false, thenV_some, if_true, bOf_bool, r14]
      exact ⟨_, rfl⟩
    by_cases h2 : a > 64
    · simp -implicitDefEqProofs only [decide_eq_false h1, beq_self_eq_true, sf, guardK_true, guardK_false, thenV_some, Bool.false_eq_true, if_false, if_true, bin_gtr, pu_some, bOf_bool, decide_eq_true h2, r14]
      exact ⟨_, rfl⟩
    obtain ⟨n, rfl⟩ : ∃ n : Nat, a = n := ⟨a.toNat, by omega⟩
    obtain ⟨l1, l2, l3⟩ := r17 R0.1 (n : Int)
    rw [decide_eq_false (show ¬ (64 : Int) < (n : Int) by omega), Bool.false_and, Bool.false_or] at l3
    cases hheavy : (decide (40 < vals.length) || vals.any fun r => decide (21000 < r.length)) with
    | true =>
      rw [hheavy] at l3
      simp -implicitDefEqProofs only [decide_eq_false h1, beq_self_eq_true, guardK_true, thenV_some, Bool.false_eq_true, if_false, bin_gtr, pu_some, bOf_bool, decide_eq_false h2, l1, l2, l3, r14]
      exact ⟨_, rfl⟩
    | false =>
      rw [hheavy] at l3
      rw [Bool.or_eq_false_iff] at hheavy
      have h40 : vals.length ≤ 40 := by
        have := of_decide_eq_false hheavy.1
        omega
      have h21 : ∀ r ∈ vals, r.length ≤ 100000 := by
        intro r hr
        have := List.any_eq_false.1 hheavy.2 r hr
        simp at this; omega
      have oA : Old h0 (h0.alloc [.int .i64 0, .int .i64 0, .int .i64 0, .int .u8 0, .slice none 0 0, v]) := Kept.alloc _ _ _
      simp -implicitDefEqProofs only [decide_eq_false h1, beq_self_eq_true, guardK_true, thenV_some, Bool.false_eq_true, if_false, bin_gtr, pu_some, bOf_bool, decide_eq_false h2, l1, l2, l3]
      generalize h0.alloc [.int .i64 0, .int .i64 0, .int .i64 0, .int .u8 0, .slice none 0 0, v] = hA0 at *
      have hnA : h0.next ≤ hA0.next := oA.next
      obtain ⟨d, D, j, v2, N2, g1, g2, e1, e2, x2, j2, o2, u2, f2, hDn, hDt, hlive, ok, ld, lj, lb, _, _⟩ := new_open hA0 (n := n) (by omega) (by omega)
      obtain ⟨w3, cl3, g3, e3, ow3, E3, o3⟩ := r24 ((R0.old oA).S.old o2) (by omega) h21
      have x3 := Old.dk o3 x2
      have j3 := j2.keep o3 (fun h => h)
      have hdl := x2.lt
      have hbl := x2.blt
      have hjl := j2.lt
      have hF : ∀ b, g2.next ≤ b → ¬ rwF j d D b := by
        intro b hb
        unfold rwF
        omega
      have hr4 := r23 x3 j3 (by omega) ok (E3.G ow3 hF hF) (by omega)
      unfold RwPost at hr4
      obtain ⟨w4, g4, e4, x4, b4, n4, j4, k4, ow4⟩ := hr4
      have o03 : Old h0 g3 := (oA.trans o2).trans o3
      have o04 : Old h0 g4 := o03.also k4 (fun c hc hB => by omega)
      simp -implicitDefEqProofs only [e1, thenV_some, xt20, xt21, pu_some, e2, xt30, xt31, xt32, e3, e4, bin28n0]
      by_cases hE : (D.jn0 D.turn |>.rewrite D vals).1 = 0
      · have hne : ((D.jn0 D.turn |>.rewrite D vals).1 != 0) = false := by rw [hE]; rfl
        obtain ⟨h20, htot, _⟩ := rewrite_ok hlive hE
        have hbyte := R0.1.byte
        obtain ⟨E, s, hs0, hrw, al, H, sup, kn, fr⟩ := rewrite_up (J := D.jn0 D.turn) (vals := vals) u2 (by omega) hlive (fun r hr => ⟨h20 r hr, hbyte r hr⟩) htot (by show 0 < _; omega) ok (f2.knows (by omega))
        rw [hrw] at x4 j4 ow4 b4
        dsimp only at x4 j4 ow4 b4
        rw [List.length_map, layR_length] at ow4
        have hlJ : ({ turn := (D.jn0 D.turn).turn, slot := (D.jn0 D.turn).newSlot, area := (D.jn0 D.turn).newArea, gen := (D.jn0 D.turn).known + 1, known := (D.jn0 D.turn).known + 1, ready := true, fin := recsTot vals } : Jn).live E = true := by
          unfold Jn.live at hlive ⊢
          rw [al.down, al.turn]; exact hlive
        have n3 : g2.next ≤ g3.next := o3.next
        have W3 : RecsW g3 g2.next w3 vals.length 1 0 := E3.W ow3 h21
        have W4 : RecsW g4 g2.next w3 vals.length 1 0 := by
          obtain ⟨aa, cc, rfl, hR⟩ := W3
          refine ⟨aa, cc, rfl, fun i hi => ?_⟩
          obtain ⟨b, f, ss, k, ai, ni, ci, q1, q2, q3, q4, q5, ⟨l, q6⟩, q7⟩ := hR i hi
          have hb2 : g2.next ≤ b := by
            obtain ⟨_, _, _, ⟨_, z⟩ | ⟨bb, sb, z, zN, _⟩⟩ := ow3
            · omega
            · injection z with z1
              rw [q1] at z1
              cases z1
              exact zN
          exact ⟨b, f, ss, k, ai, ni, ci, q1, k4.getE q2 (by omega), q3, q4, q5, ⟨l, k4.bytes q6 (fun y hy hn hB => by have := q7 y hy hn; omega)⟩, q7⟩
        have hbE : E.bb = D.bb := al.bb
        have run : ∀ Z : Nat → Value, Z 10 = w3 → Z 13 = i64n 0 → Z 5 = ptr d 0 → Z 7 = ptr j 0 → Z 1 = v → Z 11 = w4 →
            ∃ g', endL (iter (codeA Try.prog CD (partOf Try.f7 [1, 1, 1, 1, 1, 1, 1, 0, 1, 0, 0])) rounds (mkF 189 Z) g4) (resultsA Try.prog Try.f7.results.toList) (b7_13 CD) = some (.bool true, g') := by
          intro Z z10 z13 z5 z7 z1 z11
          have hg4 : g4.n0 = g2.n0 := by rw [k4.n0, o3.n0]
          have hg2 := g2.n0_le_next
          refine endL_fin (Q := fun o : Out => ∃ g', o = some (Value.bool true, g')) (outA (N := g2.next) Z g4 W4 (by omega) (by omega) z10 z13) ?_
          rintro ex z g' ⟨rfl, hZ, hX⟩
          simp -implicitDefEqProofs only [endL_exit, b7_13, if_true, t7k7_11_eq]
          exact mem_11 R0 h40 z (hX.still o04 (by have := o2.next; omega)) (hX.dk x4 (by omega) (by omega)) (hX.jn j4) hlJ (show (0 : Int) ≤ 0 by omega) (al.down.trans u2.down) (by rw [al.n]; omega) (by rw [al.n]; omega) H sup (hX.own ow4 (plain_i64 _)) (by omega) (by omega) (hZ.2.1.trans z5) (hZ.2.2.1.trans z7) (hZ.1.trans z1) (hZ.2.2.2.2.1.trans z11)
        simp -implicitDefEqProofs only [hne, thenV_some]
        exact run _ rfl rfl rfl rfl rfl rfl
      · have hne : ((D.jn0 D.turn |>.rewrite D vals).1 != 0) = true := by rw [bne_iff_ne]; exact hE
        simp -implicitDefEqProofs only [hne, thenV_some, r14]
        exact ⟨_, rfl⟩
  obtain ⟨h', e⟩ := key
  exact ⟨h', CD_body is7 rfl ((t7_eq _ _ _ _).trans e)⟩
end Go.Proofs.Ytcmfgmhadeeieaa

