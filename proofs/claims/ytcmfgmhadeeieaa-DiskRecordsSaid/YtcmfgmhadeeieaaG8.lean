/-
  DiskMemory: bytes that are overwritten; the loops.
  Conditions: as each theorem states.
  DiskMemory: the walk.
  Conditions: as each theorem states.
  DiskMemory: what it answers.
  Conditions: as each theorem states.
  DiskRecords: the loops.
  Conditions: as each theorem states.
  DiskRecords: records are appended.
  Conditions: as each theorem states.
  DiskRecords: what it answers.
  Conditions: as each theorem states.
  DiskRecords: the whole.
  Conditions: as each theorem states.
-/
import Derived.Test.YtcmfgmhadeeieaaG7
namespace Go.Proofs.Ytcmfgmhadeeieaa
open Go Go.Abs

/-- Slices of bytes stay slices of bytes. -/
def Bys (h h' : Heap) : Prop := ∀ (a : Option Addr) (n : Nat), (∃ l, sliceBytes a n h = some l) → ∃ l, sliceBytes a n h' = some l
/-- Nothing changes but bytes, and these in late blocks alone. -/
def Xr (N : Nat) (h h' : Heap) : Prop := Bys h h' ∧ Kept h h' (fun c => N ≤ c ∧ ¬ Plain h c)
theorem Xr.old {N : Nat} {h h' : Heap} (k : Old h h') : Xr N h h' := ⟨fun a n ⟨l, e⟩ => ⟨l, Old.bytes k e⟩, k.mono (fun c _ h => h.elim)⟩
theorem Xr.refl (N : Nat) (h : Heap) : Xr N h h := Xr.old (Kept.refl _ _)
theorem Xr.plain {N : Nat} {h h' : Heap} (x : Xr N h h') {b : Nat} {k : Blk} (g : h.get b = some k) (p : ∀ v ∈ k, nat8 v = none) : h'.get b = some k := x.2.getE g (fun hb => hb.2 ⟨k, g, p⟩)
theorem Xr.low {N : Nat} {h h' : Heap} (x : Xr N h h') {b : Nat} (hb : b < N) (hn : b < h.next) : h'.get b = h.get b := x.2.get b hn (fun h => by have := h.1; omega)
theorem Xr.trans {N M : Nat} {a b c : Heap} (x : Xr N a b) (y : Xr M b c) (h : N ≤ M) : Xr N a c := by
  refine ⟨fun q n e => y.1 q n (x.1 q n e), x.2.also y.2 ?_⟩
  rintro d hd ⟨h1, h2⟩
  refine ⟨by omega, fun ⟨k, g, p⟩ => h2 ⟨k, x.plain g p, p⟩⟩
theorem Xr.dk {N : Nat} {h h' : Heap} (x : Xr N h h') {d : Nat} {D : Dk} (k : IsDk h d D) (hd : d < N) (hb : D.bb < N) : IsDk h' d D := k.mono x.2.n0 (x.low hd k.lt) (x.low hb k.blt)
theorem Xr.jn {N : Nat} {h h' : Heap} (x : Xr N h h') {j d : Nat} {J : Jn} (k : IsJn h j d J) : IsJn h' j d J := ⟨x.plain k.get (J.plain d), x.2.n0 ▸ k.n0, k.area⟩
theorem Xr.own {N M size len : Nat} {h h' : Heap} (x : Xr N h h') {v : Value} {cells : List Value} (o : OwnC h M size v len cells) (p : ∀ v ∈ cells, nat8 v = none) : OwnC h' M size v len cells := by
  obtain ⟨h1, h2, h3, h4⟩ := o
  refine ⟨h1, h2, h3, ?_⟩
  rcases h4 with h4 | ⟨b, s, rfl, h5, h6 | ⟨h6, h7⟩⟩
  · exact .inl h4
  · exact .inr ⟨b, s, rfl, h5, .inl h6⟩
  · exact .inr ⟨b, s, rfl, h5, .inr ⟨h6, x.plain h7 p⟩⟩
theorem Xr.bytes {N : Nat} {h h' : Heap} (x : Xr N h h') {a : Option Addr} {n : Nat} {l : List Nat} (e : sliceBytes a n h = some l) (ha : ∀ y, a = some y → 0 < n → y.block < N) : sliceBytes a n h' = some l :=
  x.2.bytes e fun y hy hn hb => by have := ha y hy hn; have := hb.1; omega
theorem plain_i64 (l : List Nat) : ∀ v ∈ l.map i64n, nat8 v = none := by
  intro v hv
  obtain ⟨n, _, rfl⟩ := List.mem_map.1 hv
  rfl

/-- A list whose members are slices of bytes, whichever. -/
def RecsW (h : Heap) (N : Nat) (v : Value) (len sz o : Nat) : Prop :=
  ∃ a c, v = .slice a len c ∧ ∀ i, i < len → ∃ b f s k ai ni ci, a = some ⟨b, f, s⟩ ∧ h.get b = some k ∧ (∀ v ∈ k, nat8 v = none) ∧ k[f + i * sz + o]? = some (.slice ai ni ci) ∧ ni ≤ 100000 ∧ (∃ l, sliceBytes ai ni h = some l) ∧ ∀ y, ai = some y → 0 < ni → N ≤ y.block
theorem RecsW.len {h : Heap} {N : Nat} {v : Value} {len sz o : Nat} (R : RecsW h N v len sz o) : lenL v = some (i64n len) := by
  obtain ⟨a, c, rfl, hR⟩ := R
  rfl
theorem RecsW.at {h : Heap} {N : Nat} {v : Value} {len sz o : Nat} (R : RecsW h N v len sz o) {i : Nat} (hi : i < len) : ∃ b p ai ni ci, idxS sz v (i64n i) = some (ptr b p) ∧ (∀ M h', Xr M h h' → ld1 (ptr b (p + o)) h' = some (.slice ai ni ci, h')) ∧ ni ≤ 100000 ∧ (∃ l, sliceBytes ai ni h = some l) ∧ ∀ y, ai = some y → 0 < ni → N ≤ y.block := by
  obtain ⟨a, c, rfl, hR⟩ := R
  obtain ⟨b, f, s, k, ai, ni, ci, rfl, h2, h3, h4, h5, h6, h7⟩ := hR i hi
  refine ⟨b, f + i * sz, ai, ni, ci, ?_, fun M h' x => ld1_at (x.plain h2 h3) h4 rfl, h5, h6, h7⟩
  unfold idxS
  simp only [i64n]
  rw [if_pos (by omega), Int.toNat_natCast]
theorem RecsAt.W {h : Heap} {N N' : Nat} {v : Value} {cells : List Value} {vals : List (List Nat)} (E : RecsAt h N' cells vals) (o : OwnC h N 1 v vals.length cells) (h21 : ∀ r ∈ vals, r.length ≤ 100000) : RecsW h N' v vals.length 1 0 := by
  have pl := E.plain
  obtain ⟨_, _, _, ⟨rfl, h4⟩ | ⟨b, s, rfl, h5, ⟨rfl, h4⟩ | ⟨rfl, h6⟩⟩⟩ := o
  · exact ⟨none, 0, by rw [h4], fun i hi => by omega⟩
  · exact ⟨_, _, rfl, fun i hi => by omega⟩
  · refine ⟨_, _, rfl, fun i hi => ?_⟩
    obtain ⟨a, n, c, h2, h3, _, h7⟩ := E.2 i _ (List.getElem?_eq_getElem hi)
    have := h21 _ (List.getElem_mem hi)
    have := (sliceBytes_spec h3).1
    exact ⟨b, 0, _, cells, a, n, c, rfl, h6, pl, by rw [Nat.zero_add, Nat.mul_one]; exact h2, by omega, ⟨_, h3⟩, h7⟩
theorem EntsAt.W {h : Heap} {N N' : Nat} {v : Value} {cells : List Value} {ents : List (Nat × List Nat)} (E : EntsAt h N' cells ents) (o : OwnC h N 2 v ents.length cells) (h21 : ∀ e ∈ ents, e.2.length ≤ 100000) : RecsW h N' v ents.length 2 1 := by
  have pl := E.plain
  obtain ⟨_, _, _, ⟨rfl, h4⟩ | ⟨b, s, rfl, h5, ⟨rfl, h4⟩ | ⟨rfl, h6⟩⟩⟩ := o
  · exact ⟨none, 0, by rw [h4], fun i hi => by omega⟩
  · exact ⟨_, _, rfl, fun i hi => by omega⟩
  · refine ⟨_, _, rfl, fun i hi => ?_⟩
    obtain ⟨_, a, n, c, h2, h3, _, h7⟩ := E.2 i _ (List.getElem?_eq_getElem hi)
    have := h21 _ (List.getElem_mem hi)
    have := (sliceBytes_spec h3).1
    exact ⟨b, 0, _, cells, a, n, c, rfl, h6, pl, by rw [Nat.zero_add, Nat.mul_comm]; exact h2, by omega, ⟨_, h3⟩, h7⟩

/-- The registers that the loops leave. -/
def Same7 (x y : Nat → Value) : Prop := y 1 = x 1 ∧ y 5 = x 5 ∧ y 7 = x 7 ∧ y 10 = x 10 ∧ y 11 = x 11 ∧ y 15 = x 15 ∧ y 21 = x 21
theorem Same7.refl (x : Nat → Value) : Same7 x x := ⟨rfl, rfl, rfl, rfl, rfl, rfl, rfl⟩
theorem Same7.trans {x y z : Nat → Value} (a : Same7 x y) (b : Same7 y z) : Same7 x z := by
  obtain ⟨a1, a2, a3, a4, a5, a6, a7⟩ := a
  obtain ⟨b1, b2, b3, b4, b5, b6, b7⟩ := b
  exact ⟨b1.trans a1, b2.trans a2, b3.trans a3, b4.trans a4, b5.trans a5, b6.trans a6, b7.trans a7⟩

section
variable {N : Nat}
end
end Go.Proofs.Ytcmfgmhadeeieaa

namespace Go.Proofs.Ytcmfgmhadeeieaa
open Go Go.Abs

theorem Xr.still {N : Nat} {a h h' : Heap} (x : Xr N h h') (o : Old a h) (hN : a.next ≤ N) : Old a h' := o.also x.2 (fun c hc hB => by have := hB.1; omega)
theorem str_ne (l : List Nat) : (!((strOf l).toList == (strOf l).toList)) = false := by simp
theorem Sup.op {E : Dk} {s area gen : Nat} (p : Sup E s area gen) : Sup E.opened s area gen := ⟨p.s, p.ok, p.g, p.a, p.other⟩
theorem Has.op {E : Dk} {area gen : Nat} {vals : List (List Nat)} (p : Has E area gen vals) : Has E.opened area gen vals := ⟨p.a, p.g, p.ok, p.fit, p.placed, p.rest⟩

section
variable {h0 : Heap} {v : Value} {vals : List (List Nat)} {d : Nat}
end
end Go.Proofs.Ytcmfgmhadeeieaa

namespace Go.Proofs.Ytcmfgmhadeeieaa
open Go Go.Abs

end Go.Proofs.Ytcmfgmhadeeieaa

namespace Go.Proofs.Ytcmfgmhadeeieaa
open Go Go.Abs

theorem is5 : IsFn Try.prog 5 Try.f5 := ⟨by kernel_rfl, by kernel_rfl, by kernel_rfl, by kernel_rfl⟩
/-- A list of records, own or not, that lies apart from some blocks. -/
def RecsA (h : Heap) (F : Nat → Prop) (cells : List Value) (vals : List (List Nat)) : Prop :=
  cells.length = vals.length ∧ ∀ (i : Nat) (r : List Nat), vals[i]? = some r → ∃ (a : Option Addr) (n c : Nat), cells[i]? = some (.slice a n c) ∧ sliceBytes a n h = some r ∧ ∀ y, a = some y → 0 < n → ¬ F y.block
theorem RecsA.plain {h : Heap} {F : Nat → Prop} {cells : List Value} {vals : List (List Nat)} (E : RecsA h F cells vals) : ∀ v ∈ cells, nat8 v = none := by
  intro v hv
  obtain ⟨q, hq⟩ := List.getElem?_of_mem hv
  have hl := (List.getElem?_eq_some_iff.1 hq).1
  rw [E.1] at hl
  obtain ⟨a, n, c, h2, _⟩ := E.2 q vals[q] (List.getElem?_eq_getElem hl)
  rw [hq] at h2; cases h2; rfl
theorem RecsA.keep {h h' : Heap} {F B : Nat → Prop} {cells : List Value} {vals : List (List Nat)} (E : RecsA h F cells vals) (k : Kept h h' B) (hB : ∀ b, b < h.next → B b → F b ∨ Plain h b) : RecsA h' F cells vals := by
  refine ⟨E.1, fun i e he => ?_⟩
  obtain ⟨a, n, c, h2, h3, h4⟩ := E.2 i e he
  refine ⟨a, n, c, h2, k.bytes h3 (fun y hy hn hb => ?_), h4⟩
  have hlt : y.block < h.next := by
    subst hy
    obtain ⟨b, off, s, e, hlt⟩ := sliceBytes_lt h3 hn
    cases e
    exact hlt
  rcases hB _ hlt hb with h5 | ⟨c', g1, g2⟩
  · exact h4 y hy hn h5
  · exact bytes_apart h3 g1 g2 y hy hn rfl
theorem RecsA.snoc {h : Heap} {F : Nat → Prop} {cells : List Value} {vals : List (List Nat)} (E : RecsA h F cells vals) {r : List Nat} {a : Option Addr} {n c : Nat} (hs : sliceBytes a n h = some r) (ha : ∀ y, a = some y → 0 < n → ¬ F y.block) : RecsA h F (cells ++ [.slice a n c]) (vals ++ [r]) := by
  refine ⟨by simp [E.1], fun i e he => ?_⟩
  have hl := E.1
  by_cases hi : i < vals.length
  · rw [List.getElem?_append_left hi] at he
    obtain ⟨a, n, c, h2, h3⟩ := E.2 i e he
    exact ⟨a, n, c, by rw [List.getElem?_append_left (by omega)]; exact h2, h3⟩
  · rw [List.getElem?_append_right (by omega)] at he
    have : i = vals.length := by
      have := (List.getElem?_eq_some_iff.1 he).1
      simp at this; omega
    subst this
    rw [Nat.sub_self] at he
    cases he
    exact ⟨a, n, c, by rw [List.getElem?_append_right (by omega), hl, Nat.sub_self]; rfl, hs, ha⟩
theorem RecsAt.A {h : Heap} {N : Nat} {F : Nat → Prop} {cells : List Value} {vals : List (List Nat)} (E : RecsAt h N cells vals) (hF : ∀ b, N ≤ b → ¬ F b) : RecsA h F cells vals := by
  refine ⟨E.1, fun i e he => ?_⟩
  obtain ⟨a, n, c, h2, h3, _, h5⟩ := E.2 i e he
  exact ⟨a, n, c, h2, h3, fun y hy hn => hF _ (h5 y hy hn)⟩
theorem RecsA.S {h : Heap} {F : Nat → Prop} {N : Nat} {v : Value} {cells : List Value} {vals : List (List Nat)} (E : RecsA h F cells vals) (o : OwnC h N 1 v vals.length cells) : RecsS h v vals 1 0 := by
  obtain ⟨_, _, _, ⟨rfl, h4⟩ | ⟨b, s, rfl, h5, ⟨rfl, h4⟩ | ⟨rfl, h6⟩⟩⟩ := o
  · exact ⟨none, 0, by rw [h4], fun i r hi => by have := (List.getElem?_eq_some_iff.1 hi).1; omega⟩
  · exact ⟨_, _, rfl, fun i r hi => by have := (List.getElem?_eq_some_iff.1 hi).1; omega⟩
  · refine ⟨_, _, rfl, fun i r hi => ?_⟩
    obtain ⟨a, n, c, h2, h3, _⟩ := E.2 i r hi
    exact ⟨b, 0, _, cells, a, n, c, rfl, h6, by rw [Nat.zero_add, Nat.mul_one]; exact h2, h3⟩
theorem OwnC.plainK {h h' : Heap} {N size len : Nat} {v : Value} {cells : List Value} (o : OwnC h N size v len cells) {B : Nat → Prop} (k : Kept h h' B) (hB : ∀ b, N ≤ b → b < h.next → ¬ B b) : OwnC h' N size v len cells := o.keepL k (fun b hb hlt => hB b (o.base hb) hlt)

/-- The registers that DiskRecords keeps. -/
def Same5 (x y : Nat → Value) : Prop := y 0 = x 0 ∧ y 1 = x 1 ∧ y 2 = x 2 ∧ y 7 = x 7 ∧ y 9 = x 9
theorem Same5.refl (x : Nat → Value) : Same5 x x := ⟨rfl, rfl, rfl, rfl, rfl⟩
theorem Same5.trans {x y z : Nat → Value} (a : Same5 x y) (b : Same5 y z) : Same5 x z := by
  obtain ⟨a1, a2, a3, a4, a5⟩ := a
  obtain ⟨b1, b2, b3, b4, b5⟩ := b
  exact ⟨b1.trans a1, b2.trans a2, b3.trans a3, b4.trans a4, b5.trans a5⟩
def longB (vals : List (List Nat)) : Bool := vals.any fun r => decide (20000 < r.length)
theorem longB_snoc (a : List (List Nat)) (r : List Nat) : longB (a ++ [r]) = (longB a || decide (20000 < r.length)) := by simp [longB]
/-- The blocks that the records need. -/
theorem need5 (X : Nat → Value) (g : Heap) {v : Value} {vals : List (List Nat)} (R : RecsS g v vals 1 0) (h40 : vals.length ≤ 40) (h21 : ∀ r ∈ vals, r.length ≤ 100000) (x1 : X 1 = v) (x12 : X 12 = i64n 0) (x13 : X 13 = .bool false) (x14 : X 14 = i64n 0) :
    Fin 290 (fun ex y g' => ex = .exit 0 ∧ g' = g ∧ Same5 X y ∧ y 12 = i64n (recsTot vals) ∧ y 13 = .bool (longB vals)) (iter (codeA Try.prog CD (partOf Try.f5 [1, 1, 1, 1, 1, 1, 0, 1, 0, 0])) rounds (mkF 290 X) g) := by
  have hll := R.len
  refine loop_fin (t5l5_111111010_eq CD) (Inv := fun k y g' => ∃ q, q + k = vals.length ∧ y 14 = i64n q ∧ g' = g ∧ Same5 X y ∧ y 12 = i64n (recsTot (vals.take q)) ∧ y 13 = .bool (longB (vals.take q)) ∧ recsTot (vals.take q) ≤ 1000 * q) ?_ vals.length (by have : rounds = 18446744073709551616 := rfl; omega) ⟨0, Nat.zero_add _, x14, rfl, Same5.refl _, x12, x13, by rw [List.take_zero]; exact Nat.zero_le _⟩
  rintro k y g' ⟨q, hqk, y14, rfl, hS, y12, y13, hb⟩
  have y1 := hS.2.1.trans x1
  unfold t5l5_111111010
  simp -implicitDefEqProofs only [y14, y1, thenV_some, pu_some, hll, lss3]
  by_cases hq : q < vals.length
  · obtain ⟨b, p, ai, ni, ci, hix, hld, hs⟩ := R.at (List.getElem?_eq_getElem hq)
    have hld := hld _ (Kept.refl _ _)
    rw [Nat.add_zero] at hld
    have hni := (sliceBytes_spec hs).1
    have hl2 : lenL (.slice ai ni ci) = some (i64n ni) := rfl
    have hk21 := h21 _ (List.getElem_mem hq)
    have e15 := r15 ni g' (by omega)
    have hct : costN ni ≤ 1000 := by unfold costN; split <;> omega
    have htk := recsTot_take (List.getElem?_eq_getElem hq)
    have hg : bin Try.prog .gtr 3 (i64n ni) (.int .i64 20000) = some (.bool (decide (20000 < ni))) := gtr3k ni 20000
    have hlong : longB (vals.take (q + 1)) = (longB (vals.take q) || decide (20000 < ni)) := by rw [take_snoc hq, longB_snoc, hni]
    rw [hni] at htk
    simp -implicitDefEqProofs only [decide_eq_true hq, thenV_some, y12, y13, hix, hld, hl2, e15, pu_some, add3 (show recsTot (vals.take q) + costN ni ≤ 9223372036854775807 by omega), bOf_bool]
    cases hlq : longB (vals.take q) with
    | true =>
      rw [hlq, Bool.true_or] at hlong
      simp -implicitDefEqProofs only [sf, guardK_false, thenV_some, if_true, add31 (show q + 1 ≤ 9223372036854775807 by omega), pu_some]
      exact Rnd.next (k - 1) (by omega) ⟨q + 1, by omega, rfl, rfl, hS, by rw [htk]; rfl, by rw [hlong]; rfl, by omega⟩
    | false =>
      rw [hlq, Bool.false_or] at hlong
      simp -implicitDefEqProofs only [beq_self_eq_true, guardK_true, thenV_some, hix, hld, hl2, pu_some, hg, Bool.false_eq_true, if_false, add31 (show q + 1 ≤ 9223372036854775807 by omega)]
      exact Rnd.next (k - 1) (by omega) ⟨q + 1, by omega, rfl, rfl, hS, by rw [htk]; rfl, by rw [hlong]; rfl, by omega⟩
  · have hi : q = vals.length := by omega
    subst hi
    rw [List.take_length] at y12 y13
    simp -implicitDefEqProofs only [decide_eq_false hq]
    exact Rnd.out 0 ⟨rfl, rfl, hS, y12, y13⟩

/-- The journal and the lists while records are appended. -/
structure AppAt (h0 : Heap) (N d j bb s area gen : Nat) (T : Jn) (g : Heap) (w17 w15 : Value) (recs : List (List Nat)) (E : Dk) : Prop where
  old : Old h0 g
  dk : IsDk g d E
  up : Up E
  bb_ : E.bb = bb
  jn : IsJn g j d { T with fin := recsTot recs }
  live : T.live E = true
  has : Has E area gen recs
  sup : Sup E s area gen
  all : ∃ cells, OwnC g N 1 w17 recs.length cells ∧ RecsA g (fun c => c = j ∨ c = d ∨ c = bb) cells recs
  pos : OwnC g N 1 w15 recs.length (((layR recs 0).map (·.1)).map i64n)
/-- All positions are read. -/
theorem read5 {h0 : Heap} {N d j bb s area gen : Nat} {T : Jn} {g : Heap} {w17 w15 : Value} {recs : List (List Nat)} {E : Dk} (A : AppAt h0 N d j bb s area gen T g w17 w15 recs E) (hT : T.area = area ∧ T.gen = gen ∧ 0 ≤ T.slot) (h2 : 2 ≤ E.n) (h80 : recs.length ≤ 80)
    (X : Nat → Value) (x9 : X 9 = ptr j 0) (x15 : X 15 = w15) (x17 : X 17 = w17) (x24 : X 24 = i64n 0) :
    Fin 290 (fun ex y g' => ex = .exit 4 ∧ Old g g' ∧ Same5 X y ∧ y 15 = X 15 ∧ y 17 = X 17) (iter (codeA Try.prog CD (partOf Try.f5 [1, 1, 1, 1, 1, 1, 1, 1, 1, 1, 1, 1, 0, 1, 0, 0])) rounds (mkF 290 X) g) := by
  obtain ⟨cells, ow17, E17⟩ := A.all
  have S := E17.S ow17
  have hll := S.len
  have hsm := A.dk.small
  have har : E.ar = (E.n - 2) / 2 := rfl
  obtain ⟨rfl, rfl, hs⟩ := hT
  have H : Has E ({ T with fin := recsTot recs } : Jn).area ({ T with fin := recsTot recs } : Jn).gen recs := A.has
  refine loop_fin (t5l5_111111111111010_eq CD) (Inv := fun k y g' => ∃ q, q + k = recs.length ∧ y 24 = i64n q ∧ Old g g' ∧ Same5 X y ∧ y 15 = X 15 ∧ y 17 = X 17) ?_ recs.length (by have : rounds = 18446744073709551616 := rfl; omega) ⟨0, Nat.zero_add _, x24, Kept.refl _ _, Same5.refl _, rfl, rfl⟩
  rintro k y g' ⟨q, hqk, y24, ho, hS, y15, y17⟩
  have y9 := hS.2.2.2.2.trans x9
  unfold t5l5_111111111111010
  simp -implicitDefEqProofs only [y24, y17, x17, thenV_some, pu_some, hll, lss3]
  by_cases hq : q < recs.length
  · have xg := Old.dk ho A.dk
    have jg := A.jn.keep ho (fun h => h)
    obtain ⟨b, i1, i2, _, _⟩ := (A.pos.keep ho (fun _ _ h => h)).at hq
    have hpl : (((layR recs 0).map (·.1)).map i64n)[q]? = some (i64n (recsTot (recs.take q))) := by
      rw [List.getElem?_map, List.getElem?_map, layR_at recs 0 q hq, Nat.zero_add]; rfl
    have hld : ld1 (ptr b (q * 1)) g' = some (i64n (recsTot (recs.take q)), g') := ld1_at i2 (by rw [Nat.mul_one]; exact hpl) rfl
    obtain ⟨e1, e2, e3, e4⟩ := H.at hs (by omega) (List.mem_of_getElem? (layR_at recs 0 q hq))
    rw [Nat.zero_add] at e1 e2 e3 e4
    dsimp only at e1 e2 e3 e4
    obtain ⟨u, g1, c1, o1, ow1⟩ := r28_yes xg jg h2 (at_ := recsTot (recs.take q)) A.live e2
    dsimp only at ow1
    rw [e3, e4] at ow1
    obtain ⟨a, c, rfl, s1, _, s3, _⟩ := ow1.bytes
    have cv1 := cvBS_at (c := c) s1
    obtain ⟨b', p', ai, ni, ci, hix, hld2, hs2⟩ := (S.old ho).at (List.getElem?_eq_getElem hq)
    have hld2 := hld2 _ o1
    rw [Nat.add_zero] at hld2
    have cv2 := cvBS_at (c := ci) (Old.bytes o1 hs2)
    have hget : recs.getD q [] = recs[q] := by rw [List.getD_eq_getElem?_getD, List.getElem?_eq_getElem hq]; rfl
    rw [hget] at cv1 c1
    simp -implicitDefEqProofs only [decide_eq_true hq, thenV_some, pu_some, y9, y15, x15, i1, hld, c1, xt20, xt21, bin28n0, bne_self_eq_false, bOf_bool, beq_self_eq_true, guardK_true, cv1, y17, x17, hix, hld2, cv2, bin_str_neq, str_ne, Bool.false_eq_true, if_false, add31 (show q + 1 ≤ 9223372036854775807 by omega)]
    exact Rnd.next (k - 1) (by omega) ⟨q + 1, by omega, rfl, ho.trans o1, hS, y15.trans x15, y17.trans x17⟩
  · simp -implicitDefEqProofs only [decide_eq_false hq]
    exact Rnd.out 4 ⟨rfl, ho, hS, y15, y17.trans x17⟩
end Go.Proofs.Ytcmfgmhadeeieaa

namespace Go.Proofs.Ytcmfgmhadeeieaa
open Go Go.Abs

/-- Two lists do not share a block. -/
def Sep (w15 w17 : Value) : Prop := (w15 = .slice none 0 0 ∨ ∃ b, w15 = .slice (some ⟨b, 0, none⟩) 0 0) ∨ ∀ b, baseOf w17 = some b → baseOf w15 ≠ some b
theorem OwnC.sep {h : Heap} {N M len : Nat} {w15 w17 : Value} {cells c17 : List Value} (o : OwnC h N 1 w15 len cells) (p : OwnC h M 1 w17 len c17) {k : Heap} (o' : OwnC k N 1 w15 len cells) (hM : k.next ≤ M) : Sep w15 w17 := by
  obtain ⟨_, _, _, ⟨rfl, h4⟩ | ⟨b, s, rfl, h5, ⟨rfl, h4⟩ | ⟨rfl, h6⟩⟩⟩ := o'
  · exact .inl (.inl rfl)
  · subst h4
    exact .inl (.inr ⟨b, rfl⟩)
  · refine .inr (fun c hc e => ?_)
    have := p.base hc
    have e : some b = some c := e
    cases e
    have := k.lt_of_get h6
    omega
theorem OwnC.apart {h h' : Heap} {N len : Nat} {w15 w17 : Value} {l : List Nat} {c17 : List Value} (o : OwnC h N 1 w15 len (l.map i64n)) (hlen : c17.length = len) (hc : ∀ v ∈ c17, ∃ a n c, v = .slice a n c) (hsep : len = 0 → Sep w15 w17) (k : Kept h h' (fun c => baseOf w17 = some c ∧ h.get c = some c17)) : OwnC h' N 1 w15 len (l.map i64n) := by
  by_cases h0 : len = 0
  · subst h0
    rcases hsep rfl with (rfl | ⟨b, rfl⟩) | hs
    · exact ⟨o.1, o.2.1, o.2.2.1, .inl ⟨rfl, rfl⟩⟩
    · refine ⟨o.1, o.2.1, o.2.2.1, .inr ⟨b, none, rfl, o.base rfl, .inl ⟨rfl, rfl⟩⟩⟩
    · exact o.keep k (fun b hb hB => hs b hB.1 hb)
  · refine o.keep k (fun b hb hB => ?_)
    obtain ⟨h1, _, _, ⟨rfl, h4⟩ | ⟨b', s, rfl, h5, ⟨rfl, h4⟩ | ⟨rfl, h6⟩⟩⟩ := o
    · omega
    · omega
    · cases hb
      have e := h6.symm.trans hB.2
      have e : l.map i64n = c17 := Option.some.inj e
      match c17, l with
      | [], _ => simp at hlen; omega
      | v :: _, [] => simp at e
      | v :: _, x :: _ =>
        obtain ⟨a, n, c, rfl⟩ := hc v List.mem_cons_self
        simp at e
theorem RecsA.slices {h : Heap} {F : Nat → Prop} {cells : List Value} {vals : List (List Nat)} (E : RecsA h F cells vals) : ∀ v ∈ cells, ∃ a n c, v = .slice a n c := by
  intro v hv
  obtain ⟨q, hq⟩ := List.getElem?_of_mem hv
  have hl := (List.getElem?_eq_some_iff.1 hq).1
  rw [E.1] at hl
  obtain ⟨a, n, c, h2, _⟩ := E.2 q vals[q] (List.getElem?_eq_getElem hl)
  rw [hq] at h2
  exact ⟨a, n, c, Option.some.inj h2⟩
theorem leq3k (n k : Nat) : bin Try.prog .leq 3 (i64n n) (.int .i64 (k : Int)) = some (.bool (decide (n ≤ k))) := leq3 n k

section
variable {h0 : Heap} {N d j bb s area gen : Nat} {T : Jn} {v2 : Value} {more : List (List Nat)} (R : RecsI h0 v2 more) (h40 : more.length ≤ 40) (h21 : ∀ r ∈ more, r.length ≤ 100000)
  (hT : T.area = area ∧ T.gen = gen ∧ T.ready = true) (hok : ∀ (F : Dk) (f : Nat), f ≤ F.ar → JnOk { T with fin := f } F) (hN : d < N ∧ j < N ∧ bb < N) (hh : h0.next ≤ d ∧ h0.next ≤ j ∧ h0.next ≤ bb) {n : Nat} (h4 : 4 ≤ n) (hn : n ≤ 64)
def appInv (h0 : Heap) (N d j bb s area gen : Nat) (T : Jn) (more : List (List Nat)) (n L : Nat) (X : Nat → Value) (k : Nat) (y : Nat → Value) (g : Heap) : Prop :=
  ∃ q recs E, q + k = more.length ∧ y 18 = i64n q ∧ Same5 X y ∧ AppAt h0 N d j bb s area gen T g (y 17) (y 15) recs E ∧ E.n = n ∧ recs.length ≤ L + q ∧ (recs.length = 0 → Sep (y 15) (y 17)) ∧ N ≤ g.next
def appFin (h0 : Heap) (N d j bb s area gen : Nat) (T : Jn) (more : List (List Nat)) (n L : Nat) (X : Nat → Value) (ex : Ex) (y : Nat → Value) (g : Heap) : Prop :=
  ex = .exit 2 ∧ Same5 X y ∧ ∃ recs E, AppAt h0 N d j bb s area gen T g (y 17) (y 15) recs E ∧ E.n = n ∧ recs.length ≤ L + more.length
include R h40 h21 hT hok hN hh h4 hn
set_option maxRecDepth 100000 in
set_option maxHeartbeats 4000000 in
theorem app_round (X : Nat → Value) {L : Nat} (hL : L ≤ 40) (x2 : X 2 = v2) (x7 : X 7 = ptr d 0) (x9 : X 9 = ptr j 0) : ∀ k y g, appInv h0 N d j bb s area gen T more n L X k y g → Rnd 290 (appInv h0 N d j bb s area gen T more n L X) (appFin h0 N d j bb s area gen T more n L X) k (t5l5_11111111111010 CD y g) := by
  rintro k y g ⟨q, recs, E, hqk, y18, hS, A, hEn, hrl, hsep, hNg⟩
  have y2 := hS.2.2.1.trans x2
  have y7 := hS.2.2.2.1.trans x7
  have y9 := hS.2.2.2.2.trans x9
  have hll := R.S.len
  unfold t5l5_11111111111010
  simp -implicitDefEqProofs (maxSteps := 3000000) only [y18, y2, thenV_some, pu_some, hll, lss3]
  by_cases hq : q < more.length
  · have hfit := A.has.fit
    have har : E.ar = (E.n - 2) / 2 := rfl
    have hfree : ({ T with fin := recsTot recs } : Jn).free E = E.ar - recsTot recs := by
      unfold Jn.free
      have hl : ({ T with fin := recsTot recs } : Jn).live E = true := A.live
      rw [hl, show ({ T with fin := recsTot recs } : Jn).ready = T.ready from rfl, hT.2.2]; rfl
    have e26 := r26 A.dk A.jn (by omega) (fun _ => hfit)
    rw [hfree] at e26
    obtain ⟨a1, c1, g1, e25, s1, _, t1, o1⟩ := r25 A.dk
    have cv1 := cvBS_at (c := c1) s1
    obtain ⟨ob, op, ai, ni, ci, hix, hld, hs⟩ := R.S.at (List.getElem?_eq_getElem hq)
    rw [Nat.add_zero] at hld
    have hni := (sliceBytes_spec hs).1
    have hr21 := h21 _ (List.getElem_mem hq)
    have hbyte := (sliceBytes_spec hs).2.1
    generalize hr : more[q] = r at *
    have hai : ∀ y, ai = some y → 0 < ni → ¬ (fun c => c = j ∨ c = d ∨ c = bb) y.block := by
      intro y hy hpos
      subst hy
      obtain ⟨b, off, ss, e, hlt⟩ := sliceBytes_lt hs hpos
      cases e
      show ¬ (b = j ∨ b = d ∨ b = bb)
      omega
    have oA : Old g1 (g1.alloc []) := Kept.alloc _ _ _
    have hbs : bslR 1 (.int .u8 0) 0 [] g1 = some (.slice (some ⟨g1.next, 0, none⟩) 0 0, g1.alloc []) := rfl
    have nA : (g1.alloc []).next = g1.next + 1 := Heap.next_alloc ..
    have own0 : OwnB (g1.alloc []) g1.next (.slice (some ⟨g1.next, 0, none⟩) 0 0) [] := ⟨OwnC.empty _ (Nat.le_refl _), by simp⟩
    have ldA := hld _ (A.old.trans (o1.trans oA))
    obtain ⟨w1, g2, f1, b1, k1, _⟩ := append_ownB own0 (by rw [oA.n0]; exact g1.n0_le_next) (by omega) (Old.bytes (A.old.trans (o1.trans oA)) hs) (c := ci) (by simp only [List.length_nil]; omega)
    rw [List.nil_append] at b1
    have o2' : Old g1 g2 := oA.also k1 (fun c hc hb => by
      have : baseOf (.slice (some ⟨g1.next, 0, none⟩) 0 0) = some g1.next := rfl
      rw [this] at hb
      cases hb
      omega)
    have o2 : Old g g2 := o1.trans o2'
    obtain ⟨a2, c2, rfl, s2, t2, u2, _⟩ := b1.bytes
    have xg2 := Old.dk o2 A.dk
    have jg2 := A.jn.keep o2 (fun h => h)
    have hbb := A.bb_
    have hg1n := o1.next
    obtain ⟨w3, g3, e27, x3, j3, bb3, n3, k3, hw3⟩ := r27 xg2 jg2 (by omega) (hok E _ hfit) s2 t2 (by omega) (fun y hy _ => by have := u2 y hy; have := A.dk.blt; omega)
    have o03 : Old h0 g3 := (A.old.trans o2).also k3 (fun c hc hB => by omega)
    have hn3 := k3.next
    have hn2 := o2.next
    obtain ⟨cells, ow17, E17⟩ := A.all
    have k3' : Kept g2 g3 (fun c => c = j ∨ c = d ∨ c = bb) := k3.mono (fun c _ hc => by rw [hbb] at hc; exact hc)
    have ow17b : OwnC g3 N 1 (y 17) recs.length cells := (ow17.keep o2 (fun _ _ h => h)).plainK k3' (fun b hb _ hB => by omega)
    have E17b : RecsA g3 (fun c => c = j ∨ c = d ∨ c = bb) cells recs := (E17.keep o2 (fun _ _ h => h.elim)).keep k3' (fun b _ hb => .inl hb)
    have pos3 : OwnC g3 N 1 (y 15) recs.length (((layR recs 0).map (·.1)).map i64n) := (A.pos.keep o2 (fun _ _ h => h)).plainK k3' (fun b hb _ hB => by omega)
    have hlenai : lenL (.slice ai ni ci) = some (i64n ni) := rfl
    have ld3 := hld _ o03
    have hcost : costN ni ≤ 1000 := by unfold costN; split <;> omega
    have hleq : bin Try.prog .leq 3 (i64n ni) (.int .i64 20000) = some (.bool (decide (ni ≤ 20000))) := leq3k ni 20000
    have liveJ : ({ T with fin := recsTot recs } : Jn).live E = true := A.live
    have readyJ : ({ T with fin := recsTot recs } : Jn).ready = true := hT.2.2
    simp -implicitDefEqProofs (maxSteps := 3000000) only [decide_eq_true hq, thenV_some, y9, e26, y7, e25, cv1, hbs, hix, pu_some, ldA, f1, e27, xt20, xt21, bin28e]
    -- whether it fits
    by_cases hfits : ni ≤ 20000 ∧ costN ni ≤ E.ar - recsTot recs
    · obtain ⟨F, hap, al, H2, hfr⟩ := Has.append (J := { T with fin := recsTot recs }) (D := E) (recs := recs) (by rw [show ({ T with fin := recsTot recs } : Jn).area = area from hT.1, show ({ T with fin := recsTot recs } : Jn).gen = gen from hT.2.1]; exact A.has) A.up liveJ readyJ rfl (r := r) (by omega) hbyte (by rw [hni]; omega)
      rw [hap] at x3 j3 bb3 n3 hw3
      dsimp only at x3 j3 bb3 n3 hw3
      rw [if_pos rfl] at hw3
      have hl1 : (((T : Jn).area)) = area := hT.1
      have hF : F.ar = E.ar := al.ar
      have htot : recsTot (recs ++ [r]) = recsTot recs + costN r.length := by rw [recsTot_append, recsTot_cons, recsTot_nil]; omega
      -- the list of all records
      have hlit1 : bslR 1 (.slice none 0 0) 1 [(0, .slice ai ni ci)] g3 = some (.slice (some ⟨g3.next, 0, none⟩) 1 1, g3.alloc [.slice ai ni ci]) := rfl
      have oB : Old g3 (g3.alloc [.slice ai ni ci]) := Kept.alloc _ _ _
      have gB : (g3.alloc [.slice ai ni ci]).get g3.next = some [.slice ai ni ci] := by rw [Heap.get_alloc, if_pos rfl]
      have nB : (g3.alloc [.slice ai ni ci]).next = g3.next + 1 := Heap.next_alloc ..
      have ow17c := ow17b.keep oB (fun _ _ h => h)
      have E17c := E17b.keep oB (fun _ _ h => h.elim)
      have pos4 := pos3.keep oB (fun _ _ h => h)
      have o04 := o03.trans oB
      have x4 := Old.dk oB x3
      have j4 := j3.keep oB (fun h => h)
      generalize g3.alloc [.slice ai ni ci] = g4 at *
      have hf1 : firstA 1 1 (.slice (some ⟨g3.next, 0, none⟩) 1 1) g4 = some [.slice ai ni ci] := by
        simp only [firstA, gB]
        rfl
      have hn04 : g4.n0 ≤ N := by rw [o04.n0]; have := h0.n0_le_next; omega
      obtain ⟨w17, g5, p1, p2, p3, p4⟩ := append_own (by_ := 24) (x := .slice (some ⟨g3.next, 0, none⟩) 1 1) (m := 1) ow17c hn04 (by omega) (by decide) rfl hf1 rfl rfl rfl (by omega) (by omega)
      have pl5 : ∀ b, b < g4.next → (baseOf (y 17) = some b ∧ g4.get b = some cells) → (fun c => c = j ∨ c = d ∨ c = bb) b ∨ Plain g4 b := fun b _ hb => .inr ⟨cells, hb.2, E17c.plain⟩
      have s4 := Old.bytes o04 hs
      have E17d := (E17c.snoc (c := ci) s4 hai).keep p3 pl5
      have pos5 := pos4.apart E17c.1 E17c.slices hsep p3
      have k45 : Kept g4 g5 (fun c => N ≤ c) := p3.mono (fun c _ hc => ow17c.base hc.1)
      have o05 : Old h0 g5 := o04.also k45 (fun c hc hB => by omega)
      have x5 := x4.mono k45.n0 (k45.get d x4.lt (by omega)) (k45.get F.bb x4.blt (by have := al.bb; omega))
      have j5 := j4.keep k45 (by omega)
      -- the list of all positions
      have hlit2 : bslR 1 (.int .i64 0) 1 [(0, i64n (recsTot recs))] g5 = some (.slice (some ⟨g5.next, 0, none⟩) 1 1, g5.alloc [i64n (recsTot recs)]) := rfl
      have oC : Old g5 (g5.alloc [i64n (recsTot recs)]) := Kept.alloc _ _ _
      have gC : (g5.alloc [i64n (recsTot recs)]).get g5.next = some [i64n (recsTot recs)] := by rw [Heap.get_alloc, if_pos rfl]
      have nC : (g5.alloc [i64n (recsTot recs)]).next = g5.next + 1 := Heap.next_alloc ..
      have p2c := p2.keep oC (fun _ _ h => h)
      have E17e := E17d.keep oC (fun _ _ h => h.elim)
      have pos6 := pos5.keep oC (fun _ _ h => h)
      have o06 := o05.trans oC
      have x6 := Old.dk oC x5
      have j6 := j5.keep oC (fun h => h)
      have hn5 := k45.next
      generalize g5.alloc [i64n (recsTot recs)] = g6 at *
      have hf2 : firstA 1 1 (.slice (some ⟨g5.next, 0, none⟩) 1 1) g6 = some [i64n (recsTot recs)] := by
        simp only [firstA, gC]
        rfl
      have hn06 : g6.n0 ≤ N := by rw [o06.n0]; have := h0.n0_le_next; omega
      obtain ⟨w15, g7, q1, q2, q3, q4⟩ := append_own (by_ := 8) (x := .slice (some ⟨g5.next, 0, none⟩) 1 1) (m := 1) pos6 hn06 (by omega) (by decide) rfl hf2 rfl rfl rfl (by omega) (by omega)
      have pl7 : ∀ b, b < g6.next → (baseOf (y 15) = some b ∧ g6.get b = some (((layR recs 0).map (·.1)).map i64n)) → (fun c => c = j ∨ c = d ∨ c = bb) b ∨ Plain g6 b := fun b _ hb => .inr ⟨_, hb.2, plain_i64 _⟩
      have E17f := E17e.keep q3 pl7
      have ow17f : OwnC g7 N 1 w17 (recs.length + 1) (cells ++ [.slice ai ni ci]) := by
        refine p2c.keep q3 (fun b hb hB => ?_)
        obtain ⟨_, _, _, ⟨rfl, z⟩ | ⟨b', ss, rfl, _, ⟨_, z⟩ | ⟨_, z⟩⟩⟩ := p2c
        · omega
        · omega
        · cases hb
          have e := z.symm.trans hB.2
          have e := congrArg List.length (Option.some.inj e)
          rw [List.length_append, E17c.1, List.length_map, List.length_map, layR_length] at e
          simp at e
      have k67 : Kept g6 g7 (fun c => N ≤ c) := q3.mono (fun c _ hc => pos6.base hc.1)
      have o07 : Old h0 g7 := o06.also k67 (fun c hc hB => by omega)
      have x7' := x6.mono k67.n0 (k67.get d x6.lt (by omega)) (k67.get F.bb x6.blt (by have := al.bb; omega))
      have j7 := j6.keep k67 (by omega)
      have hn7 := k67.next
      have ld3b := hld _ o03
      have ld7 := hld _ o07
      have e15 := r15 ni g7 (by omega)
      have jn7 : IsJn g7 j d { T with fin := recsTot (recs ++ [r]) } := by rw [htot]; exact j7
      have hfit2 := H2.fit
      have e26b := r26 x7' jn7 (by rw [al.n]; omega) (fun _ => hfit2)
      have hfree2 : ({ T with fin := recsTot (recs ++ [r]) } : Jn).free F = E.ar - recsTot recs - costN ni := by
        unfold Jn.free
        have hl : ({ T with fin := recsTot (recs ++ [r]) } : Jn).live F = true := by
          have := A.live
          unfold Jn.live at this ⊢
          rw [al.down, al.turn]; exact this
        rw [hl, show ({ T with fin := recsTot (recs ++ [r]) } : Jn).ready = T.ready from rfl, hT.2.2, hF]
        show E.ar - recsTot (recs ++ [r]) = _
        rw [htot, hni]; omega
      rw [hfree2] at e26b
      have hsub := sub3 (a := E.ar - recsTot recs) (b := costN ni) hfits.2 (by omega)
      have hchk1 : chkR true (some (Value.slice ai ni ci, g7)) (.slice ai ni ci) = true := chk_at rfl (by simp [veq])
      have hchk2 : chkR true (some (i64n ni, g7)) (i64n ni) = true := chk_at rfl (by simp [veq])
      have hap1 : ({ T with fin := recsTot recs } : Jn).append E r = (0, F, { { T with fin := recsTot recs } with fin := recsTot recs + costN r.length }) := hap
      simp -implicitDefEqProofs (maxSteps := 3000000) only [hap1, beq_self_eq_true, thenV_some, hix, pu_some, ld3b, hlit1, p1, hw3, hlit2, q1, ld7, hlenai, hleq, decide_eq_true hfits.1, bOf_bool, guardK_true, e15, leq3, decide_eq_true hfits.2, if_true, bin4n, bne_self_eq_false, unA_not, Bool.not_true, fs, guardK_false, Bool.false_eq_true, if_false, y9, e26b, hsub, bin3n, hchk1, hchk2, Bool.and_true, add31 (show q + 1 ≤ 9223372036854775807 by omega)]
      refine Rnd.next (k - 1) (by omega) ⟨q + 1, recs ++ [r], F, by omega, rfl, hS, ⟨o07, x7', A.up.alike al, al.bb.trans hbb, jn7, ?_, ?_, ?_, ⟨_, ?_, E17f⟩, ?_⟩, al.n.trans hEn, by rw [List.length_append]; show recs.length + 1 ≤ _; omega, fun h => by rw [List.length_append] at h; simp at h, by omega⟩
      · have := A.live
        unfold Jn.live at this ⊢
        rw [al.down, al.turn]; exact this
      · have : Has F ({ T with fin := recsTot recs } : Jn).area ({ T with fin := recsTot recs } : Jn).gen (recs ++ [r]) := H2
        rw [show ({ T with fin := recsTot recs } : Jn).area = area from hT.1, show ({ T with fin := recsTot recs } : Jn).gen = gen from hT.2.1] at this
        exact this
      · have sup := A.sup
        have hs1 := sup.s
        exact ⟨sup.s, by rw [hfr s (by omega)]; exact sup.ok, by rw [hfr s (by omega)]; exact sup.g, by rw [hfr s (by omega)]; exact sup.a, by rw [hfr (1 - s) (by omega)]; exact sup.other⟩
      · rw [List.length_append]; exact ow17f
      · rw [List.length_append, layR_append, Nat.zero_add, layR, layR, List.map_append, List.map_append]
        exact q2
    · have hap : (({ T with fin := recsTot recs } : Jn).append E r).1 ≠ 0 ∧ (({ T with fin := recsTot recs } : Jn).append E r).2.1 = E ∧ (({ T with fin := recsTot recs } : Jn).append E r).2.2 = { T with fin := recsTot recs } := by
        unfold Jn.append
        rw [if_neg (by rw [liveJ]; decide), if_neg (by rw [readyJ]; decide)]
        by_cases hb : 20000 < r.length
        · rw [if_pos hb]
          exact ⟨show (3 : Int) ≠ 0 by decide, rfl, rfl⟩
        · rw [if_neg hb, if_pos (by rw [hfree, hni]; omega)]
          exact ⟨show (8 : Int) ≠ 0 by decide, rfl, rfl⟩
      obtain ⟨ha1, ha2, ha3⟩ := hap
      rw [ha2] at x3 bb3 n3
      rw [ha3] at j3
      have hz : ((({ T with fin := recsTot recs } : Jn).append E r).1 == 0) = false := beq_eq_false_iff_ne.2 ha1
      have e15 := r15 ni g3 (by omega)
      obtain ⟨a5, c5, g5, e25b, s5, _, t5, o5⟩ := r25 x3
      have cv5 := cvBS_at (c := c5) s5
      have o05 := o03.trans o5
      have done : ∀ z : Nat → Value, z 18 = i64n (q + 1) → Same5 X z → z 17 = y 17 → z 15 = y 15 → appInv h0 N d j bb s area gen T more n L X (k - 1) z g5 := by
        intro z z18 zS z17 z15
        refine ⟨q + 1, recs, E, by omega, z18, zS, ?_, hEn, by omega, fun h => by rw [z17, z15]; exact hsep h, by have := o5.next; omega⟩
        rw [z17, z15]
        exact ⟨o05, Old.dk o5 x3, A.up, hbb, j3.keep o5 (fun h => h), A.live, A.has, A.sup, ⟨cells, ow17b.keep o5 (fun _ _ h => h), E17b.keep o5 (fun _ _ h => h.elim)⟩, pos3.keep o5 (fun _ _ h => h)⟩
      by_cases hl : ni ≤ 20000
      · have hc : ¬ costN ni ≤ E.ar - recsTot recs := fun h => hfits ⟨hl, h⟩
        simp -implicitDefEqProofs (maxSteps := 3000000) only [hz, thenV_some, hix, pu_some, ld3, hlenai, hleq, decide_eq_true hl, bOf_bool, beq_self_eq_true, guardK_true, e15, leq3, decide_eq_false hc, if_true, bin4n, bne_self_eq_false, unA_not, Bool.not_false, y7, e25b, cv5, bin_str_neq, str_ne, Bool.false_eq_true, if_false, fs, guardK_false, chk_no, Bool.and_true, y18, add31 (show q + 1 ≤ 9223372036854775807 by omega)]
        exact Rnd.next (k - 1) (by omega) (done _ rfl hS rfl rfl)
      · simp -implicitDefEqProofs (maxSteps := 3000000) only [hz, thenV_some, hix, pu_some, ld3, hlenai, hleq, decide_eq_false hl, bOf_bool, beq_self_eq_true, guardK_true, bin4n, bne_self_eq_false, unA_not, Bool.not_false, y7, e25b, cv5, bin_str_neq, str_ne, Bool.false_eq_true, if_false, if_true, fs, guardK_false, chk_no, Bool.and_true, y18, add31 (show q + 1 ≤ 9223372036854775807 by omega)]
        exact Rnd.next (k - 1) (by omega) (done _ rfl hS rfl rfl)
  · simp -implicitDefEqProofs (maxSteps := 3000000) only [decide_eq_false hq]
    exact Rnd.out 2 ⟨rfl, hS, recs, E, A, hEn, by omega⟩
end
end Go.Proofs.Ytcmfgmhadeeieaa

namespace Go.Proofs.Ytcmfgmhadeeieaa
open Go Go.Abs

section
variable {h0 : Heap} {N d j bb s area gen : Nat} {T : Jn} {g : Heap} {w17 w15 : Value} {recs : List (List Nat)} {E : Dk} (A : AppAt h0 N d j bb s area gen T g w17 w15 recs E) (hT : T.area = area ∧ T.gen = gen ∧ 0 ≤ T.slot) (h2 : 2 ≤ E.n) (h80 : recs.length ≤ 80) (hdN : d < N)
include A hT h2 h80 hdN
omit hT in
/-- The last Open, and the positions that it finds. -/
theorem last5 (X : Nat → Value) {g1 : Heap} (o : Old g g1) (x7 : X 7 = ptr d 0) (x15 : X 15 = w15) (x17 : X 17 = w17) : ∃ g', t5k5_34 CD X g1 = some (.bool true, g') := by
  obtain ⟨cells, ow17, E17⟩ := A.all
  have hsm := A.dk.small
  have har : E.ar = (E.n - 2) / 2 := rfl
  have xg := Old.dk o A.dk
  obtain ⟨K, w, cl, M, g2, e1, x2, _, ow, En, k2, l1, l2, l3⟩ := r21 xg h2 A.up.down
  rw [Has.entries A.sup A.has (by omega)] at ow En
  have S := En.S ow
  rw [layR_snd] at S
  obtain ⟨u, cu, g3, e2, ou, Eu, o3⟩ := r30 S (by omega) (fun r hr => by have := (A.has.ok r hr).1; omega)
  have ow17b := ((ow17.keep o (fun _ _ h => h)).plainK k2 (fun b hb _ hB => by omega)).keep o3 (fun _ _ h => h)
  have E17b := ((E17.keep o (fun _ _ h => h.elim)).keep k2 (fun b _ hb => .inl (.inr (.inl hb)))).keep o3 (fun _ _ h => h.elim)
  have e3 := r29 (Eu.S ou) (E17b.S ow17b) (by omega)
  rw [decide_eq_true rfl] at e3
  have pos := ((A.pos.keep o (fun _ _ h => h)).plainK k2 (fun b hb _ hB => by omega)).keep o3 (fun _ _ h => h)
  have ow3 := ow.keep o3 (fun _ _ h => h)
  have En3 := En.keep o3 (fun _ h => h.elim)
  have hll := ow3.len
  rw [layR_length] at hll ow3
  have run : ∀ Z : Nat → Value, Z 10 = w → Z 15 = w15 → Z 27 = i64n 0 → ∃ g', endL (iter (codeA Try.prog CD (partOf Try.f5 [1, 1, 1, 1, 1, 1, 1, 1, 1, 1, 1, 1, 1, 1, 1, 0, 1, 0, 0])) rounds (mkF 290 Z) g3) (resultsA Try.prog Try.f5.results.toList) (b5_56 CD) = some (.bool true, g') := by
    intro Z z10 z15 z27
    refine endL_fin (n := 290) (fin := fun ex _ g' => ex = .exit 6 ∧ g' = g3) (Q := fun o : Out => ∃ g', o = some (Value.bool true, g'))
      (loop_fin (t5l5_111111111111111010_eq CD) (Inv := fun k y g' => ∃ q, q + k = recs.length ∧ y 27 = i64n q ∧ y 10 = w ∧ y 15 = w15 ∧ g' = g3) ?_ recs.length (by have : rounds = 18446744073709551616 := rfl; omega) ⟨0, Nat.zero_add _, z27, z10, z15, rfl⟩) ?_
    · rintro k y g' ⟨q, hqk, y27, y10, y15, rfl⟩
      unfold t5l5_111111111111111010
      simp -implicitDefEqProofs only [y27, y10, thenV_some, pu_some, hll, lss3]
      by_cases hq : q < recs.length
      · obtain ⟨b, i1, i2, _, _⟩ := ow3.at hq
        obtain ⟨c1, _⟩ := En3.2 q _ (layR_at recs 0 q hq)
        have ld1' : ld1 (ptr b (q * 2)) g' = some (i64n (recsTot (recs.take q)), g') := ld1_at i2 (by rw [Nat.mul_comm, c1, Nat.zero_add]) rfl
        obtain ⟨b', i3, i4, _, _⟩ := pos.at hq
        have hpl : (((layR recs 0).map (·.1)).map i64n)[q]? = some (i64n (recsTot (recs.take q))) := by
          rw [List.getElem?_map, List.getElem?_map, layR_at recs 0 q hq, Nat.zero_add]; rfl
        have ld2' : ld1 (ptr b' (q * 1)) g' = some (i64n (recsTot (recs.take q)), g') := ld1_at i4 (by rw [Nat.mul_one]; exact hpl) rfl
        simp -implicitDefEqProofs only [decide_eq_true hq, thenV_some, pu_some, i1, addP_ptr, Nat.add_zero, ld1', y15, i3, ld2', bin3n, beq_self_eq_true, Bool.not_true, add31 (show q + 1 ≤ 9223372036854775807 by omega)]
        exact Rnd.next (k - 1) (by omega) ⟨q + 1, by omega, rfl, y10, y15, rfl⟩
      · simp -implicitDefEqProofs only [decide_eq_false hq]
        exact Rnd.out 6 ⟨rfl, rfl⟩
    · rintro ex z g' ⟨rfl, rfl⟩
      simp -implicitDefEqProofs only [endL_exit, b5_56, if_true, t5k5_54_eq]
      unfold t5k5_54
      simp -implicitDefEqProofs only [r14, thenV_some]
      exact ⟨_, rfl⟩
  unfold t5k5_34
  simp -implicitDefEqProofs only [x7, thenV_some, e1, pu_some, xt30, xt31, xt32, bin28n0, bne_self_eq_false, bOf_bool, beq_self_eq_true, guardK_true, e2, x17, e3, unA_not, Bool.not_true, Bool.false_eq_true, if_false]
  exact run _ rfl x15 rfl
/-- The positions are read. -/
theorem mid5 (X : Nat → Value) (x7 : X 7 = ptr d 0) (x9 : X 9 = ptr j 0) (x15 : X 15 = w15) (x17 : X 17 = w17) : ∃ g', t5k5_26 CD X g = some (.bool true, g') := by
  unfold t5k5_26
  simp -implicitDefEqProofs only [thenV_some]
  refine endL_fin (Q := fun o : Out => ∃ g', o = some (Value.bool true, g')) (read5 A hT h2 h80 _ x9 x15 x17 rfl) ?_
  rintro ex z g' ⟨rfl, ho, hS, z15, z17⟩
  simp -implicitDefEqProofs only [endL_exit, b5_36, if_true, t5k5_34_eq]
  exact last5 A h2 h80 hdN z ho (hS.2.2.2.1.trans x7) (z15.trans x15) (z17.trans x17)
end

theorem plus_get {h a : Heap} {k : Blk} (hn : h.next ≤ a.next) : (Heap.plus true h a (a.alloc k)).get a.next = some k := by
  obtain ⟨p1, p2, p3, p4⟩ := Heap.pad_spec h (a.next - h.next)
  unfold Heap.plus
  rw [if_pos rfl, Heap.get_alloc, if_pos rfl]
  show ((Heap.pad (a.next - h.next) h).alloc k).get a.next = some k
  rw [Heap.get_alloc, if_pos (by rw [p3]; omega)]
theorem mkz (g : Heap) {m : Nat} (hm : m ≤ 10000) : mkR 1 1 (.int .u8 0) (i64n m) (i64n m) g = some (newSlice g m, g.alloc ((List.replicate m 0).map u8)) := mk1 (Nat.le_refl _) (by omega)

set_option maxRecDepth 100000 in
/-- From the first Rewrite on. -/
theorem from10 {h0 : Heap} {v1 v2 : Value} {first more : List (List Nat)} (R1 : RecsI h0 v1 first) (R2 : RecsI h0 v2 more) (h40 : first.length ≤ 40) (h40' : more.length ≤ 40) (h21 : ∀ r ∈ first, r.length ≤ 100000) (h21' : ∀ r ∈ more, r.length ≤ 100000)
    (X : Nat → Value) {g2 : Heap} {d j : Nat} {D : Dk} {n : Nat} (o2 : Old h0 g2) (x2 : IsDk g2 d D) (j2 : IsJn g2 j d (D.jn0 D.turn)) (u2 : Up D) (f2 : Fresh D) (hDn : D.n = n) (hlive : (D.jn0 D.turn).live D = true) (ok : JnOk (D.jn0 D.turn) D) (ld : h0.next ≤ d) (lj : h0.next ≤ j) (lb : h0.next ≤ D.bb)
    (himg : D.img = List.replicate (128 * n) 0) (h4 : 4 ≤ n) (hn : n ≤ 64) (x0 : X 0 = i64n n) (x1 : X 1 = v1) (xx2 : X 2 = v2) (x7 : X 7 = ptr d 0) (x9 : X 9 = ptr j 0) (x12 : X 12 = i64n (recsTot first)) (x13 : X 13 = .bool (longB first)) :
    ∃ g', t5k5_10 CD X g2 = some (.bool true, g') := by
  have har : D.ar = (D.n - 2) / 2 := rfl
  obtain ⟨w3, cl3, g3, e3, ow3, E3, o3⟩ := r24 (R1.S.old o2) (by omega) h21
  have x3 := Old.dk o3 x2
  have j3 := j2.keep o3 (fun h => h)
  have hdl := x2.lt
  have hbl := x2.blt
  have hjl := j2.lt
  have hF : ∀ b, g2.next ≤ b → ¬ rwF j d D b := by
    intro b hb
    unfold rwF
    omega
  have hr4 := r23 x3 j3 (by omega) ok (E3.G ow3 hF hF) (by omega)
  unfold RwPost at hr4
  obtain ⟨w4, g4, e4, x4, b4, n4, j4, k4, ow4⟩ := hr4
  have o04 : Old h0 g4 := (o2.trans o3).also k4 (fun c hc hB => by omega)
  have n3 := o3.next
  have e22 := r22 x4 j4 (by omega)
  have hl1 := R1.S.len
  unfold t5k5_10
  simp -implicitDefEqProofs only [x9, x1, thenV_some, e3, e4, xt20, xt21, pu_some, x13, bOf_bool, x12]
  have hkz : (D.jn0 D.turn).known ≠ 18446744073709551615 := show (0 : Nat) ≠ _ by omega
  -- the Rewrite that is refused
  have bad : ∀ want : Int, (D.jn0 D.turn).rewrite D first = (want, D, D.jn0 D.turn, []) → ∃ a5 c5 g5, CD 25 [ptr d 0] g4 = some (.slice a5 (128 * n) c5, g5) ∧ cvBS (.slice a5 (128 * n) c5) g5 = some (.string (strOf D.img), g5) ∧ lenL w4 = some (i64n 0) ∧
      mkR 1 1 (.int .u8 0) (i64n (128 * n)) (i64n (128 * n)) g5 = some (newSlice g5 (128 * n), g5.alloc ((List.replicate (128 * n) 0).map u8)) ∧ cvBS (newSlice g5 (128 * n)) (g5.alloc ((List.replicate (128 * n) 0).map u8)) = some (.string (strOf D.img), g5.alloc ((List.replicate (128 * n) 0).map u8)) ∧
      chkR true (cvBS (newSlice g5 (128 * n)) (Heap.plus true g4 g5 (g5.alloc ((List.replicate (128 * n) 0).map u8)))) (.string (strOf D.img)) = true ∧
      bin Try.prog .mul 3 (.int .i64 128) (i64n n) = some (i64n (128 * n)) := by
    intro want hrw
    rw [hrw] at x4 ow4
    dsimp only at x4 ow4
    obtain ⟨a5, c5, g5, e5, s5, _, _, o5⟩ := r25 x4
    have cv5 := cvBS_at (c := c5) s5
    rw [hDn] at e5 cv5
    have sz : sliceBytes (some ⟨g5.next, 0, none⟩) (128 * n) (g5.alloc ((List.replicate (128 * n) 0).map u8)) = some D.img := by
      rw [sliceBytes_at (l := List.replicate (128 * n) 0) (by rw [Heap.get_alloc, if_pos rfl]) (by simp) (by intro y hy; rw [List.eq_of_mem_replicate hy]; decide), List.drop_zero, List.take_of_length_le (by simp), himg]
    have sp : sliceBytes (some ⟨g5.next, 0, none⟩) (128 * n) (Heap.plus true g4 g5 (g5.alloc ((List.replicate (128 * n) 0).map u8))) = some D.img := by
      rw [sliceBytes_at (l := List.replicate (128 * n) 0) (plus_get o5.next) (by simp) (by intro y hy; rw [List.eq_of_mem_replicate hy]; decide), List.drop_zero, List.take_of_length_le (by simp), himg]
    exact ⟨a5, c5, g5, e5, cv5, ow4.len, mkz g5 (by omega), cvBS_at sz, chk_at (cvBS_at sp) (by simp [veq]), mul3 (a := 128) (by omega)⟩
  cases hlong : longB first with
  | true =>
    have hrw : (D.jn0 D.turn).rewrite D first = (3, D, D.jn0 D.turn, []) := by
      unfold Jn.rewrite
      rw [if_neg (by rw [hlive]; decide), if_pos (show (first.any fun r => decide (20000 < r.length)) = true from hlong)]
    obtain ⟨a5, c5, g5, e5, cv5, hl4, hmk, cv6, hck, hmul⟩ := bad 3 hrw
    have hE3 : ((D.jn0 D.turn).rewrite D first).1 = 3 := by rw [hrw]
    simp -implicitDefEqProofs only [sf, guardK_false, thenV_some, if_true, hE3, bin28e, beq_self_eq_true, bOf_bool, guardK_true, hl4, pu_some, eql3z, x7, e5, cv5, x0, hmul, hmk, cv6, bin_str_eql, r14, hck, Bool.and_true]
    exact ⟨_, rfl⟩
  | false =>
    simp -implicitDefEqProofs only [beq_self_eq_true, guardK_true, thenV_some, e22, pu_some]
    have hlen20 : ∀ r ∈ first, r.length ≤ 20000 := by
      intro r hr
      have := List.any_eq_false.1 hlong r hr
      simp at this; omega
    by_cases hfull : D.ar < recsTot first
    · have hrw : (D.jn0 D.turn).rewrite D first = (8, D, D.jn0 D.turn, []) := by
        unfold Jn.rewrite
        rw [if_neg (by rw [hlive]; decide), if_neg (by show ¬ longB first = true; rw [hlong]; decide), if_pos (.inl hfull)]
      obtain ⟨a5, c5, g5, e5, cv5, hl4, hmk, cv6, hck, hmul⟩ := bad 8 hrw
      have hE8 : ((D.jn0 D.turn).rewrite D first).1 = 8 := by rw [hrw]
      have hlv : ((D.jn0 D.turn).rewrite D first).2.2.1.live ((D.jn0 D.turn).rewrite D first).2.1 = true := by rw [hrw]; exact hlive
      have hra : ((D.jn0 D.turn).rewrite D first).2.1.ar = D.ar := by rw [hrw]
      simp -implicitDefEqProofs only [hlv, if_true, hra, gtr3, decide_eq_true hfull, Bool.false_eq_true, if_false, thenV_some, hE8, bin28e, beq_self_eq_true, bOf_bool, guardK_true, hl4, pu_some, eql3z, x7, e5, cv5, x0, hmul, hmk, cv6, bin_str_eql, r14, hck, Bool.and_true]
      exact ⟨_, rfl⟩
    · obtain ⟨E, s, hs0, hrw, al, H, sup, kn, fr⟩ := rewrite_up (J := D.jn0 D.turn) (vals := first) u2 (by omega) hlive (fun r hr => ⟨hlen20 r hr, R1.1.byte r hr⟩) (by omega) (by show 0 < _; omega) ok (f2.knows (by omega))
      rw [hrw] at x4 j4 ow4 b4 n4
      dsimp only at x4 j4 ow4 b4 n4
      rw [List.length_map, layR_length] at ow4
      have hE0 : ((D.jn0 D.turn).rewrite D first).1 = 0 := by rw [hrw]
      have hlv : ((D.jn0 D.turn).rewrite D first).2.2.1.live ((D.jn0 D.turn).rewrite D first).2.1 = true := by
        rw [hrw]
        unfold Jn.live at hlive ⊢
        show (!E.down && (E.turn == (D.jn0 D.turn).turn)) = true
        rw [al.down, al.turn]; exact hlive
      have hra : ((D.jn0 D.turn).rewrite D first).2.1.ar = D.ar := by rw [hrw]; exact al.ar
      have hlE : ({ turn := (D.jn0 D.turn).turn, slot := (D.jn0 D.turn).newSlot, area := (D.jn0 D.turn).newArea, gen := (D.jn0 D.turn).known + 1, known := (D.jn0 D.turn).known + 1, ready := true, fin := recsTot first } : Jn).live E = true := by
        rw [hrw] at hlv; exact hlv
      have e22' : CD 22 [ptr j 0] g4 = some (i64n D.ar, g4) := by rw [e22, hlv, if_pos rfl, hra]
      have e26 := r26 x4 j4 (by omega) (fun _ => by show recsTot first ≤ E.ar; rw [al.ar]; omega)
      have hfree : ({ turn := (D.jn0 D.turn).turn, slot := (D.jn0 D.turn).newSlot, area := (D.jn0 D.turn).newArea, gen := (D.jn0 D.turn).known + 1, known := (D.jn0 D.turn).known + 1, ready := true, fin := recsTot first } : Jn).free E = D.ar - recsTot first := by
        unfold Jn.free
        rw [hlE, al.ar]; rfl
      rw [hfree] at e26
      have hsub := sub3 (a := D.ar) (b := recsTot first) (by omega) (by omega)
      obtain ⟨w5, cl5, g5, e5, ow5, E5, o5⟩ := r24 (R1.S.old o04) (by omega) h21
      have n4' := k4.next
      have run : ∀ Z : Nat → Value, Z 2 = v2 → Z 7 = ptr d 0 → Z 9 = ptr j 0 → Z 15 = w4 → Z 17 = w5 → Z 18 = i64n 0 →
          ∃ g', endL (iter (codeA Try.prog CD (partOf Try.f5 [1, 1, 1, 1, 1, 1, 1, 1, 1, 1, 1, 0, 1, 0, 0])) rounds (mkF 290 Z) g5) (resultsA Try.prog Try.f5.results.toList) (b5_28 CD) = some (.bool true, g') := by
        intro Z z2 z7 z9 z15 z17 z18
        have hok : ∀ (F : Dk) (f : Nat), f ≤ F.ar → JnOk { ({ turn := (D.jn0 D.turn).turn, slot := (D.jn0 D.turn).newSlot, area := (D.jn0 D.turn).newArea, gen := (D.jn0 D.turn).known + 1, known := (D.jn0 D.turn).known + 1, ready := true, fin := recsTot first } : Jn) with fin := f } F := by
          intro F f hf
          exact ⟨.inr (.inl rfl), by show (0 : Nat) ≤ 1; omega, by show 1 < _; omega, by show 1 < _; omega, fun _ => ⟨hf, by show (0 : Int) ≤ 0; omega⟩⟩
        have hb : E.bb = D.bb := al.bb
        have lowN : ∀ {w : Value} {len : Nat} {cl : List Value} {M : Nat} {q : Heap}, OwnC q M 1 w len cl → g2.next ≤ M → OwnC q g2.next 1 w len cl := by
          intro w len cl M q oo hM
          obtain ⟨z1, z2, z3, z4 | ⟨bb, ss, z4, z5, z6⟩⟩ := oo
          · exact ⟨z1, z2, z3, .inl z4⟩
          · exact ⟨z1, z2, z3, .inr ⟨bb, ss, z4, by omega, z6⟩⟩
        have A0 : AppAt h0 g2.next d j D.bb s (D.jn0 D.turn).newArea ((D.jn0 D.turn).known + 1) { turn := (D.jn0 D.turn).turn, slot := (D.jn0 D.turn).newSlot, area := (D.jn0 D.turn).newArea, gen := (D.jn0 D.turn).known + 1, known := (D.jn0 D.turn).known + 1, ready := true, fin := recsTot first } g5 w5 w4 first E :=
          ⟨o04.trans o5, Old.dk o5 x4, u2.alike al, hb, j4.keep o5 (fun h => h), hlE, H, sup, ⟨cl5, lowN ow5 (by omega), E5.A (fun b hb2 => by show ¬ (b = j ∨ b = d ∨ b = D.bb); omega)⟩, (lowN ow4 (by omega)).keep o5 (fun _ _ h => h)⟩
        refine endL_fin (Q := fun o : Out => ∃ g', o = some (Value.bool true, g'))
          (loop_fin (t5l5_11111111111010_eq CD) (app_round R2 h40' h21' ⟨rfl, rfl, rfl⟩ hok ⟨hdl, hjl, hbl⟩ ⟨ld, lj, lb⟩ h4 hn Z (L := 40) (Nat.le_refl _) z2 z7 z9) more.length (by have : rounds = 18446744073709551616 := rfl; omega)
            ⟨0, first, E, Nat.zero_add _, z18, Same5.refl _, by rw [z15, z17]; exact A0, al.n.trans hDn, by omega, fun _ => by rw [z15, z17]; exact (ow4.keep o5 (fun _ _ h => h)).sep ow5 ow4 (Nat.le_refl _), by have := o5.next; omega⟩) ?_
        rintro ex z g' ⟨rfl, hS, recs, F, A, hFn, hrl⟩
        simp -implicitDefEqProofs only [endL_exit, b5_28, if_true, t5k5_26_eq]
        exact mid5 A ⟨rfl, rfl, by show (0 : Int) ≤ 0; omega⟩ (by omega) (by omega) hdl z (hS.2.2.2.1.trans z7) (hS.2.2.2.2.trans z9) rfl rfl
      simp -implicitDefEqProofs only [hlv, if_true, hra, gtr3, decide_eq_false hfull, Bool.false_eq_true, if_false, thenV_some, hE0, bin28n0, bne_self_eq_false, beq_self_eq_true, bOf_bool, guardK_true, ow4.len, hl1, pu_some, bin3n, Bool.not_true, e26, e22', hsub, e5]
      exact run _ xx2 x7 x9 rfl rfl rfl
end Go.Proofs.Ytcmfgmhadeeieaa

namespace Go.Proofs.Ytcmfgmhadeeieaa
open Go Go.Abs

/-- What is so of a script that is not heavy. -/
theorem light2 {n : Int} {ops : List OpD} (h : heavyB n ops = false) : ¬ (64 < n ∧ n ≤ 4096) ∧ ops.length ≤ 100 ∧ ∀ op ∈ ops, op.recs.length ≤ 40 ∧ op.data.length ≤ 21000 ∧ ∀ r ∈ op.recs, r.length ≤ 21000 := by
  unfold heavyB at h
  simp only [Bool.or_eq_false_iff, Bool.and_eq_false_iff, decide_eq_false_iff_not] at h
  obtain ⟨⟨h1, h2⟩, h3⟩ := h
  refine ⟨fun ⟨a, b⟩ => h1.elim (fun h => h a) (fun h => h b), by omega, fun op hop => ?_⟩
  have := List.any_eq_false.1 h3 op hop
  unfold heavyOp at this
  simp only [Bool.or_eq_true, not_or, decide_eq_true_eq, List.any_eq_true, not_exists, not_and] at this
  exact ⟨by omega, by omega, fun r hr => by have := this.2 r hr; omega⟩
/-- heavy, asked about two calls' records. -/
theorem r17b {h : Heap} {v w : Value} {va wa : List (List Nat)} (x : RecsV h v va) (y : RecsV h w wa) (n : Int) :
    bldR [(.int .i64 0), (.int .i64 0), (.int .i64 0), (.int .u8 0), (.slice none 0 0), (.slice none 0 0)] [(5, 1, v)] = some (.agg #[.int .i64 0, .int .i64 0, .int .i64 0, .int .u8 0, .slice none 0 0, v]) ∧
    bldR [(.int .i64 0), (.int .i64 0), (.int .i64 0), (.int .u8 0), (.slice none 0 0), (.slice none 0 0)] [(5, 1, w)] = some (.agg #[.int .i64 0, .int .i64 0, .int .i64 0, .int .u8 0, .slice none 0 0, w]) ∧
    bslR 6 (.agg #[(.int .i64 0), (.int .i64 0), (.int .i64 0), (.int .u8 0), (.slice none 0 0), (.slice none 0 0)]) 2 [(0, .agg #[.int .i64 0, .int .i64 0, .int .i64 0, .int .u8 0, .slice none 0 0, v]), (1, .agg #[.int .i64 0, .int .i64 0, .int .i64 0, .int .u8 0, .slice none 0 0, w])] h = some (.slice (some ⟨h.next, 0, none⟩) 2 2, h.alloc [.int .i64 0, .int .i64 0, .int .i64 0, .int .u8 0, .slice none 0 0, v, .int .i64 0, .int .i64 0, .int .i64 0, .int .u8 0, .slice none 0 0, w]) ∧
    CD 17 [.int .i64 n, .slice (some ⟨h.next, 0, none⟩) 2 2] (h.alloc [.int .i64 0, .int .i64 0, .int .i64 0, .int .u8 0, .slice none 0 0, v, .int .i64 0, .int .i64 0, .int .i64 0, .int .u8 0, .slice none 0 0, w]) = some (.bool (heavyB n [⟨0, 0, 0, 0, [], va⟩, ⟨0, 0, 0, 0, [], wa⟩]), h.alloc [.int .i64 0, .int .i64 0, .int .i64 0, .int .u8 0, .slice none 0 0, v, .int .i64 0, .int .i64 0, .int .i64 0, .int .u8 0, .slice none 0 0, w]) := by
  have oA : Old h (h.alloc [.int .i64 0, .int .i64 0, .int .i64 0, .int .u8 0, .slice none 0 0, v, .int .i64 0, .int .i64 0, .int .i64 0, .int .u8 0, .slice none 0 0, w]) := Kept.alloc _ _ _
  have xA := x.old oA
  have yA := y.old oA
  obtain ⟨a, m, c, rfl, h1, h2, h3⟩ := x
  obtain ⟨a', m', c', rfl, h1', h2', h3'⟩ := y
  refine ⟨rfl, rfl, rfl, CD_known ?_⟩
  rw [X17]
  refine s17_at n ⟨_, 2, 2, rfl, rfl, by decide, fun i hi => ?_⟩
  obtain rfl | rfl : i = 0 ∨ i = 1 := by omega
  · exact ⟨h.next, 0, none, _, rfl, by rw [Heap.get_alloc, if_pos rfl], _, rfl, rfl, rfl, rfl, rfl, ⟨_, rfl, rfl, none, 0, 0, rfl, rfl, Nat.zero_le _⟩, ⟨_, rfl, rfl, xA⟩, ⟨rfl, rfl, rfl, by show (0 : Nat) < 256; omega⟩⟩
  · exact ⟨h.next, 0, none, _, rfl, by rw [Heap.get_alloc, if_pos rfl], _, rfl, rfl, rfl, rfl, rfl, ⟨_, rfl, rfl, none, 0, 0, rfl, rfl, Nat.zero_le _⟩, ⟨_, rfl, rfl, yA⟩, ⟨rfl, rfl, rfl, by show (0 : Nat) < 256; omega⟩⟩

set_option maxRecDepth 100000 in
theorem rec5 (a : Int) {h : Heap} {v1 v2 : Value} {first more : List (List Nat)} (R1 : RecsI h v1 first) (R2 : RecsI h v2 more) : ∃ h', CD 5 [.int .i64 a, v1, v2] h = some (.bool true, h') := by
  have key : ∃ h', t5 CD (.int .i64 a) v1 v2 h = some (.bool true, h') := by
    obtain ⟨l1, l2, l3, l4⟩ := r17b R1.1 R2.1 a
    unfold t5
    simp -implicitDefEqProofs only [thenV_some, bin_lss, pu_some, bOf_bool]
    by_cases h1 : a < 4
    · simp -implicitDefEqProofs only [decide_eq_true h1, sf, guardK_false, thenV_some, if_true, bOf_bool, r14]
      exact ⟨_, rfl⟩
    have oA : Old h (h.alloc [.int .i64 0, .int .i64 0, .int .i64 0, .int .u8 0, .slice none 0 0, v1, .int .i64 0, .int .i64 0, .int .i64 0, .int .u8 0, .slice none 0 0, v2]) := Kept.alloc _ _ _
    simp -implicitDefEqProofs only [decide_eq_false h1, beq_self_eq_true, guardK_true, thenV_some, Bool.false_eq_true, if_false, pu_some, bOf_bool, l1, l2, l3, l4]
    generalize h.alloc [.int .i64 0, .int .i64 0, .int .i64 0, .int .u8 0, .slice none 0 0, v1, .int .i64 0, .int .i64 0, .int .i64 0, .int .u8 0, .slice none 0 0, v2] = hA at *
    cases hh : heavyB a [⟨0, 0, 0, 0, [], first⟩, ⟨0, 0, 0, 0, [], more⟩] with
    | true =>
      simp -implicitDefEqProofs only [sf, guardK_false, thenV_some, if_true, r14]
      exact ⟨_, rfl⟩
    | false =>
      obtain ⟨hl1, _, hl3⟩ := light2 hh
      by_cases h2 : a > 4096
      · simp -implicitDefEqProofs only [beq_self_eq_true, guardK_true, thenV_some, bin_gtr, pu_some, decide_eq_true h2, Bool.false_eq_true, if_false, r14]
        exact ⟨_, rfl⟩
      obtain ⟨n, rfl⟩ : ∃ n : Nat, a = n := ⟨a.toNat, by omega⟩
      obtain ⟨f1, _, f3⟩ := hl3 _ List.mem_cons_self
      obtain ⟨m1, _, m3⟩ := hl3 _ (List.mem_cons_of_mem _ List.mem_cons_self)
      have f1 : first.length ≤ 40 := f1
      have m1 : more.length ≤ 40 := m1
      have f3 : ∀ r ∈ first, r.length ≤ 100000 := fun r hr => Nat.le_trans (f3 r hr) (by decide)
      have m3 : ∀ r ∈ more, r.length ≤ 100000 := fun r hr => Nat.le_trans (m3 r hr) (by decide)
      have hnA : h.next ≤ hA.next := oA.next
      obtain ⟨d, D, j, w2, N2, g1, g2, e1, e2, x2, j2, o2, u2, f2, hDn, hDt, hlive, ok, ld, lj, lb, himg, own⟩ := new_open hA (n := n) (by omega) (by omega)
      have hl0 := own.len
      have bz : bin Try.prog .neq 3 (i64n 0) (.int .i64 0) = some (.bool false) := by kernel_rfl
      have e22 := r22 x2 j2 (by omega)
      rw [hlive, if_pos rfl] at e22
      have har : D.ar = (D.n - 2) / 2 := rfl
      have hsub : bin Try.prog .sub 3 (.int .i64 (n : Int)) (.int .i64 2) = some (i64n (n - 2)) := sub3 (a := n) (b := 2) (by omega) (by omega)
      have hquo : bin Try.prog .quo 3 (i64n (n - 2)) (.int .i64 2) = some (i64n ((n - 2) / 2)) := by
        rw [bin_quo _ _ _ _ _ (by decide)]
        have : ((n - 2 : Nat) : Int).tdiv 2 = (((n - 2) / 2 : Nat) : Int) := by rw [Int.tdiv_eq_ediv_of_nonneg (by omega)]; rfl
        rw [this, wrap_i64 (by omega) (by omega)]
      have hare : D.ar = (n - 2) / 2 := by rw [har, hDn]
      rw [hare] at e22
      have o02 : Old h g2 := oA.trans o2
      have run : ∀ Z : Nat → Value, Z 0 = i64n n → Z 1 = v1 → Z 2 = v2 → Z 7 = ptr d 0 → Z 9 = ptr j 0 → Z 12 = i64n 0 → Z 13 = .bool false → Z 14 = i64n 0 →
          ∃ h', endL (iter (codeA Try.prog CD (partOf Try.f5 [1, 1, 1, 1, 1, 1, 0, 1, 0, 0])) rounds (mkF 290 Z) g2) (resultsA Try.prog Try.f5.results.toList) (b5_12 CD) = some (.bool true, h') := by
        intro Z z0 z1 z2 z7 z9 z12 z13 z14
        refine endL_fin (Q := fun o : Out => ∃ h', o = some (Value.bool true, h')) (need5 Z g2 (R1.old o02).S f1 f3 z1 z12 z13 z14) ?_
        rintro ex z g ⟨rfl, rfl, hS, y12, y13⟩
        simp -implicitDefEqProofs only [endL_exit, b5_12, if_true, t5k5_10_eq]
        exact from10 R1 R2 f1 m1 f3 m3 z o02 x2 j2 u2 f2 hDn hlive ok (by omega) (by omega) (by omega) himg (by omega) (by omega) (hS.1.trans z0) (hS.2.1.trans z1) (hS.2.2.1.trans z2) (hS.2.2.2.1.trans z7) (hS.2.2.2.2.trans z9) y12 y13
      simp -implicitDefEqProofs only [beq_self_eq_true, guardK_true, thenV_some, bin_gtr, pu_some, decide_eq_false h2, Bool.false_eq_true, if_false, e1, xt20, xt21, e2, xt30, xt31, xt32, bin28n0, bne_self_eq_false, bOf_bool, hl0, bz, e22, hsub, hquo, bin3n, Bool.not_true]
      exact run _ rfl rfl rfl rfl rfl rfl rfl rfl
  obtain ⟨h', e⟩ := key
  exact ⟨h', CD_body is5 rfl ((t5_eq _ _ _ _ _).trans e)⟩
end Go.Proofs.Ytcmfgmhadeeieaa

