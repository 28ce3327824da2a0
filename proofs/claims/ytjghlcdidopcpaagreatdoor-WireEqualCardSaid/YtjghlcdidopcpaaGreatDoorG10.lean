/-
  The wire: copies of slices, and of messages.
  Conditions: as each theorem states.
  The wire: writing into a copy's elements; the loops of WireEqual.
  Conditions: as each theorem states.
  WireEqual, the walk.
  Conditions: as each theorem states.
-/
import Derived.Test.YtjghlcdidopcpaaGreatDoorG9
namespace Go.Proofs.YtjghlcdidopcpaaGreatDoor
open Go Go.Abs
attribute [local congr] thenV_congr

/-- The block that a slice leads to is one of these. -/
def In (v : Value) (p q : Nat) : Prop := ∀ x, slB v = some x → p ≤ x ∧ x < q
theorem In.mono {v : Value} {p q p' q' : Nat} (x : In v p q) (h1 : p' ≤ p) (h2 : q ≤ q') : In v p' q' := fun y hy => by
  have := x y hy
  omega
theorem newC_eq (cs : List Value) (h : Heap) : newC cs h = some (ptr h.next 0, h.alloc cs) := rfl
theorem app_new {h : Heap} {ks : List Kd} {v : Value} {n : Nat} {cs : List Value} (by_ : Nat) (x : SlN h ks v n cs) (hz : 0 < ks.length) (hn : n ≤ 1000000) (hb : by_ ≤ 100) :
    ∃ v' h', appendA ks.length by_ (.slice (some ⟨h.next, 0, none⟩) 0 0) v (h.alloc []) = some (v', h') ∧ SlN h' ks v' n cs ∧ Old h h' ∧ In v' h.next h'.next ∧ h.next < h'.next := by
  have o1 : Old h (h.alloc []) := Kept.alloc _ _ _
  have n1 : (h.alloc []).next = h.next + 1 := Heap.next_alloc ..
  have hf := (x.old o1).first hz
  have hl := x.cells
  have ht := x.typed
  have hall := ht.all
  obtain ⟨a, c, rfl, -⟩ := x
  have hc : n * by_ ≤ 140737488355328 := by
    have := Nat.mul_le_mul hn hb
    omega
  have hcond : (!(oneCells cs) || !(decide ((0 + n) * by_ ≤ 140737488355328)) || !(decide (0 + n ≤ 4611686018427387904)) || decide (cs.length ≠ n * ks.length)) = false := by
    rw [hall.2, Nat.zero_add, decide_eq_true hc, decide_eq_true (by omega), decide_eq_false (by omega)]; rfl
  by_cases h0 : n = 0
  · subst h0
    refine ⟨.slice (some ⟨h.next, 0, none⟩) 0 0, h.alloc [], ?_, ⟨_, _, rfl, fun h => (by cases h), ht, fun h => by omega⟩, o1, fun x hx => (by cases hx), by omega⟩
    unfold appendA
    simp only [lenA, hf]
    rw [if_neg (by rw [hcond]; decide), if_pos (by omega), if_pos trivial]
  · refine ⟨.slice (some ⟨(h.alloc []).next, 0, some ks.length⟩) (0 + n) (0 + n), (h.alloc []).alloc cs, ?_, ⟨_, _, by rw [Nat.zero_add], fun h => (by cases h), ht, fun _ => ⟨_, 0, _, cs, rfl, by rw [Heap.get_alloc, if_pos rfl], by omega, by rw [List.drop_zero, ← hl, List.take_length]⟩⟩, o1.trans (Kept.alloc _ _ _), fun x hx => ?_, by rw [Heap.next_alloc]; omega⟩
    · have f0 : firstA ks.length 0 (.slice (some ⟨h.next, 0, none⟩) 0 0) (h.alloc []) = some [] := by simp [firstA]
      unfold appendA
      simp only [lenA, hf]
      rw [if_neg (by rw [hcond]; decide), if_neg (by omega)]
      simp only [f0]
      rw [if_neg (by simp)]
      rfl
    · obtain ⟨m, rfl⟩ : ∃ m, n = m + 1 := ⟨n - 1, by omega⟩
      rw [Nat.zero_add] at hx
      have hx : (h.alloc []).next = x := Option.some.inj hx
      rw [Heap.next_alloc]
      omega
theorem bslM (h : Heap) : bslR 2 (.agg #[(.int .u64 0), (.int .u8 0)]) 0 [] h = some (.slice (some ⟨h.next, 0, none⟩) 0 0, h.alloc []) := rfl
theorem bslB (h : Heap) : bslR 1 (.int .u8 0) 0 [] h = some (.slice (some ⟨h.next, 0, none⟩) 0 0, h.alloc []) := rfl
theorem bslD (h : Heap) : bslR 32 (.agg (List.replicate 32 (.int .u8 0)).toArray) 0 [] h = some (.slice (some ⟨h.next, 0, none⟩) 0 0, h.alloc []) := rfl
theorem bslRec (h : Heap) : bslR 39 (.agg #[(.int .u8 0), (.int .u8 0), (.int .u8 0), (.int .u8 0), (.int .u8 0), (.int .u8 0), (.int .u8 0), (.int .u8 0), (.int .u8 0), (.int .u8 0), (.int .u8 0), (.int .u8 0), (.int .u8 0), (.int .u8 0), (.int .u8 0), (.int .u8 0), (.int .u8 0), (.int .u8 0), (.int .u8 0), (.int .u8 0), (.int .u8 0), (.int .u8 0), (.int .u8 0), (.int .u8 0), (.int .u8 0), (.int .u8 0), (.int .u8 0), (.int .u8 0), (.int .u8 0), (.int .u8 0), (.int .u8 0), (.int .u8 0), (.int .u8 0), (.int .i64 0), (.int .u64 0), (.int .u64 0), (.bool false), (.int .i64 0), (.int .i64 0)]) 0 [] h = some (.slice (some ⟨h.next, 0, none⟩) 0 0, h.alloc []) := rfl
theorem SlN.veq {h : Heap} {ks : List Kd} {v : Value} {n : Nat} {cs : List Value} (x : SlN h ks v n cs) : veq v v = true := by
  obtain ⟨a, c, rfl, -⟩ := x
  simp [Abs.veq]
theorem chk_at {o : Out} {v : Value} {q : Heap} (h : o = some (v, q)) (hv : veq v v = true) : chkR true o v = true := by
  unfold chkR Abs.same
  rw [h]
  simpa using hv
theorem is68 : IsFn Tryz.prog 68 Tryz.f68 := ⟨by kernel_rfl, by kernel_rfl, by kernel_rfl, by kernel_rfl⟩
theorem nil26 (a : Option Addr) (n c : Nat) : bin Tryz.prog .eql 26 (.slice a n c) (.slice none 0 0) = some (.bool a.isNone) := by cases a <;> kernel_rfl
theorem r68 {h : Heap} {v : Value} {n : Nat} {cs : List Value} (hG : 4 ≤ h.n0) (x : SlN h memK v n cs) (hn : n ≤ 1000000) : ∃ v' h', CW 68 [v] h = some (v', h') ∧ SlN h' memK v' n cs ∧ Old h h' ∧ In v' h.next h'.next := by
  obtain ⟨v', h', e1, e2, e3, e4, _⟩ := app_new 16 x (by decide) hn (by decide)
  have e1 : appendA 2 16 (.slice (some ⟨h.next, 0, none⟩) 0 0) v (h.alloc []) = some (v', h') := e1
  have ht := x.typed
  obtain ⟨a, c, rfl, h1, -⟩ := x
  cases a with
  | none =>
    obtain rfl : n = 0 := h1 rfl
    refine ⟨.slice none 0 0, h, CW_body is68 hG rfl ((t68_eq _ _ _).trans ?_), ⟨_, _, rfl, fun _ => rfl, ht, fun h => by omega⟩, Kept.refl _ _, fun x hx => by cases hx⟩
    unfold t68
    simp -implicitDefEqProofs only [thenV_some, pu_some, nil26, Option.isNone_none]
  | some y =>
    refine ⟨v', h', CW_body is68 hG rfl ((t68_eq _ _ _).trans ?_), e2, e3, e4⟩
    unfold t68
    simp -implicitDefEqProofs only [thenV_some, pu_some, nil26, Option.isNone_some, bslM, e1]
theorem is69 : IsFn Tryz.prog 69 Tryz.f69 := ⟨by kernel_rfl, by kernel_rfl, by kernel_rfl, by kernel_rfl⟩
theorem nil22 (a : Option Addr) (n c : Nat) : bin Tryz.prog .eql 22 (.slice a n c) (.slice none 0 0) = some (.bool a.isNone) := by cases a <;> kernel_rfl
theorem r69 {h : Heap} {v : Value} {n : Nat} {cs : List Value} (hG : 4 ≤ h.n0) (x : SlN h [.u8] v n cs) (hn : n ≤ 1000000) : ∃ v' h', CW 69 [v] h = some (v', h') ∧ SlN h' [.u8] v' n cs ∧ Old h h' ∧ In v' h.next h'.next := by
  obtain ⟨v', h', e1, e2, e3, e4, _⟩ := app_new 1 x (by decide) hn (by decide)
  have e1 : appendA 1 1 (.slice (some ⟨h.next, 0, none⟩) 0 0) v (h.alloc []) = some (v', h') := e1
  have ht := x.typed
  obtain ⟨a, c, rfl, h1, -⟩ := x
  cases a with
  | none =>
    obtain rfl : n = 0 := h1 rfl
    refine ⟨.slice none 0 0, h, CW_body is69 hG rfl ((t69_eq _ _ _).trans ?_), ⟨_, _, rfl, fun _ => rfl, ht, fun h => by omega⟩, Kept.refl _ _, fun x hx => by cases hx⟩
    unfold t69
    simp -implicitDefEqProofs only [thenV_some, pu_some, nil22, Option.isNone_none]
  | some y =>
    refine ⟨v', h', CW_body is69 hG rfl ((t69_eq _ _ _).trans ?_), e2, e3, e4⟩
    unfold t69
    simp -implicitDefEqProofs only [thenV_some, pu_some, nil22, Option.isNone_some, bslB, e1]
theorem is70 : IsFn Tryz.prog 70 Tryz.f70 := ⟨by kernel_rfl, by kernel_rfl, by kernel_rfl, by kernel_rfl⟩
theorem nil29 (a : Option Addr) (n c : Nat) : bin Tryz.prog .eql 29 (.slice a n c) (.slice none 0 0) = some (.bool a.isNone) := by cases a <;> kernel_rfl
theorem r70 {h : Heap} {v : Value} {n : Nat} {cs : List Value} (hG : 4 ≤ h.n0) (x : SlN h recK v n cs) (hn : n ≤ 1000000) : ∃ v' h', CW 70 [v] h = some (v', h') ∧ SlN h' recK v' n cs ∧ Old h h' ∧ In v' h.next h'.next := by
  obtain ⟨v', h', e1, e2, e3, e4, _⟩ := app_new 88 x (by decide) hn (by decide)
  have e1 : appendA 39 88 (.slice (some ⟨h.next, 0, none⟩) 0 0) v (h.alloc []) = some (v', h') := e1
  have ht := x.typed
  obtain ⟨a, c, rfl, h1, -⟩ := x
  cases a with
  | none =>
    obtain rfl : n = 0 := h1 rfl
    refine ⟨.slice none 0 0, h, CW_body is70 hG rfl ((t70_eq _ _ _).trans ?_), ⟨_, _, rfl, fun _ => rfl, ht, fun h => by omega⟩, Kept.refl _ _, fun x hx => by cases hx⟩
    unfold t70
    simp -implicitDefEqProofs only [thenV_some, pu_some, nil29, Option.isNone_none]
  | some y =>
    refine ⟨v', h', CW_body is70 hG rfl ((t70_eq _ _ _).trans ?_), e2, e3, e4⟩
    unfold t70
    simp -implicitDefEqProofs only [thenV_some, pu_some, nil29, Option.isNone_some, bslRec, e1]
theorem is71 : IsFn Tryz.prog 71 Tryz.f71 := ⟨by kernel_rfl, by kernel_rfl, by kernel_rfl, by kernel_rfl⟩
theorem nil30 (a : Option Addr) (n c : Nat) : bin Tryz.prog .eql 30 (.slice a n c) (.slice none 0 0) = some (.bool a.isNone) := by cases a <;> kernel_rfl
theorem r71 {h : Heap} {v : Value} {n : Nat} {cs : List Value} (hG : 4 ≤ h.n0) (x : SlN h digK v n cs) (hn : n ≤ 1000000) : ∃ v' h', CW 71 [v] h = some (v', h') ∧ SlN h' digK v' n cs ∧ Old h h' ∧ In v' h.next h'.next := by
  obtain ⟨v', h', e1, e2, e3, e4, _⟩ := app_new 32 x (by decide) hn (by decide)
  have e1 : appendA 32 32 (.slice (some ⟨h.next, 0, none⟩) 0 0) v (h.alloc []) = some (v', h') := e1
  have ht := x.typed
  obtain ⟨a, c, rfl, h1, -⟩ := x
  cases a with
  | none =>
    obtain rfl : n = 0 := h1 rfl
    refine ⟨.slice none 0 0, h, CW_body is71 hG rfl ((t71_eq _ _ _).trans ?_), ⟨_, _, rfl, fun _ => rfl, ht, fun h => by omega⟩, Kept.refl _ _, fun x hx => by cases hx⟩
    unfold t71
    simp -implicitDefEqProofs only [thenV_some, pu_some, nil30, Option.isNone_none]
  | some y =>
    refine ⟨v', h', CW_body is71 hG rfl ((t71_eq _ _ _).trans ?_), e2, e3, e4⟩
    unfold t71
    simp -implicitDefEqProofs only [thenV_some, pu_some, nil30, Option.isNone_some, bslD, e1]

theorem set_app {A B B' : List Value} {i : Nat} {v : Value} (j : Nat) (h : A.length + j = i) (e : B.set j v = B') : (A ++ B).set i v = A ++ B' := by
  subst h
  rw [List.set_append_right _ _ (by omega), Nat.add_sub_cancel_left, e]
theorem get_app {A B : List Value} {i : Nat} {v : Value} (j : Nat) (h : A.length + j = i) (e : B[j]? = some v) : (A ++ B)[i]? = some v := by
  subst h
  rw [List.getElem?_append_right (by omega), Nat.add_sub_cancel_left, e]
section
variable {M : MsgD} {s : Sl6}
theorem set6 (v : Value) : (M.cells s).set 6 v = M.cells { s with a := v } := rfl
theorem set7 (v : Value) : (M.cells s).set 7 v = M.cells { s with b := v } := rfl
theorem set8 (v : Value) : (M.cells s).set 8 v = M.cells { s with c := v } := rfl
variable (ok : M.Ok)
include ok
theorem man_len : (M.man s).length = 37 := by
  have hl : M.mobj.length = 32 := ok.mobj.1
  unfold MsgD.man
  simp [hl]
theorem cells_len : (M.cells s).length = 116 := by
  have h1 : M.root.length = 32 := ok.root.1
  have h2 : M.obj.length = 32 := ok.obj.1
  have h3 := man_len (s := s) ok
  unfold MsgD.cells MsgD.front
  simp [h1, h2, h3]
theorem set42 (v : Value) : (M.cells s).set 42 v = M.cells { s with d := v } :=
  set_app 32 rfl (set_app 0 (by rw [ok.root.1]; rfl) rfl)
theorem man36 (v : Value) : (M.man s).set 36 v = M.man { s with e := v } := set_app 32 rfl (set_app 0 (by rw [ok.mobj.1]; rfl) rfl)
theorem set112 (v : Value) : (M.cells s).set 112 v = M.cells { s with e := v } :=
  set_app 102 rfl (set_app 70 (by rw [ok.root.1]; rfl) (set_app 68 rfl (set_app 36 (by rw [ok.obj.1]; rfl) (by
    rw [List.set_append_left _ _ (by rw [man_len ok]; omega), man36 ok]))))
theorem set114 (v : Value) : (M.cells s).set 114 v = M.cells { s with f := v } :=
  set_app 104 rfl (set_app 72 (by rw [ok.root.1]; rfl) (set_app 70 rfl (set_app 38 (by rw [ok.obj.1]; rfl) (set_app 1 (by rw [man_len ok]) rfl))))
theorem at42 : (M.cells s)[42]? = some s.d := get_app 32 rfl (get_app 0 (by rw [ok.root.1]; rfl) rfl)
theorem at112 : (M.cells s)[112]? = some s.e :=
  get_app 102 rfl (get_app 70 (by rw [ok.root.1]; rfl) (get_app 68 rfl (get_app 36 (by rw [ok.obj.1]; rfl) (by
    rw [List.getElem?_append_left (by rw [man_len ok]; omega)]
    exact get_app 32 rfl (get_app 0 (by rw [ok.mobj.1]; rfl) rfl)))))
theorem at114 : (M.cells s)[114]? = some s.f := get_app 104 rfl (get_app 72 (by rw [ok.root.1]; rfl) (get_app 70 rfl (get_app 38 (by rw [ok.obj.1]; rfl) (get_app 1 (by rw [man_len ok]) rfl))))
end
/-- The slices lead to blocks of their own. -/
structure Sep (s : Sl6) (p q : Nat) : Prop where
  ex : ∃ p1 p2 p3 p4 p5, p ≤ p1 ∧ p1 ≤ p2 ∧ p2 ≤ p3 ∧ p3 ≤ p4 ∧ p4 ≤ p5 ∧ p5 ≤ q ∧ In s.a p p1 ∧ In s.b p1 p2 ∧ In s.c p2 p3 ∧ In s.d p3 p4 ∧ In s.e p4 p5 ∧ In s.f p5 q
theorem Sep.all {s : Sl6} {p q : Nat} (x : Sep s p q) : In s.a p q ∧ In s.b p q ∧ In s.c p q ∧ In s.d p q ∧ In s.e p q ∧ In s.f p q := by
  obtain ⟨p1, p2, p3, p4, p5, l1, l2, l3, l4, l5, l6, a, b, c, d, e, f⟩ := x.ex
  exact ⟨a.mono (by omega) (by omega), b.mono (by omega) (by omega), c.mono (by omega) (by omega), d.mono (by omega) (by omega), e.mono (by omega) (by omega), f.mono (by omega) (by omega)⟩
theorem Sep.off {s : Sl6} {p q : Nat} (x : Sep s p q) {B : Nat → Prop} (hB : ∀ b, B b → b < p) : s.off B := by
  obtain ⟨a, b, c, d, e, f⟩ := x.all
  rintro v (rfl | rfl | rfl | rfl | rfl | rfl) y hy hb
  · have := a y hy; have := hB y hb; omega
  · have := b y hy; have := hB y hb; omega
  · have := c y hy; have := hB y hb; omega
  · have := d y hy; have := hB y hb; omega
  · have := e y hy; have := hB y hb; omega
  · have := f y hy; have := hB y hb; omega
/-- What a function on a message has made: its box, and a cell for its result. -/
structure Bx (h0 h : Heap) (z k : Blk) : Prop where
  old : Old h0 h
  nx : h0.next + 2 ≤ h.next
  g : h.get h0.next = some k
  g2 : h.get (h0.next + 1) = some z
theorem Bx.mk0 (h : Heap) (k z : Blk) : Bx h ((h.alloc k).alloc z) z k := by
  have o1 : Old h (h.alloc k) := Kept.alloc _ _ _
  have o2 : Old (h.alloc k) ((h.alloc k).alloc z) := Kept.alloc _ _ _
  refine ⟨o1.trans o2, by rw [Heap.next_alloc, Heap.next_alloc]; omega, o2.get (by rw [Heap.get_alloc, if_pos rfl]), by rw [Heap.get_alloc, Heap.next_alloc, if_pos rfl]⟩
theorem Bx.more {h0 h h' : Heap} {z k : Blk} (x : Bx h0 h z k) (o : Old h h') : Bx h0 h' z k := ⟨x.old.trans o, Nat.le_trans x.nx o.next, o.get x.g, o.get x.g2⟩
theorem Bx.put {h0 h : Heap} {z k : Blk} (x : Bx h0 h z k) {o : Nat} {v : Value} (ho : o < k.length) (hv : v.oneCell' = true ∧ v.cells = #[v]) :
    ∃ h', stN 1 (ptr h0.next o) v h = some (undef, h') ∧ Bx h0 h' z (k.set o v) ∧ Kept h h' (· = h0.next) ∧ h'.next = h.next := by
  have hn : h.n0 ≤ h0.next := by rw [x.old.n0]; exact h0.n0_le_next
  have k1 : Kept h (h.set h0.next (k.set o v)) (· = h0.next) := Kept.set hn x.g (.inr rfl)
  refine ⟨_, stN1_at x.g ho hn hv.2 hv.1, ⟨x.old.also k1 (fun d hd e => by omega), x.nx, Heap.get_set_same hn x.g _, k1.getE x.g2 (by omega)⟩, k1, rfl⟩
theorem SlN.past {h h' : Heap} {ks : List Kd} {v : Value} {n : Nat} {cs : List Value} {b p q : Nat} (x : SlN h ks v n cs) (k : Kept h h' (· = b)) (hi : In v p q) (hb : b < p) : SlN h' ks v n cs :=
  x.keep k (fun y hy e => by
    have := hi y hy
    omega)
theorem own_stage {h0 h : Heap} {z k : Blk} {ks : List Kd} {v : Value} {n : Nat} {cs : List Value} (o by_ : Nat) (B : Bx h0 h z k) (x : SlN h0 ks v n cs) (hz : 0 < ks.length) (hn : n ≤ 1000000) (hb : by_ ≤ 100) (ho : k[o]? = some v) :
    ∃ v' h1 h2, ld1 (ptr h0.next o) (h.alloc []) = some (v, h.alloc []) ∧ appendA ks.length by_ (.slice (some ⟨h.next, 0, none⟩) 0 0) v (h.alloc []) = some (v', h1) ∧ stN 1 (ptr h0.next o) v' h1 = some (undef, h2) ∧
      Bx h0 h2 z (k.set o v') ∧ Kept h h2 (· = h0.next) ∧ SlN h2 ks v' n cs ∧ In v' h.next h2.next := by
  have hx := x.old B.old
  obtain ⟨v', h1, e1, e2, e3, e4, _⟩ := app_new by_ hx hz hn hb
  obtain ⟨h2, f1, f2, f3, f4⟩ := (B.more e3).put (o := o) (v := v') (List.getElem?_eq_some_iff.1 ho).1 (slice_cell e2).2
  have hlt := B.nx
  exact ⟨v', h1, h2, ld1_at ((Kept.alloc h [] (fun _ => False)).getE B.g (fun h => h)) ho (slice_cell x).1, e1, f1, f2, (e3.mono (fun _ _ h => h.elim)).trans f3, e2.past f3 e4 (by omega), by rw [f4]; exact e4⟩
theorem ld37 (v : Value) (h : Heap) : ld Tryz.prog 37 v h = ldN 116 v h := by
  unfold ld
  rw [show aggT Tryz.prog 37 = some true by kernel_rfl, show sizeT Tryz.prog 37 = some 116 by kernel_rfl]
theorem res_msg {rs : List ResultVar} {n k : Nat} (hr : rs = [.cell k 37]) (hk : k < n) (x : Nat → Value) {h : Heap} {v : Value} (e : ldN 116 (x k) h = some (v, h)) : resultsA Tryz.prog rs (mkF n x) h = some (v, h) := by
  subst hr
  have hx : (mkF n x).getD k undef = x k := by
    unfold mkF
    simp [hk]
  simp only [resultsA, resultA, hx, ld37, e]
  rfl
theorem stN_whole {h : Heap} {b : Nat} {k k' : Blk} (hk : h.get b = some k) (h0 : h.n0 ≤ b) {n : Nat} (hn : k.length = n) (hn' : k'.length = n) (ho : oneCells k' = true) : stN n (ptr b 0) (.agg k'.toArray) h = some (undef, h.set b k') := by
  unfold stN ptr
  have hc : (Value.agg k'.toArray).cells = k'.toArray := rfl
  simp only [hc, List.size_toArray, hn', if_true]
  unfold stL
  simp only [hk]
  rw [if_pos (by simp [ho, h0, hn, hn'])]
  have : splice k 0 k' = k' := by simp [splice, hn, hn']
  simp [this]
theorem Bx.out {h0 h : Heap} {z : Blk} {s : Sl6} {n : N6} {M : MsgD} (B : Bx h0 h z (M.cells s)) (hz : z.length = 116) (x : SlV h s n M) (ok : M.Ok) {p q : Nat} (sp : Sep s p q) (hp : h0.next + 2 ≤ p) :
    ∃ h', ldN 116 (ptr h0.next 0) h = some (.agg (M.cells s).toArray, h) ∧ stN 116 (ptr (h0.next + 1) 0) (.agg (M.cells s).toArray) h = some (undef, h') ∧ ldN 116 (ptr (h0.next + 1) 0) h' = some (.agg (M.cells s).toArray, h') ∧ SlV h' s n M ∧ Old h0 h' ∧ h'.next = h.next := by
  have hn : h.n0 ≤ h0.next + 1 := by rw [B.old.n0]; exact Nat.le_trans h0.n0_le_next (by omega)
  have c := cells_ok x ok
  have k1 : Kept h (h.set (h0.next + 1) (M.cells s)) (· = h0.next + 1) := Kept.set hn B.g2 (.inr rfl)
  refine ⟨_, (msg_ld x ok B.g).all, stN_whole B.g2 hn hz c.2.2 c.2.1, (msg_ld x ok (Heap.get_set_same hn B.g2 _)).all, x.keep k1 (sp.off (fun b hb => by omega)), B.old.also k1 (fun d hd e => by omega), rfl⟩
theorem is20 : IsFn Tryz.prog 20 Tryz.f20 := ⟨by kernel_rfl, by kernel_rfl, by kernel_rfl, by kernel_rfl⟩
theorem is28 : IsFn Tryz.prog 28 Tryz.f28 := ⟨by kernel_rfl, by kernel_rfl, by kernel_rfl, by kernel_rfl⟩
theorem is18 : IsFn Tryz.prog 18 Tryz.f18 := ⟨by kernel_rfl, by kernel_rfl, by kernel_rfl, by kernel_rfl⟩
theorem results20 : Tryz.f20.results.toList = [.cell 2 37] := by kernel_rfl
theorem results28 : Tryz.f28.results.toList = [.cell 2 37] := by kernel_rfl
theorem gtr3 (a k : Nat) : bin Tryz.prog .gtr 3 (i64n a) (.int .i64 (k : Int)) = some (.bool (decide (k < a))) := by
  rw [bin_gtr]
  congr 2
  by_cases e : k < a
  · rw [decide_eq_true e, decide_eq_true (by omega)]
  · rw [decide_eq_false e, decide_eq_false (by omega)]
section
variable {h : Heap} {s : Sl6} {n : N6} {M : MsgD} (hG : 4 ≤ h.n0) (x : SlV h s n M) (ok : M.Ok)
include hG x ok
theorem r18 : ∃ (r : Bool) (h' : Heap), CW 18 [.agg (M.cells s).toArray] h = some (.bool r, h') ∧ (r = false → n.Small) ∧ Old h h' := by
  have b1 := box_at h (M.cells s) (cells_ok x ok).2.1
  have o1 : Old h (h.alloc (M.cells s)) := Kept.alloc _ _ _
  have g1 : (h.alloc (M.cells s)).get h.next = some (M.cells s) := by rw [Heap.get_alloc, if_pos rfl]
  generalize h.alloc (M.cells s) = h1 at *
  have A := msg_ld x ok g1
  have key : ∃ r : Bool, t18 CW (.agg (M.cells s).toArray) h = some (.bool r, h1) ∧ (r = false → n.Small) := by
    have small : (n.a ≤ 40 ∧ n.b ≤ 100 ∧ n.c ≤ 100 ∧ n.d ≤ 100 ∧ n.e ≤ 300 ∧ n.f ≤ 9000) → n.Small := fun ⟨a, b, c, d, e, f⟩ => ⟨by omega, by omega, by omega, by omega, by omega, by omega⟩
    have e1 : bin Tryz.prog .gtr 3 (i64n n.a) (.int .i64 40) = some (.bool (decide (40 < n.a))) := gtr3 n.a 40
    have e2 : bin Tryz.prog .gtr 3 (i64n n.b) (.int .i64 100) = some (.bool (decide (100 < n.b))) := gtr3 n.b 100
    have e3 : bin Tryz.prog .gtr 3 (i64n n.c) (.int .i64 100) = some (.bool (decide (100 < n.c))) := gtr3 n.c 100
    have e4 : bin Tryz.prog .gtr 3 (i64n n.d) (.int .i64 100) = some (.bool (decide (100 < n.d))) := gtr3 n.d 100
    have e5 : bin Tryz.prog .gtr 3 (i64n n.e) (.int .i64 300) = some (.bool (decide (300 < n.e))) := gtr3 n.e 300
    have e6 : bin Tryz.prog .gtr 3 (i64n n.f) (.int .i64 9000) = some (.bool (decide (9000 < n.f))) := gtr3 n.f 9000
    cases q0 : decide (40 < n.a) with
    | true => exact ⟨true, by unfold t18; simp -implicitDefEqProofs only [b1, A.l6, x.a.len, e1, thenV_some, pu_some, bOf_bool, sf, guardK_false, if_true, addP_ptr, Nat.zero_add, q0], fun h => by cases h⟩
    | false =>
      cases q1 : decide (100 < n.b) with
      | true => exact ⟨true, by unfold t18; simp -implicitDefEqProofs only [b1, A.l6, A.l7, x.a.len, x.b.len, e1, e2, thenV_some, pu_some, bOf_bool, sf, beq_self_eq_true, guardK_true, guardK_false, Bool.false_eq_true, if_false, if_true, addP_ptr, Nat.zero_add, q0, q1], fun h => by cases h⟩
      | false =>
        cases q2 : decide (100 < n.c) with
        | true => exact ⟨true, by unfold t18; simp -implicitDefEqProofs only [b1, A.l6, A.l7, A.l8, x.a.len, x.b.len, x.c.len, e1, e2, e3, thenV_some, pu_some, bOf_bool, sf, beq_self_eq_true, guardK_true, guardK_false, Bool.false_eq_true, if_false, if_true, addP_ptr, Nat.zero_add, q0, q1, q2], fun h => by cases h⟩
        | false =>
          cases q3 : decide (100 < n.d) with
          | true => exact ⟨true, by unfold t18; simp -implicitDefEqProofs only [b1, A.l6, A.l7, A.l8, A.l42, x.a.len, x.b.len, x.c.len, x.d.len, e1, e2, e3, e4, thenV_some, pu_some, bOf_bool, sf, beq_self_eq_true, guardK_true, guardK_false, Bool.false_eq_true, if_false, if_true, addP_ptr, Nat.zero_add, q0, q1, q2, q3], fun h => by cases h⟩
          | false =>
            cases q4 : decide (300 < n.e) with
            | true => exact ⟨true, by unfold t18; simp -implicitDefEqProofs only [b1, A.l6, A.l7, A.l8, A.l42, A.l112, x.a.len, x.b.len, x.c.len, x.d.len, x.e.len, e1, e2, e3, e4, e5, thenV_some, pu_some, bOf_bool, sf, beq_self_eq_true, guardK_true, guardK_false, Bool.false_eq_true, if_false, if_true, addP_ptr, Nat.zero_add, Nat.reduceAdd, q0, q1, q2, q3, q4], fun h => by cases h⟩
            | false =>
              cases q5 : decide (9000 < n.f) with
              | true => exact ⟨true, by unfold t18; simp -implicitDefEqProofs only [b1, A.l6, A.l7, A.l8, A.l42, A.l112, A.l114, x.a.len, x.b.len, x.c.len, x.d.len, x.e.len, x.f.len, e1, e2, e3, e4, e5, e6, thenV_some, pu_some, bOf_bool, beq_self_eq_true, guardK_true, Bool.false_eq_true, if_false, addP_ptr, Nat.zero_add, Nat.reduceAdd, q0, q1, q2, q3, q4, q5], fun h => by cases h⟩
              | false =>
                exact ⟨false, by unfold t18; simp -implicitDefEqProofs only [b1, A.l6, A.l7, A.l8, A.l42, A.l112, A.l114, x.a.len, x.b.len, x.c.len, x.d.len, x.e.len, x.f.len, e1, e2, e3, e4, e5, e6, thenV_some, pu_some, bOf_bool, beq_self_eq_true, guardK_true, Bool.false_eq_true, if_false, addP_ptr, Nat.zero_add, Nat.reduceAdd, q0, q1, q2, q3, q4, q5], fun _ => small ⟨by have := of_decide_eq_false q0; omega, by have := of_decide_eq_false q1; omega, by have := of_decide_eq_false q2; omega, by have := of_decide_eq_false q3; omega, by have := of_decide_eq_false q4; omega, by have := of_decide_eq_false q5; omega⟩⟩
  obtain ⟨r, k1, k2⟩ := key
  exact ⟨r, h1, CW_body is18 hG rfl ((t18_eq _ _ _).trans k1), k2, o1⟩
variable (sm : n.Small)
include sm
theorem r20 : ∃ (s' : Sl6) (h' : Heap), CW 20 [.agg (M.cells s).toArray] h = some (.agg (M.cells s').toArray, h') ∧ SlV h' s' n M ∧ Old h h' := by
  have b1 := box_at h (M.cells s) (cells_ok x ok).2.1
  have b2 : newC [(.int .u8 0), (.int .i64 0), (.int .i64 0), (.int .u64 0), (.int .i64 0), (.int .i64 0), (.slice none 0 0), (.slice none 0 0), (.slice none 0 0), (.int .i64 0), (.int .u8 0), (.int .u8 0), (.int .u8 0), (.int .u8 0), (.int .u8 0), (.int .u8 0), (.int .u8 0), (.int .u8 0), (.int .u8 0), (.int .u8 0), (.int .u8 0), (.int .u8 0), (.int .u8 0), (.int .u8 0), (.int .u8 0), (.int .u8 0), (.int .u8 0), (.int .u8 0), (.int .u8 0), (.int .u8 0), (.int .u8 0), (.int .u8 0), (.int .u8 0), (.int .u8 0), (.int .u8 0), (.int .u8 0), (.int .u8 0), (.int .u8 0), (.int .u8 0), (.int .u8 0), (.int .u8 0), (.int .u8 0), (.slice none 0 0), (.bool false), (.int .u8 0), (.int .u8 0), (.int .u8 0), (.int .u8 0), (.int .u8 0), (.int .u8 0), (.int .u8 0), (.int .u8 0), (.int .u8 0), (.int .u8 0), (.int .u8 0), (.int .u8 0), (.int .u8 0), (.int .u8 0), (.int .u8 0), (.int .u8 0), (.int .u8 0), (.int .u8 0), (.int .u8 0), (.int .u8 0), (.int .u8 0), (.int .u8 0), (.int .u8 0), (.int .u8 0), (.int .u8 0), (.int .u8 0), (.int .u8 0), (.int .u8 0), (.int .u8 0), (.int .u8 0), (.int .u8 0), (.int .u8 0), (.int .i64 0), (.int .i64 0), (.int .i64 0), (.int .i64 0), (.int .u8 0), (.int .u8 0), (.int .u8 0), (.int .u8 0), (.int .u8 0), (.int .u8 0), (.int .u8 0), (.int .u8 0), (.int .u8 0), (.int .u8 0), (.int .u8 0), (.int .u8 0), (.int .u8 0), (.int .u8 0), (.int .u8 0), (.int .u8 0), (.int .u8 0), (.int .u8 0), (.int .u8 0), (.int .u8 0), (.int .u8 0), (.int .u8 0), (.int .u8 0), (.int .u8 0), (.int .u8 0), (.int .u8 0), (.int .u8 0), (.int .u8 0), (.int .u8 0), (.int .u8 0), (.int .u8 0), (.int .u8 0), (.slice none 0 0), (.int .i64 0), (.slice none 0 0), (.int .i64 0)] (h.alloc (M.cells s)) = some (ptr (h.next + 1) 0, (h.alloc (M.cells s)).alloc [(.int .u8 0), (.int .i64 0), (.int .i64 0), (.int .u64 0), (.int .i64 0), (.int .i64 0), (.slice none 0 0), (.slice none 0 0), (.slice none 0 0), (.int .i64 0), (.int .u8 0), (.int .u8 0), (.int .u8 0), (.int .u8 0), (.int .u8 0), (.int .u8 0), (.int .u8 0), (.int .u8 0), (.int .u8 0), (.int .u8 0), (.int .u8 0), (.int .u8 0), (.int .u8 0), (.int .u8 0), (.int .u8 0), (.int .u8 0), (.int .u8 0), (.int .u8 0), (.int .u8 0), (.int .u8 0), (.int .u8 0), (.int .u8 0), (.int .u8 0), (.int .u8 0), (.int .u8 0), (.int .u8 0), (.int .u8 0), (.int .u8 0), (.int .u8 0), (.int .u8 0), (.int .u8 0), (.int .u8 0), (.slice none 0 0), (.bool false), (.int .u8 0), (.int .u8 0), (.int .u8 0), (.int .u8 0), (.int .u8 0), (.int .u8 0), (.int .u8 0), (.int .u8 0), (.int .u8 0), (.int .u8 0), (.int .u8 0), (.int .u8 0), (.int .u8 0), (.int .u8 0), (.int .u8 0), (.int .u8 0), (.int .u8 0), (.int .u8 0), (.int .u8 0), (.int .u8 0), (.int .u8 0), (.int .u8 0), (.int .u8 0), (.int .u8 0), (.int .u8 0), (.int .u8 0), (.int .u8 0), (.int .u8 0), (.int .u8 0), (.int .u8 0), (.int .u8 0), (.int .u8 0), (.int .i64 0), (.int .i64 0), (.int .i64 0), (.int .i64 0), (.int .u8 0), (.int .u8 0), (.int .u8 0), (.int .u8 0), (.int .u8 0), (.int .u8 0), (.int .u8 0), (.int .u8 0), (.int .u8 0), (.int .u8 0), (.int .u8 0), (.int .u8 0), (.int .u8 0), (.int .u8 0), (.int .u8 0), (.int .u8 0), (.int .u8 0), (.int .u8 0), (.int .u8 0), (.int .u8 0), (.int .u8 0), (.int .u8 0), (.int .u8 0), (.int .u8 0), (.int .u8 0), (.int .u8 0), (.int .u8 0), (.int .u8 0), (.int .u8 0), (.int .u8 0), (.int .u8 0), (.int .u8 0), (.slice none 0 0), (.int .i64 0), (.slice none 0 0), (.int .i64 0)]) := rfl
  have B2 := Bx.mk0 h (M.cells s) [(.int .u8 0), (.int .i64 0), (.int .i64 0), (.int .u64 0), (.int .i64 0), (.int .i64 0), (.slice none 0 0), (.slice none 0 0), (.slice none 0 0), (.int .i64 0), (.int .u8 0), (.int .u8 0), (.int .u8 0), (.int .u8 0), (.int .u8 0), (.int .u8 0), (.int .u8 0), (.int .u8 0), (.int .u8 0), (.int .u8 0), (.int .u8 0), (.int .u8 0), (.int .u8 0), (.int .u8 0), (.int .u8 0), (.int .u8 0), (.int .u8 0), (.int .u8 0), (.int .u8 0), (.int .u8 0), (.int .u8 0), (.int .u8 0), (.int .u8 0), (.int .u8 0), (.int .u8 0), (.int .u8 0), (.int .u8 0), (.int .u8 0), (.int .u8 0), (.int .u8 0), (.int .u8 0), (.int .u8 0), (.slice none 0 0), (.bool false), (.int .u8 0), (.int .u8 0), (.int .u8 0), (.int .u8 0), (.int .u8 0), (.int .u8 0), (.int .u8 0), (.int .u8 0), (.int .u8 0), (.int .u8 0), (.int .u8 0), (.int .u8 0), (.int .u8 0), (.int .u8 0), (.int .u8 0), (.int .u8 0), (.int .u8 0), (.int .u8 0), (.int .u8 0), (.int .u8 0), (.int .u8 0), (.int .u8 0), (.int .u8 0), (.int .u8 0), (.int .u8 0), (.int .u8 0), (.int .u8 0), (.int .u8 0), (.int .u8 0), (.int .u8 0), (.int .u8 0), (.int .u8 0), (.int .i64 0), (.int .i64 0), (.int .i64 0), (.int .i64 0), (.int .u8 0), (.int .u8 0), (.int .u8 0), (.int .u8 0), (.int .u8 0), (.int .u8 0), (.int .u8 0), (.int .u8 0), (.int .u8 0), (.int .u8 0), (.int .u8 0), (.int .u8 0), (.int .u8 0), (.int .u8 0), (.int .u8 0), (.int .u8 0), (.int .u8 0), (.int .u8 0), (.int .u8 0), (.int .u8 0), (.int .u8 0), (.int .u8 0), (.int .u8 0), (.int .u8 0), (.int .u8 0), (.int .u8 0), (.int .u8 0), (.int .u8 0), (.int .u8 0), (.int .u8 0), (.int .u8 0), (.int .u8 0), (.slice none 0 0), (.int .i64 0), (.slice none 0 0), (.int .i64 0)]
  have hz : ([(.int .u8 0), (.int .i64 0), (.int .i64 0), (.int .u64 0), (.int .i64 0), (.int .i64 0), (.slice none 0 0), (.slice none 0 0), (.slice none 0 0), (.int .i64 0), (.int .u8 0), (.int .u8 0), (.int .u8 0), (.int .u8 0), (.int .u8 0), (.int .u8 0), (.int .u8 0), (.int .u8 0), (.int .u8 0), (.int .u8 0), (.int .u8 0), (.int .u8 0), (.int .u8 0), (.int .u8 0), (.int .u8 0), (.int .u8 0), (.int .u8 0), (.int .u8 0), (.int .u8 0), (.int .u8 0), (.int .u8 0), (.int .u8 0), (.int .u8 0), (.int .u8 0), (.int .u8 0), (.int .u8 0), (.int .u8 0), (.int .u8 0), (.int .u8 0), (.int .u8 0), (.int .u8 0), (.int .u8 0), (.slice none 0 0), (.bool false), (.int .u8 0), (.int .u8 0), (.int .u8 0), (.int .u8 0), (.int .u8 0), (.int .u8 0), (.int .u8 0), (.int .u8 0), (.int .u8 0), (.int .u8 0), (.int .u8 0), (.int .u8 0), (.int .u8 0), (.int .u8 0), (.int .u8 0), (.int .u8 0), (.int .u8 0), (.int .u8 0), (.int .u8 0), (.int .u8 0), (.int .u8 0), (.int .u8 0), (.int .u8 0), (.int .u8 0), (.int .u8 0), (.int .u8 0), (.int .u8 0), (.int .u8 0), (.int .u8 0), (.int .u8 0), (.int .u8 0), (.int .u8 0), (.int .i64 0), (.int .i64 0), (.int .i64 0), (.int .i64 0), (.int .u8 0), (.int .u8 0), (.int .u8 0), (.int .u8 0), (.int .u8 0), (.int .u8 0), (.int .u8 0), (.int .u8 0), (.int .u8 0), (.int .u8 0), (.int .u8 0), (.int .u8 0), (.int .u8 0), (.int .u8 0), (.int .u8 0), (.int .u8 0), (.int .u8 0), (.int .u8 0), (.int .u8 0), (.int .u8 0), (.int .u8 0), (.int .u8 0), (.int .u8 0), (.int .u8 0), (.int .u8 0), (.int .u8 0), (.int .u8 0), (.int .u8 0), (.int .u8 0), (.int .u8 0), (.int .u8 0), (.int .u8 0), (.slice none 0 0), (.int .i64 0), (.slice none 0 0), (.int .i64 0)] : Blk).length = 116 := rfl
  generalize (h.alloc (M.cells s)).alloc [(.int .u8 0), (.int .i64 0), (.int .i64 0), (.int .u64 0), (.int .i64 0), (.int .i64 0), (.slice none 0 0), (.slice none 0 0), (.slice none 0 0), (.int .i64 0), (.int .u8 0), (.int .u8 0), (.int .u8 0), (.int .u8 0), (.int .u8 0), (.int .u8 0), (.int .u8 0), (.int .u8 0), (.int .u8 0), (.int .u8 0), (.int .u8 0), (.int .u8 0), (.int .u8 0), (.int .u8 0), (.int .u8 0), (.int .u8 0), (.int .u8 0), (.int .u8 0), (.int .u8 0), (.int .u8 0), (.int .u8 0), (.int .u8 0), (.int .u8 0), (.int .u8 0), (.int .u8 0), (.int .u8 0), (.int .u8 0), (.int .u8 0), (.int .u8 0), (.int .u8 0), (.int .u8 0), (.int .u8 0), (.slice none 0 0), (.bool false), (.int .u8 0), (.int .u8 0), (.int .u8 0), (.int .u8 0), (.int .u8 0), (.int .u8 0), (.int .u8 0), (.int .u8 0), (.int .u8 0), (.int .u8 0), (.int .u8 0), (.int .u8 0), (.int .u8 0), (.int .u8 0), (.int .u8 0), (.int .u8 0), (.int .u8 0), (.int .u8 0), (.int .u8 0), (.int .u8 0), (.int .u8 0), (.int .u8 0), (.int .u8 0), (.int .u8 0), (.int .u8 0), (.int .u8 0), (.int .u8 0), (.int .u8 0), (.int .u8 0), (.int .u8 0), (.int .u8 0), (.int .u8 0), (.int .i64 0), (.int .i64 0), (.int .i64 0), (.int .i64 0), (.int .u8 0), (.int .u8 0), (.int .u8 0), (.int .u8 0), (.int .u8 0), (.int .u8 0), (.int .u8 0), (.int .u8 0), (.int .u8 0), (.int .u8 0), (.int .u8 0), (.int .u8 0), (.int .u8 0), (.int .u8 0), (.int .u8 0), (.int .u8 0), (.int .u8 0), (.int .u8 0), (.int .u8 0), (.int .u8 0), (.int .u8 0), (.int .u8 0), (.int .u8 0), (.int .u8 0), (.int .u8 0), (.int .u8 0), (.int .u8 0), (.int .u8 0), (.int .u8 0), (.int .u8 0), (.int .u8 0), (.int .u8 0), (.slice none 0 0), (.int .i64 0), (.slice none 0 0), (.int .i64 0)] = h2 at *
  obtain ⟨v1, p3, h3, a1, c1, d1, B3, K3, y1, I1⟩ := own_stage 6 16 B2 x.a (by decide) sm.a (by decide) rfl
  have c1 : appendA 2 16 _ _ _ = _ := c1
  rw [set6] at B3
  obtain ⟨v2, p4, h4, a2, c2, d2, B4, K4, y2, I2⟩ := own_stage 7 1 B3 x.b (by decide) sm.b (by decide) rfl
  have c2 : appendA 1 1 _ _ _ = _ := c2
  rw [set7] at B4
  obtain ⟨v3, p5, h5, a3, c3, d3, B5, K5, y3, I3⟩ := own_stage 8 1 B4 x.c (by decide) sm.c (by decide) rfl
  have c3 : appendA 1 1 _ _ _ = _ := c3
  rw [set8] at B5
  obtain ⟨v4, p6, h6, a4, c4, d4, B6, K6, y4, I4⟩ := own_stage 42 88 B5 x.d (by decide) sm.d (by decide) (at42 ok)
  have c4 : appendA 39 88 _ _ _ = _ := c4
  rw [set42 ok] at B6
  obtain ⟨v5, p7, h7, a5, c5, d5, B7, K7, y5, I5⟩ := own_stage 112 32 B6 x.e (by decide) sm.e (by decide) (at112 ok)
  have c5 : appendA 32 32 _ _ _ = _ := c5
  rw [set112 ok] at B7
  obtain ⟨v6, p8, h8, a6, c6, d6, B8, K8, y6, I6⟩ := own_stage 114 1 B7 x.f (by decide) sm.f (by decide) (at114 ok)
  have c6 : appendA 1 1 _ _ _ = _ := c6
  rw [set114 ok] at B8
  have nx := B2.nx
  have m3 := K3.next
  have m4 := K4.next
  have m5 := K5.next
  have m6 := K6.next
  have m7 := K7.next
  have m8 := K8.next
  have z1 := (((((y1.past K4 I1 (by omega)).past K5 I1 (by omega)).past K6 I1 (by omega)).past K7 I1 (by omega)).past K8 I1 (by omega))
  have z2 := ((((y2.past K5 I2 (by omega)).past K6 I2 (by omega)).past K7 I2 (by omega)).past K8 I2 (by omega))
  have z3 := (((y3.past K6 I3 (by omega)).past K7 I3 (by omega)).past K8 I3 (by omega))
  have z4 := ((y4.past K7 I4 (by omega)).past K8 I4 (by omega))
  have z5 := (y5.past K8 I5 (by omega))
  have z6 := y6
  have X8 : SlV h8 ⟨v1, v2, v3, v4, v5, v6⟩ n M := ⟨z1, z2, z3, z4, z5, z6⟩
  have S8 : Sep ⟨v1, v2, v3, v4, v5, v6⟩ h2.next h8.next := ⟨h3.next, h4.next, h5.next, h6.next, h7.next, m3, m4, m5, m6, m7, m8, I1, I2, I3, I4, I5, I6⟩
  obtain ⟨h9, u1, u2, u3, X9, O9, _⟩ := B8.out hz X8 ok S8 (by omega)
  refine ⟨⟨v1, v2, v3, v4, v5, v6⟩, h9, CW_body is20 hG rfl ((t20_eq _ _ _).trans ?_), X9, O9⟩
  unfold t20
  simp -implicitDefEqProofs only [b1, b2, thenV_some, pu_some, addP_ptr, Nat.zero_add, Nat.reduceAdd, bslM, bslB, bslRec, bslD, a1, c1, d1, a2, c2, d2, a3, c3, d3, a4, c4, d4, a5, c5, d5, a6, c6, d6, u1, u2]
  exact res_msg results20 (by decide) _ u3
theorem r28 : ∃ (s' : Sl6) (h' : Heap) (p : Nat), CW 28 [.agg (M.cells s).toArray] h = some (.agg (M.cells s').toArray, h') ∧ SlV h' s' n M ∧ Old h h' ∧ Sep s' p h'.next ∧ h.next ≤ p := by
  have b1 := box_at h (M.cells s) (cells_ok x ok).2.1
  have b2 : newC [(.int .u8 0), (.int .i64 0), (.int .i64 0), (.int .u64 0), (.int .i64 0), (.int .i64 0), (.slice none 0 0), (.slice none 0 0), (.slice none 0 0), (.int .i64 0), (.int .u8 0), (.int .u8 0), (.int .u8 0), (.int .u8 0), (.int .u8 0), (.int .u8 0), (.int .u8 0), (.int .u8 0), (.int .u8 0), (.int .u8 0), (.int .u8 0), (.int .u8 0), (.int .u8 0), (.int .u8 0), (.int .u8 0), (.int .u8 0), (.int .u8 0), (.int .u8 0), (.int .u8 0), (.int .u8 0), (.int .u8 0), (.int .u8 0), (.int .u8 0), (.int .u8 0), (.int .u8 0), (.int .u8 0), (.int .u8 0), (.int .u8 0), (.int .u8 0), (.int .u8 0), (.int .u8 0), (.int .u8 0), (.slice none 0 0), (.bool false), (.int .u8 0), (.int .u8 0), (.int .u8 0), (.int .u8 0), (.int .u8 0), (.int .u8 0), (.int .u8 0), (.int .u8 0), (.int .u8 0), (.int .u8 0), (.int .u8 0), (.int .u8 0), (.int .u8 0), (.int .u8 0), (.int .u8 0), (.int .u8 0), (.int .u8 0), (.int .u8 0), (.int .u8 0), (.int .u8 0), (.int .u8 0), (.int .u8 0), (.int .u8 0), (.int .u8 0), (.int .u8 0), (.int .u8 0), (.int .u8 0), (.int .u8 0), (.int .u8 0), (.int .u8 0), (.int .u8 0), (.int .u8 0), (.int .i64 0), (.int .i64 0), (.int .i64 0), (.int .i64 0), (.int .u8 0), (.int .u8 0), (.int .u8 0), (.int .u8 0), (.int .u8 0), (.int .u8 0), (.int .u8 0), (.int .u8 0), (.int .u8 0), (.int .u8 0), (.int .u8 0), (.int .u8 0), (.int .u8 0), (.int .u8 0), (.int .u8 0), (.int .u8 0), (.int .u8 0), (.int .u8 0), (.int .u8 0), (.int .u8 0), (.int .u8 0), (.int .u8 0), (.int .u8 0), (.int .u8 0), (.int .u8 0), (.int .u8 0), (.int .u8 0), (.int .u8 0), (.int .u8 0), (.int .u8 0), (.int .u8 0), (.int .u8 0), (.slice none 0 0), (.int .i64 0), (.slice none 0 0), (.int .i64 0)] (h.alloc (M.cells s)) = some (ptr (h.next + 1) 0, (h.alloc (M.cells s)).alloc [(.int .u8 0), (.int .i64 0), (.int .i64 0), (.int .u64 0), (.int .i64 0), (.int .i64 0), (.slice none 0 0), (.slice none 0 0), (.slice none 0 0), (.int .i64 0), (.int .u8 0), (.int .u8 0), (.int .u8 0), (.int .u8 0), (.int .u8 0), (.int .u8 0), (.int .u8 0), (.int .u8 0), (.int .u8 0), (.int .u8 0), (.int .u8 0), (.int .u8 0), (.int .u8 0), (.int .u8 0), (.int .u8 0), (.int .u8 0), (.int .u8 0), (.int .u8 0), (.int .u8 0), (.int .u8 0), (.int .u8 0), (.int .u8 0), (.int .u8 0), (.int .u8 0), (.int .u8 0), (.int .u8 0), (.int .u8 0), (.int .u8 0), (.int .u8 0), (.int .u8 0), (.int .u8 0), (.int .u8 0), (.slice none 0 0), (.bool false), (.int .u8 0), (.int .u8 0), (.int .u8 0), (.int .u8 0), (.int .u8 0), (.int .u8 0), (.int .u8 0), (.int .u8 0), (.int .u8 0), (.int .u8 0), (.int .u8 0), (.int .u8 0), (.int .u8 0), (.int .u8 0), (.int .u8 0), (.int .u8 0), (.int .u8 0), (.int .u8 0), (.int .u8 0), (.int .u8 0), (.int .u8 0), (.int .u8 0), (.int .u8 0), (.int .u8 0), (.int .u8 0), (.int .u8 0), (.int .u8 0), (.int .u8 0), (.int .u8 0), (.int .u8 0), (.int .u8 0), (.int .u8 0), (.int .i64 0), (.int .i64 0), (.int .i64 0), (.int .i64 0), (.int .u8 0), (.int .u8 0), (.int .u8 0), (.int .u8 0), (.int .u8 0), (.int .u8 0), (.int .u8 0), (.int .u8 0), (.int .u8 0), (.int .u8 0), (.int .u8 0), (.int .u8 0), (.int .u8 0), (.int .u8 0), (.int .u8 0), (.int .u8 0), (.int .u8 0), (.int .u8 0), (.int .u8 0), (.int .u8 0), (.int .u8 0), (.int .u8 0), (.int .u8 0), (.int .u8 0), (.int .u8 0), (.int .u8 0), (.int .u8 0), (.int .u8 0), (.int .u8 0), (.int .u8 0), (.int .u8 0), (.int .u8 0), (.slice none 0 0), (.int .i64 0), (.slice none 0 0), (.int .i64 0)]) := rfl
  have B2 := Bx.mk0 h (M.cells s) [(.int .u8 0), (.int .i64 0), (.int .i64 0), (.int .u64 0), (.int .i64 0), (.int .i64 0), (.slice none 0 0), (.slice none 0 0), (.slice none 0 0), (.int .i64 0), (.int .u8 0), (.int .u8 0), (.int .u8 0), (.int .u8 0), (.int .u8 0), (.int .u8 0), (.int .u8 0), (.int .u8 0), (.int .u8 0), (.int .u8 0), (.int .u8 0), (.int .u8 0), (.int .u8 0), (.int .u8 0), (.int .u8 0), (.int .u8 0), (.int .u8 0), (.int .u8 0), (.int .u8 0), (.int .u8 0), (.int .u8 0), (.int .u8 0), (.int .u8 0), (.int .u8 0), (.int .u8 0), (.int .u8 0), (.int .u8 0), (.int .u8 0), (.int .u8 0), (.int .u8 0), (.int .u8 0), (.int .u8 0), (.slice none 0 0), (.bool false), (.int .u8 0), (.int .u8 0), (.int .u8 0), (.int .u8 0), (.int .u8 0), (.int .u8 0), (.int .u8 0), (.int .u8 0), (.int .u8 0), (.int .u8 0), (.int .u8 0), (.int .u8 0), (.int .u8 0), (.int .u8 0), (.int .u8 0), (.int .u8 0), (.int .u8 0), (.int .u8 0), (.int .u8 0), (.int .u8 0), (.int .u8 0), (.int .u8 0), (.int .u8 0), (.int .u8 0), (.int .u8 0), (.int .u8 0), (.int .u8 0), (.int .u8 0), (.int .u8 0), (.int .u8 0), (.int .u8 0), (.int .u8 0), (.int .i64 0), (.int .i64 0), (.int .i64 0), (.int .i64 0), (.int .u8 0), (.int .u8 0), (.int .u8 0), (.int .u8 0), (.int .u8 0), (.int .u8 0), (.int .u8 0), (.int .u8 0), (.int .u8 0), (.int .u8 0), (.int .u8 0), (.int .u8 0), (.int .u8 0), (.int .u8 0), (.int .u8 0), (.int .u8 0), (.int .u8 0), (.int .u8 0), (.int .u8 0), (.int .u8 0), (.int .u8 0), (.int .u8 0), (.int .u8 0), (.int .u8 0), (.int .u8 0), (.int .u8 0), (.int .u8 0), (.int .u8 0), (.int .u8 0), (.int .u8 0), (.int .u8 0), (.int .u8 0), (.slice none 0 0), (.int .i64 0), (.slice none 0 0), (.int .i64 0)]
  have hz : ([(.int .u8 0), (.int .i64 0), (.int .i64 0), (.int .u64 0), (.int .i64 0), (.int .i64 0), (.slice none 0 0), (.slice none 0 0), (.slice none 0 0), (.int .i64 0), (.int .u8 0), (.int .u8 0), (.int .u8 0), (.int .u8 0), (.int .u8 0), (.int .u8 0), (.int .u8 0), (.int .u8 0), (.int .u8 0), (.int .u8 0), (.int .u8 0), (.int .u8 0), (.int .u8 0), (.int .u8 0), (.int .u8 0), (.int .u8 0), (.int .u8 0), (.int .u8 0), (.int .u8 0), (.int .u8 0), (.int .u8 0), (.int .u8 0), (.int .u8 0), (.int .u8 0), (.int .u8 0), (.int .u8 0), (.int .u8 0), (.int .u8 0), (.int .u8 0), (.int .u8 0), (.int .u8 0), (.int .u8 0), (.slice none 0 0), (.bool false), (.int .u8 0), (.int .u8 0), (.int .u8 0), (.int .u8 0), (.int .u8 0), (.int .u8 0), (.int .u8 0), (.int .u8 0), (.int .u8 0), (.int .u8 0), (.int .u8 0), (.int .u8 0), (.int .u8 0), (.int .u8 0), (.int .u8 0), (.int .u8 0), (.int .u8 0), (.int .u8 0), (.int .u8 0), (.int .u8 0), (.int .u8 0), (.int .u8 0), (.int .u8 0), (.int .u8 0), (.int .u8 0), (.int .u8 0), (.int .u8 0), (.int .u8 0), (.int .u8 0), (.int .u8 0), (.int .u8 0), (.int .u8 0), (.int .i64 0), (.int .i64 0), (.int .i64 0), (.int .i64 0), (.int .u8 0), (.int .u8 0), (.int .u8 0), (.int .u8 0), (.int .u8 0), (.int .u8 0), (.int .u8 0), (.int .u8 0), (.int .u8 0), (.int .u8 0), (.int .u8 0), (.int .u8 0), (.int .u8 0), (.int .u8 0), (.int .u8 0), (.int .u8 0), (.int .u8 0), (.int .u8 0), (.int .u8 0), (.int .u8 0), (.int .u8 0), (.int .u8 0), (.int .u8 0), (.int .u8 0), (.int .u8 0), (.int .u8 0), (.int .u8 0), (.int .u8 0), (.int .u8 0), (.int .u8 0), (.int .u8 0), (.int .u8 0), (.slice none 0 0), (.int .i64 0), (.slice none 0 0), (.int .i64 0)] : Blk).length = 116 := rfl
  generalize (h.alloc (M.cells s)).alloc [(.int .u8 0), (.int .i64 0), (.int .i64 0), (.int .u64 0), (.int .i64 0), (.int .i64 0), (.slice none 0 0), (.slice none 0 0), (.slice none 0 0), (.int .i64 0), (.int .u8 0), (.int .u8 0), (.int .u8 0), (.int .u8 0), (.int .u8 0), (.int .u8 0), (.int .u8 0), (.int .u8 0), (.int .u8 0), (.int .u8 0), (.int .u8 0), (.int .u8 0), (.int .u8 0), (.int .u8 0), (.int .u8 0), (.int .u8 0), (.int .u8 0), (.int .u8 0), (.int .u8 0), (.int .u8 0), (.int .u8 0), (.int .u8 0), (.int .u8 0), (.int .u8 0), (.int .u8 0), (.int .u8 0), (.int .u8 0), (.int .u8 0), (.int .u8 0), (.int .u8 0), (.int .u8 0), (.int .u8 0), (.slice none 0 0), (.bool false), (.int .u8 0), (.int .u8 0), (.int .u8 0), (.int .u8 0), (.int .u8 0), (.int .u8 0), (.int .u8 0), (.int .u8 0), (.int .u8 0), (.int .u8 0), (.int .u8 0), (.int .u8 0), (.int .u8 0), (.int .u8 0), (.int .u8 0), (.int .u8 0), (.int .u8 0), (.int .u8 0), (.int .u8 0), (.int .u8 0), (.int .u8 0), (.int .u8 0), (.int .u8 0), (.int .u8 0), (.int .u8 0), (.int .u8 0), (.int .u8 0), (.int .u8 0), (.int .u8 0), (.int .u8 0), (.int .u8 0), (.int .u8 0), (.int .i64 0), (.int .i64 0), (.int .i64 0), (.int .i64 0), (.int .u8 0), (.int .u8 0), (.int .u8 0), (.int .u8 0), (.int .u8 0), (.int .u8 0), (.int .u8 0), (.int .u8 0), (.int .u8 0), (.int .u8 0), (.int .u8 0), (.int .u8 0), (.int .u8 0), (.int .u8 0), (.int .u8 0), (.int .u8 0), (.int .u8 0), (.int .u8 0), (.int .u8 0), (.int .u8 0), (.int .u8 0), (.int .u8 0), (.int .u8 0), (.int .u8 0), (.int .u8 0), (.int .u8 0), (.int .u8 0), (.int .u8 0), (.int .u8 0), (.int .u8 0), (.int .u8 0), (.int .u8 0), (.slice none 0 0), (.int .i64 0), (.slice none 0 0), (.int .i64 0)] = h2 at *
  have nx := B2.nx
  have A2 := msg_ld x ok B2.g
  obtain ⟨v1, h3, e1, y1, o3, I1⟩ := r68 (by rw [B2.old.n0]; exact hG) (x.a.old B2.old) sm.a
  have B3 := B2.more o3
  have A3 := msg_ld x ok B3.g
  obtain ⟨v2, h4, e2, y2, o4, I2⟩ := r69 (by rw [B3.old.n0]; exact hG) (x.b.old B3.old) sm.b
  have B4 := B3.more o4
  have A4 := msg_ld x ok B4.g
  obtain ⟨v3, h5, e3, y3, o5, I3⟩ := r69 (by rw [B4.old.n0]; exact hG) (x.c.old B4.old) sm.c
  have B5 := B4.more o5
  obtain ⟨h6, w1, B6, K6, n6⟩ := B5.put (o := 6) (v := v1) (by rw [cells_len ok]; decide) (slice_cell y1).2
  rw [set6] at B6
  obtain ⟨h7, w2, B7, K7, n7⟩ := B6.put (o := 7) (v := v2) (by rw [cells_len ok]; decide) (slice_cell y2).2
  rw [set7] at B7
  obtain ⟨h8, w3, B8, K8, n8⟩ := B7.put (o := 8) (v := v3) (by rw [cells_len ok]; decide) (slice_cell y3).2
  rw [set8] at B8
  have f1 := ld1_at B8.g (at42 ok) (slice_cell x.d).1
  obtain ⟨v4, h9, e4, y4, o9, I4⟩ := r70 (by rw [B8.old.n0]; exact hG) (x.d.old B8.old) sm.d
  have B9 := B8.more o9
  have f2 := ld1_at B9.g (at112 ok) (slice_cell x.e).1
  have f2' := ld1_at B8.g (at112 ok) (slice_cell x.e).1
  obtain ⟨v5, h10, e5, y5, o10, I5⟩ := r71 (by rw [B9.old.n0]; exact hG) (x.e.old B9.old) sm.e
  have B10 := B9.more o10
  have f3 := ld1_at B10.g (at114 ok) (slice_cell x.f).1
  have f3' := ld1_at B8.g (at114 ok) (slice_cell x.f).1
  have f3'' := ld1_at B9.g (at114 ok) (slice_cell x.f).1
  obtain ⟨v6, h11, e6, y6, o11, I6⟩ := r69 (by rw [B10.old.n0]; exact hG) (x.f.old B10.old) sm.f
  have B11 := B10.more o11
  obtain ⟨h12, w4, B12, K12, n12⟩ := B11.put (o := 42) (v := v4) (by rw [cells_len ok]; decide) (slice_cell y4).2
  rw [set42 ok] at B12
  obtain ⟨h13, w5, B13, K13, n13⟩ := B12.put (o := 112) (v := v5) (by rw [cells_len ok]; decide) (slice_cell y5).2
  rw [set112 ok] at B13
  obtain ⟨h14, w6, B14, K14, n14⟩ := B13.put (o := 114) (v := v6) (by rw [cells_len ok]; decide) (slice_cell y6).2
  rw [set114 ok] at B14
  have m3 := o3.next
  have m4 := o4.next
  have m5 := o5.next
  have m9 := o9.next
  have m10 := o10.next
  have m11 := o11.next
  have q1 := ((((((((((y1.old o4).old o5).past K6 I1 (by omega)).past K7 I1 (by omega)).past K8 I1 (by omega)).old o9).old o10).old o11).past K12 I1 (by omega)).past K13 I1 (by omega)).past K14 I1 (by omega)
  have q2 := (((((((((y2.old o5).past K6 I2 (by omega)).past K7 I2 (by omega)).past K8 I2 (by omega)).old o9).old o10).old o11).past K12 I2 (by omega)).past K13 I2 (by omega)).past K14 I2 (by omega)
  have q3 := ((((((((y3.past K6 I3 (by omega)).past K7 I3 (by omega)).past K8 I3 (by omega)).old o9).old o10).old o11).past K12 I3 (by omega)).past K13 I3 (by omega)).past K14 I3 (by omega)
  have q4 := ((((y4.old o10).old o11).past K12 I4 (by omega)).past K13 I4 (by omega)).past K14 I4 (by omega)
  have q5 := (((y5.old o11).past K12 I5 (by omega)).past K13 I5 (by omega)).past K14 I5 (by omega)
  have q6 := ((y6.past K12 I6 (by omega)).past K13 I6 (by omega)).past K14 I6 (by omega)
  have X14 : SlV h14 ⟨v1, v2, v3, v4, v5, v6⟩ n M := ⟨q1, q2, q3, q4, q5, q6⟩
  have S14 : Sep ⟨v1, v2, v3, v4, v5, v6⟩ h2.next h14.next := ⟨h3.next, h4.next, h5.next, h9.next, h10.next, m3, m4, m5, by omega, m10, by omega, I1, I2, I3, I4.mono (by omega) (by omega), I5, I6.mono (by omega) (by omega)⟩
  obtain ⟨h15, u1, u2, u3, X15, O15, n15⟩ := B14.out hz X14 ok S14 (by omega)
  refine ⟨⟨v1, v2, v3, v4, v5, v6⟩, h15, h2.next, CW_body is28 hG rfl ((t28_eq _ _ _).trans ?_), X15, O15, by rw [n15]; exact S14, by omega⟩
  have k1 := chk_at A2.l7 x.b.veq
  have k2 := chk_at A2.l8 x.c.veq
  have k3 := chk_at A3.l8 x.c.veq
  have k4 := chk_at f2' x.e.veq
  have k5 := chk_at f3' x.f.veq
  have k6 := chk_at f3'' x.f.veq
  unfold t28
  simp -implicitDefEqProofs only [b1, b2, thenV_some, pu_some, addP_ptr, Nat.zero_add, Nat.reduceAdd, A2.l6, e1, A3.l7, e2, A4.l8, e3, w1, w2, w3, k1, k2, k3, Bool.and_self, f1, e4, f2, e5, f3, e6, w4, w5, w6, k4, k5, k6, u1, u2]
  exact res_msg results28 (by decide) _ u3
end
end Go.Proofs.YtjghlcdidopcpaaGreatDoor

namespace Go.Proofs.YtjghlcdidopcpaaGreatDoor
open Go Go.Abs
attribute [local congr] thenV_congr

theorem veqL_append : ∀ a b : List Value, Abs.veqL (a ++ b) (a ++ b) = (Abs.veqL a a && Abs.veqL b b)
  | [], b => by simp [Abs.veqL]
  | x :: a, b => by
    have ih := veqL_append a b
    simp only [List.cons_append, Abs.veqL, ih, Bool.and_assoc]
theorem veqL_of : ∀ l : List Value, (∀ v ∈ l, Abs.veq v v = true) → Abs.veqL l l = true
  | [], _ => by simp [Abs.veqL]
  | x :: a, h => by
    have ih := veqL_of a (fun v hv => h v (List.mem_cons_of_mem _ hv))
    simp only [Abs.veqL, ih, h x (List.mem_cons_self ..), Bool.and_self]
theorem Kd.has.veq {k : Kd} {v : Value} (h : k.has v) : Abs.veq v v = true := by
  cases k with
  | u8 => obtain ⟨n, rfl, _⟩ := h; simp [Abs.veq]
  | i k => obtain ⟨n, rfl⟩ := h; simp [Abs.veq]
  | b => obtain ⟨t, rfl⟩ := h; simp [Abs.veq]
theorem Typed.veq {ks : List Kd} {cs : List Value} (h : Typed ks cs) : Abs.veqL cs cs = true := veqL_of _ fun v hv => by
  obtain ⟨j, hj⟩ := List.mem_iff_getElem?.1 hv
  have hj2 := (List.getElem?_eq_some_iff.1 hj).1
  rw [h.1] at hj2
  obtain ⟨w, hw, hk⟩ := h.2 j _ (List.getElem?_eq_getElem hj2)
  rw [hj] at hw
  cases hw
  exact hk.veq
theorem veqM {h : Heap} {s : Sl6} {n : N6} {M : MsgD} (x : SlV h s n M) (ok : M.Ok) : Abs.veq (.agg (M.cells s).toArray) (.agg (M.cells s).toArray) = true := by
  have e : Abs.veq (.agg (M.cells s).toArray) (.agg (M.cells s).toArray) = Abs.veqL (M.cells s) (M.cells s) := by
    show Abs.veq (.agg ⟨M.cells s⟩) (.agg ⟨M.cells s⟩) = _
    rw [Abs.veq]
  rw [e]
  unfold MsgD.cells MsgD.front MsgD.man
  simp only [veqL_append, ok.root.veq, ok.obj.veq, ok.mobj.veq, Abs.veqL, x.a.veq, x.b.veq, x.c.veq, x.d.veq, x.e.veq, x.f.veq, Abs.veq, beq_self_eq_true, Bool.and_self]

theorem TypedN.pt {ks : List Kd} {n : Nat} {cs : List Value} (h : TypedN ks n cs) {j : Nat} (hj : j < n * ks.length) : ∃ k v, ks[j % ks.length]? = some k ∧ cs[j]? = some v ∧ k.has v := by
  have hpos : 0 < ks.length := Nat.pos_of_ne_zero (fun e => by rw [e] at hj; omega)
  have hi : j / ks.length < n := (Nat.div_lt_iff_lt_mul hpos).2 hj
  have hm := Nat.mod_lt j hpos
  obtain ⟨v, hv, hk⟩ := (h.2 _ hi).2 (j % ks.length) _ (List.getElem?_eq_getElem hm)
  refine ⟨_, v, List.getElem?_eq_getElem hm, ?_, hk⟩
  rw [List.getElem?_take, if_pos hm, List.getElem?_drop] at hv
  have := Nat.div_add_mod j ks.length
  rw [Nat.mul_comm] at this
  rw [this] at hv
  exact hv
theorem TypedN.of_pt {ks : List Kd} {n : Nat} {cs : List Value} (hl : cs.length = n * ks.length) (h : ∀ j, j < n * ks.length → ∃ k v, ks[j % ks.length]? = some k ∧ cs[j]? = some v ∧ k.has v) : TypedN ks n cs := by
  refine ⟨hl, fun i hi => ?_⟩
  have hm := mul_le (z := ks.length) hi
  refine ⟨by rw [List.length_take, List.length_drop]; omega, fun j k hk => ?_⟩
  have hj := (List.getElem?_eq_some_iff.1 hk).1
  obtain ⟨k', v, h1, h2, h3⟩ := h (i * ks.length + j) (by omega)
  rw [Nat.mul_comm i, Nat.mul_add_mod, Nat.mod_eq_of_lt hj, hk] at h1
  cases h1
  exact ⟨v, by rw [List.getElem?_take, if_pos hj, List.getElem?_drop]; exact h2, h3⟩
theorem TypedN.put {ks : List Kd} {n : Nat} {cs : List Value} (h : TypedN ks n cs) {p : Nat} {k : Kd} {v : Value} (hk : ks[p % ks.length]? = some k) (hv : k.has v) : TypedN ks n (cs.set p v) := by
  refine .of_pt (by rw [List.length_set]; exact h.1) fun j hj => ?_
  by_cases e : p = j
  · subst e
    exact ⟨k, v, hk, by rw [List.getElem?_set_self (by rw [h.1]; exact hj)], hv⟩
  · obtain ⟨k', w, h1, h2, h3⟩ := h.pt hj
    exact ⟨k', w, h1, by rw [List.getElem?_set_ne e]; exact h2, h3⟩
/-- A slice's elements lie in this block. -/
structure SlK (ks : List Kd) (n off : Nat) (k : Blk) (cs : List Value) : Prop where
  le : off + n * ks.length ≤ k.length
  eq : (k.drop off).take (n * ks.length) = cs
  ty : TypedN ks n cs
theorem SlK.put {ks : List Kd} {n off : Nat} {k : Blk} {cs : List Value} (x : SlK ks n off k cs) {p : Nat} {t : Kd} {v : Value} (hk : ks[p % ks.length]? = some t) (hv : t.has v) : SlK ks n off (k.set (off + p) v) (cs.set p v) := by
  refine ⟨by rw [List.length_set]; exact x.le, ?_, x.ty.put hk hv⟩
  rw [List.drop_set, if_neg (by omega), List.take_set, x.eq, Nat.add_sub_cancel_left]
theorem SlN.out {h : Heap} {ks : List Kd} {v : Value} {n : Nat} {cs : List Value} (x : SlN h ks v n cs) (hn : 0 < n) : ∃ b off k, slB v = some b ∧ h.get b = some k ∧ SlK ks n off k cs ∧ (∀ i, i < n → idxS ks.length v (i64n i) = some (ptr b (off + i * ks.length))) ∧
    ∀ k' cs', SlK ks n off k' cs' → h.n0 ≤ b → SlN (h.set b k') ks v n cs' := by
  obtain ⟨a, c, rfl, h1, h2, h3⟩ := x
  obtain ⟨b, off, s, k, rfl, h4, h5, h6⟩ := h3 hn
  obtain ⟨m, rfl⟩ : ∃ m, n = m + 1 := ⟨n - 1, by omega⟩
  refine ⟨b, off, k, rfl, h4, ⟨h5, h6, h2⟩, fun i hi => ?_, fun k' cs' y hb => ⟨_, _, rfl, fun h => (by cases h), y.ty, fun _ => ⟨b, off, s, k', rfl, Heap.get_set_same hb h4 _, y.le, y.eq⟩⟩⟩
  unfold idxS
  simp only []
  rw [if_pos (by omega), Int.toNat_natCast]
theorem elt_mod {z i j : Nat} (hj : j < z) : (i * z + j) % z = j := by rw [Nat.mul_comm, Nat.mul_add_mod, Nat.mod_eq_of_lt hj]
/-- One element: its cells are read, and written. -/
theorem SlN.elt {h : Heap} {ks : List Kd} {v : Value} {n : Nat} {cs : List Value} (x : SlN h ks v n cs) (h0 : ∀ b, slB v = some b → h.n0 ≤ b) {i : Nat} (hi : i < n) : ∃ b o, slB v = some b ∧ idxS ks.length v (i64n i) = some (ptr b o) ∧
    (∀ j k, ks[j]? = some k → ∃ u, k.has u ∧ ld1 (ptr b (o + j)) h = some (u, h)) ∧
    ∀ j k u, ks[j]? = some k → k.has u → ∃ h' cs', stN 1 (ptr b (o + j)) u h = some (undef, h') ∧ SlN h' ks v n cs' ∧ Kept h h' (· = b) := by
  obtain ⟨b, off, k, hb, g, y, hix, hput⟩ := x.out (by omega)
  have hm := mul_le (z := ks.length) hi
  have hle := y.le
  refine ⟨b, off + i * ks.length, hb, hix i hi, fun j t ht => ?_, fun j t u ht hu => ?_⟩
  · have hj := (List.getElem?_eq_some_iff.1 ht).1
    obtain ⟨t', u, h1, h2, h3⟩ := y.ty.pt (j := i * ks.length + j) (by omega)
    rw [elt_mod hj, ht] at h1
    cases h1
    refine ⟨u, h3, ld1_at g ?_ h3.cell.1⟩
    rw [← y.eq, List.getElem?_take, if_pos (by omega), List.getElem?_drop, ← Nat.add_assoc] at h2
    exact h2
  · have hj := (List.getElem?_eq_some_iff.1 ht).1
    refine ⟨_, cs.set (i * ks.length + j) u, stN1_at g (by omega) (h0 b hb) hu.cell.2.2.2 hu.cell.2.1, hput _ _ ?_ (h0 b hb), Kept.set (h0 b hb) g (.inr rfl)⟩
    have := y.put (p := i * ks.length + j) (t := t) (v := u) (by rw [elt_mod hj]; exact ht) hu
    rw [← Nat.add_assoc] at this
    exact this
theorem splice_two (k : List Value) (o : Nat) (v w : Value) (ho : o + 2 ≤ k.length) : splice k o [v, w] = (k.set o v).set (o + 1) w := by
  unfold splice
  refine List.ext_getElem? fun i => ?_
  have hl : (k.take o).length = o := by rw [List.length_take]; omega
  rw [List.append_assoc]
  by_cases h1 : i < o
  · rw [List.getElem?_append_left (by omega), List.getElem?_take, if_pos h1, List.getElem?_set_ne (by omega), List.getElem?_set_ne (by omega)]
  · rw [List.getElem?_append_right (by omega), hl]
    rcases (show i = o ∨ i = o + 1 ∨ o + 2 ≤ i by omega) with rfl | rfl | h2
    · rw [Nat.sub_self, List.getElem?_set_ne (by omega), List.getElem?_set_self (by omega)]; rfl
    · rw [Nat.add_sub_cancel_left, List.getElem?_set_self (by rw [List.length_set]; omega)]; rfl
    · rw [List.getElem?_append_right (by simp; omega), List.getElem?_drop, List.getElem?_set_ne (by omega), List.getElem?_set_ne (by omega)]
      congr 1
      simp only [List.length_cons, List.length_nil]
      omega
theorem SlN.elt2 {h : Heap} {v : Value} {n : Nat} {cs : List Value} (x : SlN h memK v n cs) (h0 : ∀ b, slB v = some b → h.n0 ≤ b) {i : Nat} (hi : i < n) (a : Int) (c : Nat) (hc : c < 256) : ∃ b o, slB v = some b ∧ idxS 2 v (i64n i) = some (ptr b o) ∧
    ∃ h' cs', stN 2 (ptr b o) (.agg #[.int .u64 a, .int .u8 c]) h = some (undef, h') ∧ SlN h' memK v n cs' ∧ Kept h h' (· = b) := by
  obtain ⟨b, off, k, hb, g, y, hix, hput⟩ := x.out (by omega)
  have hm : i * 2 + 2 ≤ n * 2 := mul_le (z := 2) hi
  have hle : off + n * 2 ≤ k.length := y.le
  have y1 := y.put (p := i * 2) (t := .i .u64) (v := .int .u64 a) (by rw [show (memK : List Kd).length = 2 from rfl, Nat.mul_mod_left]; rfl) ⟨a, rfl⟩
  have y2 := y1.put (p := i * 2 + 1) (t := .u8) (v := .int .u8 c) (by rw [show (memK : List Kd).length = 2 from rfl, elt_mod (by omega)]; rfl) ⟨c, rfl, hc⟩
  refine ⟨b, off + i * 2, hb, hix i hi, _, _, ?_, hput _ _ y2 (h0 b hb), Kept.set (h0 b hb) g (.inr rfl)⟩
  unfold stN ptr
  have e : (Value.agg #[.int .u64 a, .int .u8 c]).cells = #[.int .u64 a, .int .u8 c] := rfl
  simp only [e, List.size_toArray, List.length_cons, List.length_nil, Nat.reduceAdd, if_true]
  unfold stL
  simp only [g, List.length_cons, List.length_nil, Nat.reduceAdd]
  rw [if_pos (by
    have h1 : h.n0 ≤ b := h0 b hb
    have h2 : off + i * 2 + 2 ≤ k.length := by omega
    simp only [decide_eq_true h1, decide_eq_true h2, Bool.and_self, Bool.true_and]; rfl), splice_two k _ _ _ (by omega), ← Nat.add_assoc]
  rfl
theorem xor255 (m : Nat) (hm : m < 256) : ∃ m' : Nat, bin Tryz.prog .xor 5 (.int .u8 (m : Int)) (.int .u8 255) = some (.int .u8 (m' : Int)) ∧ m' < 256 :=
  ⟨m ^^^ 255, bin_xor_nat _ _ (k := .u8) rfl (show m < 2 ^ 8 from hm) (by decide), Nat.xor_lt_two_pow (n := 8) hm (by decide)⟩
theorem bldMem : bldR [(.int .u64 0), (.int .u8 0)] [(0, 1, (.int .u64 1099511627776))] = some (.agg #[.int .u64 1099511627776, .int .u8 (0 : Nat)]) := by kernel_rfl
theorem idxA0 (b o : Nat) : idxA 32 1 (ptr b o) (.int .i64 0) = some (ptr b o) := rfl

/-- What stays while the copy is written over. -/
structure Lk (h0 : Heap) (p q B7 : Nat) (c2 c5 : Value) (y : Nat → Value) (g : Heap) : Prop where
  k : Kept h0 g (fun b => p ≤ b ∧ b < q)
  y2 : y 2 = c2
  y5 : y 5 = c5
  y7 : y 7 = ptr B7 0
def LInv (t : Nat) (h0 : Heap) (p q B7 : Nat) (c2 c5 : Value) (ks : List Kd) (v : Value) (n : Nat) (k : Nat) (y : Nat → Value) (g : Heap) : Prop :=
  ∃ i, i + k = n ∧ y t = i64n i ∧ Lk h0 p q B7 c2 c5 y g ∧ ∃ cs, SlN g ks v n cs
def LFin (e : Nat) (h0 : Heap) (p q B7 : Nat) (c2 c5 : Value) (ex : Ex) (y : Nat → Value) (g : Heap) : Prop := ex = .exit e ∧ Lk h0 p q B7 c2 c5 y g
theorem Lk.mono {h0 : Heap} {p q q' B7 : Nat} {c2 c5 : Value} {y : Nat → Value} {g : Heap} (x : Lk h0 p q B7 c2 c5 y g) (h : q ≤ q') : Lk h0 p q' B7 c2 c5 y g := ⟨x.k.mono (fun b _ e => ⟨e.1, by omega⟩), x.y2, x.y5, x.y7⟩
theorem Lk.low {h0 : Heap} {p q B7 : Nat} {c2 c5 : Value} {y : Nat → Value} {g : Heap} (x : Lk h0 p q B7 c2 c5 y g) {v : Value} {p0 : Nat} (hp : p ≤ p0) (h0p : h0.n0 ≤ p) (hi : In v p0 q) : ∀ b, slB v = some b → g.n0 ≤ b := fun b hb => by
  have := hi b hb
  rw [x.k.n0]; omega
theorem Lk.wr {h0 : Heap} {p q B7 : Nat} {c2 c5 : Value} {y : Nat → Value} {g g' : Heap} (x : Lk h0 p q B7 c2 c5 y g) {v : Value} {p0 b : Nat} (hp : p ≤ p0) (hi : In v p0 q) (hb : slB v = some b) (k : Kept g g' (· = b)) : Kept h0 g' (fun b => p ≤ b ∧ b < q) :=
  x.k.also k (fun d _ e => by
    subst e
    have := hi _ hb
    omega)
theorem Lk.fld {h0 : Heap} {p q B7 : Nat} {c2 c5 : Value} {y : Nat → Value} {g : Heap} (x : Lk h0 p q B7 c2 c5 y g) {kb : Blk} (hb : h0.get B7 = some kb) (h7 : q ≤ B7) {o : Nat} {v : Value} (ho : kb[o]? = some v) {ks : List Kd} {n : Nat} {cs : List Value} (hv : SlN g ks v n cs) : ld1 (ptr B7 o) g = some (v, g) :=
  ld1_at (x.k.getE hb (by omega)) ho (slice_cell hv).1
theorem b9_13_exit (C : CallF) (e : Env) (h : Heap) : b9_13 C 0 e h = k9_11 C e h := rfl
theorem roundA {h0 : Heap} {p p0 q B7 : Nat} {c2 c5 v : Value} {n : Nat} {kb : Blk} (hb : h0.get B7 = some kb) (h7 : q ≤ B7) (ho : kb[6]? = some v) (hp : p ≤ p0) (hn : h0.n0 ≤ p) (hi : In v p0 q) (hs : n ≤ 1000000) :
    ∀ k y g, LInv 8 h0 p q B7 c2 c5 memK v n k y g → Rnd 148 (LInv 8 h0 p q B7 c2 c5 memK v n) (LFin 0 h0 p q B7 c2 c5) k (t9l9_11111010 CW y g) := by
  rintro k y g ⟨i, hik, yt, L, cs, x⟩
  have f := L.fld hb h7 ho x
  have low := L.low hp hn hi
  unfold t9l9_11111010
  by_cases hin : i < n
  · obtain ⟨b, o, bb, a1, g', cs', a2, x3, k3⟩ := x.elt2 low hin 1099511627776 0 (by decide)
    simp -implicitDefEqProofs only [yt, L.y7, thenV_some, pu_some, addP_ptr, Nat.zero_add, lss3, f, x.len, decide_eq_true hin, bldMem, a1, a2, add31 (show i + 1 ≤ 9223372036854775807 by omega)]
    exact Rnd.next (k - 1) (by omega) ⟨i + 1, by omega, rfl, ⟨L.wr hp hi bb k3, L.y2, L.y5, L.y7⟩, cs', x3⟩
  · simp -implicitDefEqProofs only [yt, L.y7, thenV_some, pu_some, addP_ptr, Nat.zero_add, lss3, f, x.len, decide_eq_false hin]
    exact Rnd.out 0 ⟨rfl, L.k, L.y2, L.y5, L.y7⟩
theorem loopA {h0 g : Heap} {p p0 q B7 : Nat} {c2 c5 v : Value} {n : Nat} {kb : Blk} {cs : List Value} {y : Nat → Value} (hb : h0.get B7 = some kb) (h7 : q ≤ B7) (ho : kb[6]? = some v) (hp : p ≤ p0) (hpq : p0 ≤ q) (hn : h0.n0 ≤ p) (hi : In v p0 q) (hs : n ≤ 1000000) (x : SlN h0 memK v n cs)
    (L : Lk h0 p p0 B7 c2 c5 y g) (hy : y 8 = i64n 0) {Q : Out → Prop} (cont : ∀ y g, Lk h0 p q B7 c2 c5 y g → Q (k9_11 CW (mkF 148 y) g)) :
    Q (endL (iter (codeA Tryz.prog CW (partOf Tryz.f9 [1, 1, 1, 1, 1, 0, 1, 0, 0])) rounds (mkF 148 y) g) (resultsA Tryz.prog Tryz.f9.results.toList) (b9_13 CW)) := by
  have x' : SlN g memK v n cs := x.keep L.k (fun b bb e => by
    have := hi b bb
    omega)
  refine endL_fin (loop_fin (t9l9_11111010_eq CW) (roundA (c2 := c2) (c5 := c5) hb h7 ho hp hn hi hs) n (by have : rounds = 18446744073709551616 := rfl; omega) ⟨0, Nat.zero_add _, hy, L.mono hpq, cs, x'⟩) ?_
  rintro ex z g ⟨rfl, L⟩
  rw [endL_exit, b9_13_exit]
  exact cont z g L
theorem b9_16_exit (C : CallF) (e : Env) (h : Heap) : b9_16 C 2 e h = k9_14 C e h := rfl
theorem roundB {h0 : Heap} {p p0 q B7 : Nat} {c2 c5 v : Value} {n : Nat} {kb : Blk} (hb : h0.get B7 = some kb) (h7 : q ≤ B7) (ho : kb[7]? = some v) (hp : p ≤ p0) (hn : h0.n0 ≤ p) (hi : In v p0 q) (hs : n ≤ 1000000) :
    ∀ k y g, LInv 9 h0 p q B7 c2 c5 [.u8] v n k y g → Rnd 148 (LInv 9 h0 p q B7 c2 c5 [.u8] v n) (LFin 2 h0 p q B7 c2 c5) k (t9l9_111111010 CW y g) := by
  rintro k y g ⟨i, hik, yt, L, cs, x⟩
  have f := L.fld hb h7 ho x
  have low := L.low hp hn hi
  unfold t9l9_111111010
  by_cases hin : i < n
  · obtain ⟨b, o, bb, a1, a2, a3⟩ := x.elt low hin
    obtain ⟨_, ⟨m, rfl, hm⟩, a2⟩ := a2 0 .u8 rfl
    obtain ⟨m', e', hm'⟩ := xor255 m hm
    obtain ⟨g', cs', a3, x3, k3⟩ := a3 0 .u8 (.int .u8 (m' : Int)) rfl ⟨m', rfl, hm'⟩
    rw [Nat.add_zero] at a2 a3
    have a1 : idxS 1 v (i64n i) = some (ptr b o) := a1
    simp -implicitDefEqProofs only [yt, L.y7, thenV_some, pu_some, addP_ptr, Nat.zero_add, lss3, f, x.len, decide_eq_true hin, a1, a2, e', a3, add31 (show i + 1 ≤ 9223372036854775807 by omega)]
    exact Rnd.next (k - 1) (by omega) ⟨i + 1, by omega, rfl, ⟨L.wr hp hi bb k3, L.y2, L.y5, L.y7⟩, cs', x3⟩
  · simp -implicitDefEqProofs only [yt, L.y7, thenV_some, pu_some, addP_ptr, Nat.zero_add, lss3, f, x.len, decide_eq_false hin]
    exact Rnd.out 2 ⟨rfl, L.k, L.y2, L.y5, L.y7⟩
theorem loopB {h0 g : Heap} {p p0 q B7 : Nat} {c2 c5 v : Value} {n : Nat} {kb : Blk} {cs : List Value} {y : Nat → Value} (hb : h0.get B7 = some kb) (h7 : q ≤ B7) (ho : kb[7]? = some v) (hp : p ≤ p0) (hpq : p0 ≤ q) (hn : h0.n0 ≤ p) (hi : In v p0 q) (hs : n ≤ 1000000) (x : SlN h0 [.u8] v n cs)
    (L : Lk h0 p p0 B7 c2 c5 y g) (hy : y 9 = i64n 0) {Q : Out → Prop} (cont : ∀ y g, Lk h0 p q B7 c2 c5 y g → Q (k9_14 CW (mkF 148 y) g)) :
    Q (endL (iter (codeA Tryz.prog CW (partOf Tryz.f9 [1, 1, 1, 1, 1, 1, 0, 1, 0, 0])) rounds (mkF 148 y) g) (resultsA Tryz.prog Tryz.f9.results.toList) (b9_16 CW)) := by
  have x' : SlN g [.u8] v n cs := x.keep L.k (fun b bb e => by
    have := hi b bb
    omega)
  refine endL_fin (loop_fin (t9l9_111111010_eq CW) (roundB (c2 := c2) (c5 := c5) hb h7 ho hp hn hi hs) n (by have : rounds = 18446744073709551616 := rfl; omega) ⟨0, Nat.zero_add _, hy, L.mono hpq, cs, x'⟩) ?_
  rintro ex z g ⟨rfl, L⟩
  rw [endL_exit, b9_16_exit]
  exact cont z g L
theorem b9_23_exit (C : CallF) (e : Env) (h : Heap) : b9_23 C 4 e h = k9_21 C e h := rfl
theorem roundC {h0 : Heap} {p p0 q B7 : Nat} {c2 c5 v : Value} {n : Nat} {kb : Blk} (hb : h0.get B7 = some kb) (h7 : q ≤ B7) (ho : kb[8]? = some v) (hp : p ≤ p0) (hn : h0.n0 ≤ p) (hi : In v p0 q) (hs : n ≤ 1000000) :
    ∀ k y g, LInv 10 h0 p q B7 c2 c5 [.u8] v n k y g → Rnd 148 (LInv 10 h0 p q B7 c2 c5 [.u8] v n) (LFin 4 h0 p q B7 c2 c5) k (t9l9_1111111010 CW y g) := by
  rintro k y g ⟨i, hik, yt, L, cs, x⟩
  have f := L.fld hb h7 ho x
  have low := L.low hp hn hi
  unfold t9l9_1111111010
  by_cases hin : i < n
  · obtain ⟨b, o, bb, a1, a2, a3⟩ := x.elt low hin
    obtain ⟨_, ⟨m, rfl, hm⟩, a2⟩ := a2 0 .u8 rfl
    obtain ⟨m', e', hm'⟩ := xor255 m hm
    obtain ⟨g', cs', a3, x3, k3⟩ := a3 0 .u8 (.int .u8 (m' : Int)) rfl ⟨m', rfl, hm'⟩
    rw [Nat.add_zero] at a2 a3
    have a1 : idxS 1 v (i64n i) = some (ptr b o) := a1
    simp -implicitDefEqProofs only [yt, L.y7, thenV_some, pu_some, addP_ptr, Nat.zero_add, lss3, f, x.len, decide_eq_true hin, a1, a2, e', a3, add31 (show i + 1 ≤ 9223372036854775807 by omega)]
    exact Rnd.next (k - 1) (by omega) ⟨i + 1, by omega, rfl, ⟨L.wr hp hi bb k3, L.y2, L.y5, L.y7⟩, cs', x3⟩
  · simp -implicitDefEqProofs only [yt, L.y7, thenV_some, pu_some, addP_ptr, Nat.zero_add, lss3, f, x.len, decide_eq_false hin]
    exact Rnd.out 4 ⟨rfl, L.k, L.y2, L.y5, L.y7⟩
theorem loopC {h0 g : Heap} {p p0 q B7 : Nat} {c2 c5 v : Value} {n : Nat} {kb : Blk} {cs : List Value} {y : Nat → Value} (hb : h0.get B7 = some kb) (h7 : q ≤ B7) (ho : kb[8]? = some v) (hp : p ≤ p0) (hpq : p0 ≤ q) (hn : h0.n0 ≤ p) (hi : In v p0 q) (hs : n ≤ 1000000) (x : SlN h0 [.u8] v n cs)
    (L : Lk h0 p p0 B7 c2 c5 y g) (hy : y 10 = i64n 0) {Q : Out → Prop} (cont : ∀ y g, Lk h0 p q B7 c2 c5 y g → Q (k9_21 CW (mkF 148 y) g)) :
    Q (endL (iter (codeA Tryz.prog CW (partOf Tryz.f9 [1, 1, 1, 1, 1, 1, 1, 0, 1, 0, 0])) rounds (mkF 148 y) g) (resultsA Tryz.prog Tryz.f9.results.toList) (b9_23 CW)) := by
  have x' : SlN g [.u8] v n cs := x.keep L.k (fun b bb e => by
    have := hi b bb
    omega)
  refine endL_fin (loop_fin (t9l9_1111111010_eq CW) (roundC (c2 := c2) (c5 := c5) hb h7 ho hp hn hi hs) n (by have : rounds = 18446744073709551616 := rfl; omega) ⟨0, Nat.zero_add _, hy, L.mono hpq, cs, x'⟩) ?_
  rintro ex z g ⟨rfl, L⟩
  rw [endL_exit, b9_23_exit]
  exact cont z g L
theorem b9_30_exit (C : CallF) (e : Env) (h : Heap) : b9_30 C 6 e h = k9_28 C e h := rfl
theorem roundD {h0 : Heap} {p p0 q B7 : Nat} {c2 c5 v : Value} {n : Nat} {kb : Blk} (hb : h0.get B7 = some kb) (h7 : q ≤ B7) (ho : kb[42]? = some v) (hp : p ≤ p0) (hn : h0.n0 ≤ p) (hi : In v p0 q) (hs : n ≤ 1000000) :
    ∀ k y g, LInv 11 h0 p q B7 c2 c5 recK v n k y g → Rnd 148 (LInv 11 h0 p q B7 c2 c5 recK v n) (LFin 6 h0 p q B7 c2 c5) k (t9l9_11111111010 CW y g) := by
  rintro k y g ⟨i, hik, yt, L, cs, x⟩
  have f := L.fld hb h7 ho x
  have low := L.low hp hn hi
  unfold t9l9_11111111010
  by_cases hin : i < n
  · obtain ⟨b, o, bb, a1, a2, a3⟩ := x.elt low hin
    obtain ⟨_, ⟨m, rfl⟩, a2⟩ := a2 35 (.i .u64) rfl
    obtain ⟨g', cs', a3, x3, k3⟩ := a3 35 (.i .u64) (.int .u64 (IntKind.wrap .u64 (m + 1))) rfl ⟨_, rfl⟩
    have a1 : idxS 39 v (i64n i) = some (ptr b o) := a1
    have e' : bin Tryz.prog .add 25 (.int .u64 m) (.int .u64 1) = some (.int .u64 (IntKind.wrap .u64 (m + 1))) := bin_add ..
    simp -implicitDefEqProofs only [yt, L.y7, thenV_some, pu_some, addP_ptr, Nat.zero_add, lss3, f, x.len, decide_eq_true hin, a1, a2, e', a3, add31 (show i + 1 ≤ 9223372036854775807 by omega)]
    exact Rnd.next (k - 1) (by omega) ⟨i + 1, by omega, rfl, ⟨L.wr hp hi bb k3, L.y2, L.y5, L.y7⟩, cs', x3⟩
  · simp -implicitDefEqProofs only [yt, L.y7, thenV_some, pu_some, addP_ptr, Nat.zero_add, lss3, f, x.len, decide_eq_false hin]
    exact Rnd.out 6 ⟨rfl, L.k, L.y2, L.y5, L.y7⟩
theorem loopD {h0 g : Heap} {p p0 q B7 : Nat} {c2 c5 v : Value} {n : Nat} {kb : Blk} {cs : List Value} {y : Nat → Value} (hb : h0.get B7 = some kb) (h7 : q ≤ B7) (ho : kb[42]? = some v) (hp : p ≤ p0) (hpq : p0 ≤ q) (hn : h0.n0 ≤ p) (hi : In v p0 q) (hs : n ≤ 1000000) (x : SlN h0 recK v n cs)
    (L : Lk h0 p p0 B7 c2 c5 y g) (hy : y 11 = i64n 0) {Q : Out → Prop} (cont : ∀ y g, Lk h0 p q B7 c2 c5 y g → Q (k9_28 CW (mkF 148 y) g)) :
    Q (endL (iter (codeA Tryz.prog CW (partOf Tryz.f9 [1, 1, 1, 1, 1, 1, 1, 1, 0, 1, 0, 0])) rounds (mkF 148 y) g) (resultsA Tryz.prog Tryz.f9.results.toList) (b9_30 CW)) := by
  have x' : SlN g recK v n cs := x.keep L.k (fun b bb e => by
    have := hi b bb
    omega)
  refine endL_fin (loop_fin (t9l9_11111111010_eq CW) (roundD (c2 := c2) (c5 := c5) hb h7 ho hp hn hi hs) n (by have : rounds = 18446744073709551616 := rfl; omega) ⟨0, Nat.zero_add _, hy, L.mono hpq, cs, x'⟩) ?_
  rintro ex z g ⟨rfl, L⟩
  rw [endL_exit, b9_30_exit]
  exact cont z g L
theorem b9_37_exit (C : CallF) (e : Env) (h : Heap) : b9_37 C 8 e h = k9_35 C e h := rfl
theorem roundE {h0 : Heap} {p p0 q B7 : Nat} {c2 c5 v : Value} {n : Nat} {kb : Blk} (hb : h0.get B7 = some kb) (h7 : q ≤ B7) (ho : kb[112]? = some v) (hp : p ≤ p0) (hn : h0.n0 ≤ p) (hi : In v p0 q) (hs : n ≤ 1000000) :
    ∀ k y g, LInv 12 h0 p q B7 c2 c5 digK v n k y g → Rnd 148 (LInv 12 h0 p q B7 c2 c5 digK v n) (LFin 8 h0 p q B7 c2 c5) k (t9l9_111111111010 CW y g) := by
  rintro k y g ⟨i, hik, yt, L, cs, x⟩
  have f := L.fld hb h7 ho x
  have low := L.low hp hn hi
  unfold t9l9_111111111010
  by_cases hin : i < n
  · obtain ⟨b, o, bb, a1, a2, a3⟩ := x.elt low hin
    obtain ⟨_, ⟨m, rfl, hm⟩, a2⟩ := a2 0 .u8 rfl
    obtain ⟨m', e', hm'⟩ := xor255 m hm
    obtain ⟨g', cs', a3, x3, k3⟩ := a3 0 .u8 (.int .u8 (m' : Int)) rfl ⟨m', rfl, hm'⟩
    rw [Nat.add_zero] at a2 a3
    have a1 : idxS 32 v (i64n i) = some (ptr b o) := a1
    simp -implicitDefEqProofs only [yt, L.y7, thenV_some, pu_some, addP_ptr, Nat.zero_add, Nat.reduceAdd, lss3, f, x.len, decide_eq_true hin, a1, idxA0, a2, e', a3, add31 (show i + 1 ≤ 9223372036854775807 by omega)]
    exact Rnd.next (k - 1) (by omega) ⟨i + 1, by omega, rfl, ⟨L.wr hp hi bb k3, L.y2, L.y5, L.y7⟩, cs', x3⟩
  · simp -implicitDefEqProofs only [yt, L.y7, thenV_some, pu_some, addP_ptr, Nat.zero_add, Nat.reduceAdd, lss3, f, x.len, decide_eq_false hin]
    exact Rnd.out 8 ⟨rfl, L.k, L.y2, L.y5, L.y7⟩
theorem loopE {h0 g : Heap} {p p0 q B7 : Nat} {c2 c5 v : Value} {n : Nat} {kb : Blk} {cs : List Value} {y : Nat → Value} (hb : h0.get B7 = some kb) (h7 : q ≤ B7) (ho : kb[112]? = some v) (hp : p ≤ p0) (hpq : p0 ≤ q) (hn : h0.n0 ≤ p) (hi : In v p0 q) (hs : n ≤ 1000000) (x : SlN h0 digK v n cs)
    (L : Lk h0 p p0 B7 c2 c5 y g) (hy : y 12 = i64n 0) {Q : Out → Prop} (cont : ∀ y g, Lk h0 p q B7 c2 c5 y g → Q (k9_35 CW (mkF 148 y) g)) :
    Q (endL (iter (codeA Tryz.prog CW (partOf Tryz.f9 [1, 1, 1, 1, 1, 1, 1, 1, 1, 0, 1, 0, 0])) rounds (mkF 148 y) g) (resultsA Tryz.prog Tryz.f9.results.toList) (b9_37 CW)) := by
  have x' : SlN g digK v n cs := x.keep L.k (fun b bb e => by
    have := hi b bb
    omega)
  refine endL_fin (loop_fin (t9l9_111111111010_eq CW) (roundE (c2 := c2) (c5 := c5) hb h7 ho hp hn hi hs) n (by have : rounds = 18446744073709551616 := rfl; omega) ⟨0, Nat.zero_add _, hy, L.mono hpq, cs, x'⟩) ?_
  rintro ex z g ⟨rfl, L⟩
  rw [endL_exit, b9_37_exit]
  exact cont z g L
theorem b9_44_exit (C : CallF) (e : Env) (h : Heap) : b9_44 C 10 e h = k9_42 C e h := rfl
theorem roundF {h0 : Heap} {p p0 q B7 : Nat} {c2 c5 v : Value} {n : Nat} {kb : Blk} (hb : h0.get B7 = some kb) (h7 : q ≤ B7) (ho : kb[114]? = some v) (hp : p ≤ p0) (hn : h0.n0 ≤ p) (hi : In v p0 q) (hs : n ≤ 1000000) :
    ∀ k y g, LInv 13 h0 p q B7 c2 c5 [.u8] v n k y g → Rnd 148 (LInv 13 h0 p q B7 c2 c5 [.u8] v n) (LFin 10 h0 p q B7 c2 c5) k (t9l9_1111111111010 CW y g) := by
  rintro k y g ⟨i, hik, yt, L, cs, x⟩
  have f := L.fld hb h7 ho x
  have low := L.low hp hn hi
  unfold t9l9_1111111111010
  by_cases hin : i < n
  · obtain ⟨b, o, bb, a1, a2, a3⟩ := x.elt low hin
    obtain ⟨_, ⟨m, rfl, hm⟩, a2⟩ := a2 0 .u8 rfl
    obtain ⟨m', e', hm'⟩ := xor255 m hm
    obtain ⟨g', cs', a3, x3, k3⟩ := a3 0 .u8 (.int .u8 (m' : Int)) rfl ⟨m', rfl, hm'⟩
    rw [Nat.add_zero] at a2 a3
    have a1 : idxS 1 v (i64n i) = some (ptr b o) := a1
    simp -implicitDefEqProofs only [yt, L.y7, thenV_some, pu_some, addP_ptr, Nat.zero_add, Nat.reduceAdd, lss3, f, x.len, decide_eq_true hin, a1, a2, e', a3, add31 (show i + 1 ≤ 9223372036854775807 by omega)]
    exact Rnd.next (k - 1) (by omega) ⟨i + 1, by omega, rfl, ⟨L.wr hp hi bb k3, L.y2, L.y5, L.y7⟩, cs', x3⟩
  · simp -implicitDefEqProofs only [yt, L.y7, thenV_some, pu_some, addP_ptr, Nat.zero_add, Nat.reduceAdd, lss3, f, x.len, decide_eq_false hin]
    exact Rnd.out 10 ⟨rfl, L.k, L.y2, L.y5, L.y7⟩
theorem loopF {h0 g : Heap} {p p0 q B7 : Nat} {c2 c5 v : Value} {n : Nat} {kb : Blk} {cs : List Value} {y : Nat → Value} (hb : h0.get B7 = some kb) (h7 : q ≤ B7) (ho : kb[114]? = some v) (hp : p ≤ p0) (hpq : p0 ≤ q) (hn : h0.n0 ≤ p) (hi : In v p0 q) (hs : n ≤ 1000000) (x : SlN h0 [.u8] v n cs)
    (L : Lk h0 p p0 B7 c2 c5 y g) (hy : y 13 = i64n 0) {Q : Out → Prop} (cont : ∀ y g, Lk h0 p q B7 c2 c5 y g → Q (k9_42 CW (mkF 148 y) g)) :
    Q (endL (iter (codeA Tryz.prog CW (partOf Tryz.f9 [1, 1, 1, 1, 1, 1, 1, 1, 1, 1, 0, 1, 0, 0])) rounds (mkF 148 y) g) (resultsA Tryz.prog Tryz.f9.results.toList) (b9_44 CW)) := by
  have x' : SlN g [.u8] v n cs := x.keep L.k (fun b bb e => by
    have := hi b bb
    omega)
  refine endL_fin (loop_fin (t9l9_1111111111010_eq CW) (roundF (c2 := c2) (c5 := c5) hb h7 ho hp hn hi hs) n (by have : rounds = 18446744073709551616 := rfl; omega) ⟨0, Nat.zero_add _, hy, L.mono hpq, cs, x'⟩) ?_
  rintro ex z g ⟨rfl, L⟩
  rw [endL_exit, b9_44_exit]
  exact cont z g L
end Go.Proofs.YtjghlcdidopcpaaGreatDoor

namespace Go.Proofs.YtjghlcdidopcpaaGreatDoor
open Go Go.Abs
attribute [local congr] thenV_congr

theorem one_new (h : Heap) {Z k : Blk} (hz : Z.length = 116) (hk : k.length = 116) (ho : oneCells k = true) : ∃ h2, stN 116 (ptr h.next 0) (.agg k.toArray) (h.alloc Z) = some (undef, h2) ∧ Old h h2 ∧ h2.get h.next = some k ∧ h2.next = h.next + 1 := by
  have g : (h.alloc Z).get h.next = some Z := by rw [Heap.get_alloc, if_pos rfl]
  have o : Old h (h.alloc Z) := Kept.alloc _ _ _
  have hn : (h.alloc Z).n0 ≤ h.next := by rw [o.n0]; exact h.n0_le_next
  have k1 : Kept (h.alloc Z) ((h.alloc Z).set h.next k) (· = h.next) := Kept.set hn g (.inr rfl)
  exact ⟨_, stN_whole g hn hz hk ho, o.also k1 (fun d hd e => by omega), Heap.get_set_same hn g _, rfl⟩
theorem two_new (h : Heap) {Z k k' : Blk} (hz : Z.length = 116) (hk : k.length = 116) (ho : oneCells k = true) (hk' : k'.length = 116) (ho' : oneCells k' = true) : ∃ h3 h4, stN 116 (ptr h.next 0) (.agg k.toArray) ((h.alloc Z).alloc Z) = some (undef, h3) ∧ stN 116 (ptr (h.alloc Z).next 0) (.agg k'.toArray) h3 = some (undef, h4) ∧ Old h h4 ∧
    h4.get h.next = some k ∧ h4.get (h.next + 1) = some k' ∧ h4.next = h.next + 2 := by
  have o : Old h (h.alloc Z) := Kept.alloc _ _ _
  have o2 : Old (h.alloc Z) ((h.alloc Z).alloc Z) := Kept.alloc _ _ _
  have g : (h.alloc Z).get h.next = some Z := by rw [Heap.get_alloc, if_pos rfl]
  have g1 := o2.get g
  have g2 : ((h.alloc Z).alloc Z).get (h.next + 1) = some Z := by rw [Heap.get_alloc, Heap.next_alloc, if_pos rfl]
  have hn : ((h.alloc Z).alloc Z).n0 ≤ h.next := by rw [o2.n0, o.n0]; exact h.n0_le_next
  have k1 : Kept ((h.alloc Z).alloc Z) (((h.alloc Z).alloc Z).set h.next k) (· = h.next) := Kept.set hn g1 (.inr rfl)
  have g3 := k1.getE g2 (by omega)
  have g4 : (((h.alloc Z).alloc Z).set h.next k).get h.next = some k := Heap.get_set_same hn g1 _
  have s1 := stN_whole g1 hn hz hk ho
  have nn : (((h.alloc Z).alloc Z).set h.next k).next = h.next + 2 := rfl
  generalize ((h.alloc Z).alloc Z).set h.next k = h3 at *
  have hn3 : h3.n0 ≤ h.next + 1 := by rw [k1.n0]; omega
  have k2 : Kept h3 (h3.set (h.next + 1) k') (· = h.next + 1) := Kept.set hn3 g3 (.inr rfl)
  refine ⟨h3, _, s1, by rw [Heap.next_alloc]; exact stN_whole g3 hn3 hz hk' ho', ((o.trans o2).also k1 (fun d hd e => by omega)).also k2 (fun d hd e => by omega), k2.getE g4 (by omega), Heap.get_set_same hn3 g3 _, nn⟩
theorem SlV.lt {h : Heap} {s : Sl6} {n : N6} {M : MsgD} (x : SlV h s n M) {p : Nat} (hp : h.next ≤ p) : s.off (fun b => p ≤ b) := by
  rintro v (rfl | rfl | rfl | rfl | rfl | rfl) y hy hb
  · have := x.a.lt hy; omega
  · have := x.b.lt hy; omega
  · have := x.c.lt hy; omega
  · have := x.d.lt hy; omega
  · have := x.e.lt hy; omega
  · have := x.f.lt hy; omega
theorem neq_bool (a b : Bool) : bin Tryz.prog .neq 4 (.bool a) (.bool b) = some (.bool (a != b)) := by cases a <;> cases b <;> kernel_rfl
theorem is9 : IsFn Tryz.prog 9 Tryz.f9 := ⟨by kernel_rfl, by kernel_rfl, by kernel_rfl, by kernel_rfl⟩

theorem Lk.set {h0 : Heap} {p q B7 : Nat} {c2 c5 : Value} {y : Nat → Value} {g : Heap} (x : Lk h0 p q B7 c2 c5 y g) (t : Nat) (v : Value) (e2 : Nat.beq t 2 = false) (e5 : Nat.beq t 5 = false) (e7 : Nat.beq t 7 = false) : Lk h0 p q B7 c2 c5 (up y [(t, v)]) g :=
  ⟨x.k, by rw [up_other _ _ _ _ _ e2]; exact x.y2, by rw [up_other _ _ _ _ _ e5]; exact x.y5, by rw [up_other _ _ _ _ _ e7]; exact x.y7⟩
set_option maxRecDepth 100000 in
/-- The loops, and what comes after them. -/
theorem loops9 {h0 : Heap} {p q B2 B5 B7 : Nat} {s s1 sc : Sl6} {n : N6} {M : MsgD} {y : Nat → Value} (hG : 4 ≤ h0.n0) (ok : M.Ok) (sm : n.Small) (xs : SlV h0 s n M) (x1 : SlV h0 s1 n M) (xc : SlV h0 sc n M) (sp : Sep sc p q) (h7 : q ≤ B7) (h2p : B2 < p) (h5p : B5 < p) (h0p : h0.n0 ≤ p)
    (off : s.off (fun b => p ≤ b)) (off1 : s1.off (fun b => p ≤ b)) (g2 : h0.get B2 = some (M.cells s)) (g5 : h0.get B5 = some (M.cells s1)) (g7 : h0.get B7 = some (M.cells sc)) (y2 : y 2 = ptr B2 0) (y5 : y 5 = ptr B5 0) (y7 : y 7 = ptr B7 0) (y8 : y 8 = i64n 0) :
    ∃ h', endL (iter (codeA Tryz.prog CW (partOf Tryz.f9 [1, 1, 1, 1, 1, 0, 1, 0, 0])) rounds (mkF 148 y) h0) (resultsA Tryz.prog Tryz.f9.results.toList) (b9_13 CW) = some (.bool true, h') := by
  obtain ⟨p1, p2, p3, p4, p5, l1, l2, l3, l4, l5, l6, ia, ib, ic, id, ie, if_⟩ := sp.ex
  have a6 : (M.cells sc)[6]? = some sc.a := rfl
  have a7 : (M.cells sc)[7]? = some sc.b := rfl
  have a8 : (M.cells sc)[8]? = some sc.c := rfl
  refine loopA (Q := fun o : Out => ∃ h', o = some (.bool true, h')) (c2 := ptr B2 0) (c5 := ptr B5 0) g7 (Nat.le_trans (by omega) h7) a6 (Nat.le_refl p) l1 h0p ia sm.a xc.a ⟨Kept.refl _ _, y2, y5, y7⟩ y8 ?_
  clear y2 y5 y7 y8
  intro y g K
  rw [t9k9_11_eq]
  unfold t9k9_11
  rw [thenV_some]
  refine loopB (Q := fun o : Out => ∃ h', o = some (.bool true, h')) (c2 := ptr B2 0) (c5 := ptr B5 0) g7 (Nat.le_trans (by omega) h7) a7 (by omega) l2 h0p ib sm.b xc.b (K.set 9 (.int .i64 0) rfl rfl rfl) (up_same ..) ?_
  intro y g K
  rw [t9k9_14_eq]
  unfold t9k9_14
  rw [thenV_some]
  refine loopC (Q := fun o : Out => ∃ h', o = some (.bool true, h')) (c2 := ptr B2 0) (c5 := ptr B5 0) g7 (Nat.le_trans (by omega) h7) a8 (by omega) l3 h0p ic sm.c xc.c (K.set 10 (.int .i64 0) rfl rfl rfl) (up_same ..) ?_
  intro y g K
  rw [t9k9_21_eq]
  unfold t9k9_21
  rw [thenV_some]
  refine loopD (Q := fun o : Out => ∃ h', o = some (.bool true, h')) (c2 := ptr B2 0) (c5 := ptr B5 0) g7 (Nat.le_trans (by omega) h7) (at42 ok) (by omega) l4 h0p id sm.d xc.d (K.set 11 (.int .i64 0) rfl rfl rfl) (up_same ..) ?_
  intro y g K
  rw [t9k9_28_eq]
  unfold t9k9_28
  rw [thenV_some]
  refine loopE (Q := fun o : Out => ∃ h', o = some (.bool true, h')) (c2 := ptr B2 0) (c5 := ptr B5 0) g7 (Nat.le_trans (by omega) h7) (at112 ok) (by omega) l5 h0p ie sm.e xc.e (K.set 12 (.int .i64 0) rfl rfl rfl) (up_same ..) ?_
  intro y g K
  rw [t9k9_35_eq]
  unfold t9k9_35
  rw [thenV_some]
  refine loopF (Q := fun o : Out => ∃ h', o = some (.bool true, h')) (c2 := ptr B2 0) (c5 := ptr B5 0) g7 (Nat.le_trans (by omega) h7) (at114 ok) (by omega) l6 h0p if_ sm.f xc.f (K.set 13 (.int .i64 0) rfl rfl rfl) (up_same ..) ?_
  intro y g K
  rw [t9k9_42_eq]
  unfold t9k9_42
  have X := xs.keep K.k (fun v hv b hb e => off v hv b hb e.1)
  have X1 := x1.keep K.k (fun v hv b hb e => off1 v hv b hb e.1)
  have e2 := (msg_ld X ok (K.k.getE g2 (by omega))).all
  have e5 := (msg_ld X1 ok (K.k.getE g5 (by omega))).all
  obtain ⟨r, h', e15, hr, _⟩ := r15 (by rw [K.k.n0]; exact hG) X1 X ok ok sm
  obtain rfl := hr.2 rfl
  exact ⟨h', by simp -implicitDefEqProofs only [K.y2, K.y5, e2, e5, e15, r12, thenV_some, bOf_bool, beq_self_eq_true, guardK_true, if_true]⟩
section
variable {h : Heap} {s s' : Sl6} {n n' : N6} {M M' : MsgD} (hG : 4 ≤ h.n0) (x : SlV h s n M) (x' : SlV h s' n' M') (ok : M.Ok) (ok' : M'.Ok)
include hG x x' ok ok'
set_option maxRecDepth 100000 in
theorem dev9 : ∃ h', CW 9 [.agg (M.cells s).toArray, .agg (M'.cells s').toArray] h = some (.bool true, h') := by
  have key : ∃ h', t9 CW (.agg (M.cells s).toArray) (.agg (M'.cells s').toArray) h = some (.bool true, h') := by
    have b1 := box_at h (M.cells s) (cells_ok x ok).2.1
    have o1 : Old h (h.alloc (M.cells s)) := Kept.alloc _ _ _
    have g1 : (h.alloc (M.cells s)).get h.next = some (M.cells s) := by rw [Heap.get_alloc, if_pos rfl]
    have n1 : (h.alloc (M.cells s)).next = h.next + 1 := Heap.next_alloc ..
    generalize h.alloc (M.cells s) = h1 at *
    have b2 := box_at h1 (M'.cells s') (cells_ok x' ok').2.1
    have o2' : Old h1 (h1.alloc (M'.cells s')) := Kept.alloc _ _ _
    have g2 : (h1.alloc (M'.cells s')).get h1.next = some (M'.cells s') := by rw [Heap.get_alloc, if_pos rfl]
    have n2 : (h1.alloc (M'.cells s')).next = h1.next + 1 := Heap.next_alloc ..
    generalize h1.alloc (M'.cells s') = h2 at *
    have o2 := o1.trans o2'
    have g1 := Old.get o2' g1
    have A2 := (msg_ld x ok g1).all
    obtain ⟨r1, h3, e1, k1, o3⟩ := r18 (by rw [o2.n0]; exact hG) (x.old o2) ok
    cases r1 with
    | true => exact ⟨h3, by unfold t9; simp -implicitDefEqProofs only [b1, b2, A2, e1, r12, thenV_some, bOf_bool, sf, guardK_false, if_true, Bool.and_true]⟩
    | false =>
    have A3 := (msg_ld x' ok' (Old.get o3 g2)).all
    have O3 := o2.trans o3
    obtain ⟨r2, h4, e2, k2, o4⟩ := r18 (by rw [O3.n0]; exact hG) (x'.old O3) ok'
    cases r2 with
    | true => exact ⟨h4, by unfold t9; simp -implicitDefEqProofs only [b1, b2, A2, e1, A3, e2, r12, thenV_some, bOf_bool, beq_self_eq_true, guardK_true, Bool.false_eq_true, if_false, Bool.and_true]⟩
    | false =>
    have sm := k1 rfl
    have sm' := k2 rfl
    have O4 := O3.trans o4
    have O24 := o3.trans o4
    have A4 := (msg_ld x ok (Old.get O24 g1)).all
    have A4' := (msg_ld x' ok' (Old.get O24 g2)).all
    obtain ⟨s1, h5, e3, X1, o5⟩ := r20 (by rw [O4.n0]; exact hG) (x.old O4) ok sm
    have O5 := O4.trans o5
    have O25 := O24.trans o5
    have A5' := (msg_ld x' ok' (Old.get O25 g2)).all
    obtain ⟨s2, h6, e4, X2, o6⟩ := r20 (by rw [O5.n0]; exact hG) (x'.old O5) ok' sm'
    have O6 := O5.trans o6
    have O26 := O25.trans o6
    have z7 := newC_eq [(.int .u8 0), (.int .i64 0), (.int .i64 0), (.int .u64 0), (.int .i64 0), (.int .i64 0), (.slice none 0 0), (.slice none 0 0), (.slice none 0 0), (.int .i64 0), (.int .u8 0), (.int .u8 0), (.int .u8 0), (.int .u8 0), (.int .u8 0), (.int .u8 0), (.int .u8 0), (.int .u8 0), (.int .u8 0), (.int .u8 0), (.int .u8 0), (.int .u8 0), (.int .u8 0), (.int .u8 0), (.int .u8 0), (.int .u8 0), (.int .u8 0), (.int .u8 0), (.int .u8 0), (.int .u8 0), (.int .u8 0), (.int .u8 0), (.int .u8 0), (.int .u8 0), (.int .u8 0), (.int .u8 0), (.int .u8 0), (.int .u8 0), (.int .u8 0), (.int .u8 0), (.int .u8 0), (.int .u8 0), (.slice none 0 0), (.bool false), (.int .u8 0), (.int .u8 0), (.int .u8 0), (.int .u8 0), (.int .u8 0), (.int .u8 0), (.int .u8 0), (.int .u8 0), (.int .u8 0), (.int .u8 0), (.int .u8 0), (.int .u8 0), (.int .u8 0), (.int .u8 0), (.int .u8 0), (.int .u8 0), (.int .u8 0), (.int .u8 0), (.int .u8 0), (.int .u8 0), (.int .u8 0), (.int .u8 0), (.int .u8 0), (.int .u8 0), (.int .u8 0), (.int .u8 0), (.int .u8 0), (.int .u8 0), (.int .u8 0), (.int .u8 0), (.int .u8 0), (.int .u8 0), (.int .i64 0), (.int .i64 0), (.int .i64 0), (.int .i64 0), (.int .u8 0), (.int .u8 0), (.int .u8 0), (.int .u8 0), (.int .u8 0), (.int .u8 0), (.int .u8 0), (.int .u8 0), (.int .u8 0), (.int .u8 0), (.int .u8 0), (.int .u8 0), (.int .u8 0), (.int .u8 0), (.int .u8 0), (.int .u8 0), (.int .u8 0), (.int .u8 0), (.int .u8 0), (.int .u8 0), (.int .u8 0), (.int .u8 0), (.int .u8 0), (.int .u8 0), (.int .u8 0), (.int .u8 0), (.int .u8 0), (.int .u8 0), (.int .u8 0), (.int .u8 0), (.int .u8 0), (.int .u8 0), (.slice none 0 0), (.int .i64 0), (.slice none 0 0), (.int .i64 0)] h6
    have z8 := newC_eq [(.int .u8 0), (.int .i64 0), (.int .i64 0), (.int .u64 0), (.int .i64 0), (.int .i64 0), (.slice none 0 0), (.slice none 0 0), (.slice none 0 0), (.int .i64 0), (.int .u8 0), (.int .u8 0), (.int .u8 0), (.int .u8 0), (.int .u8 0), (.int .u8 0), (.int .u8 0), (.int .u8 0), (.int .u8 0), (.int .u8 0), (.int .u8 0), (.int .u8 0), (.int .u8 0), (.int .u8 0), (.int .u8 0), (.int .u8 0), (.int .u8 0), (.int .u8 0), (.int .u8 0), (.int .u8 0), (.int .u8 0), (.int .u8 0), (.int .u8 0), (.int .u8 0), (.int .u8 0), (.int .u8 0), (.int .u8 0), (.int .u8 0), (.int .u8 0), (.int .u8 0), (.int .u8 0), (.int .u8 0), (.slice none 0 0), (.bool false), (.int .u8 0), (.int .u8 0), (.int .u8 0), (.int .u8 0), (.int .u8 0), (.int .u8 0), (.int .u8 0), (.int .u8 0), (.int .u8 0), (.int .u8 0), (.int .u8 0), (.int .u8 0), (.int .u8 0), (.int .u8 0), (.int .u8 0), (.int .u8 0), (.int .u8 0), (.int .u8 0), (.int .u8 0), (.int .u8 0), (.int .u8 0), (.int .u8 0), (.int .u8 0), (.int .u8 0), (.int .u8 0), (.int .u8 0), (.int .u8 0), (.int .u8 0), (.int .u8 0), (.int .u8 0), (.int .u8 0), (.int .u8 0), (.int .i64 0), (.int .i64 0), (.int .i64 0), (.int .i64 0), (.int .u8 0), (.int .u8 0), (.int .u8 0), (.int .u8 0), (.int .u8 0), (.int .u8 0), (.int .u8 0), (.int .u8 0), (.int .u8 0), (.int .u8 0), (.int .u8 0), (.int .u8 0), (.int .u8 0), (.int .u8 0), (.int .u8 0), (.int .u8 0), (.int .u8 0), (.int .u8 0), (.int .u8 0), (.int .u8 0), (.int .u8 0), (.int .u8 0), (.int .u8 0), (.int .u8 0), (.int .u8 0), (.int .u8 0), (.int .u8 0), (.int .u8 0), (.int .u8 0), (.int .u8 0), (.int .u8 0), (.int .u8 0), (.slice none 0 0), (.int .i64 0), (.slice none 0 0), (.int .i64 0)] (h6.alloc [(.int .u8 0), (.int .i64 0), (.int .i64 0), (.int .u64 0), (.int .i64 0), (.int .i64 0), (.slice none 0 0), (.slice none 0 0), (.slice none 0 0), (.int .i64 0), (.int .u8 0), (.int .u8 0), (.int .u8 0), (.int .u8 0), (.int .u8 0), (.int .u8 0), (.int .u8 0), (.int .u8 0), (.int .u8 0), (.int .u8 0), (.int .u8 0), (.int .u8 0), (.int .u8 0), (.int .u8 0), (.int .u8 0), (.int .u8 0), (.int .u8 0), (.int .u8 0), (.int .u8 0), (.int .u8 0), (.int .u8 0), (.int .u8 0), (.int .u8 0), (.int .u8 0), (.int .u8 0), (.int .u8 0), (.int .u8 0), (.int .u8 0), (.int .u8 0), (.int .u8 0), (.int .u8 0), (.int .u8 0), (.slice none 0 0), (.bool false), (.int .u8 0), (.int .u8 0), (.int .u8 0), (.int .u8 0), (.int .u8 0), (.int .u8 0), (.int .u8 0), (.int .u8 0), (.int .u8 0), (.int .u8 0), (.int .u8 0), (.int .u8 0), (.int .u8 0), (.int .u8 0), (.int .u8 0), (.int .u8 0), (.int .u8 0), (.int .u8 0), (.int .u8 0), (.int .u8 0), (.int .u8 0), (.int .u8 0), (.int .u8 0), (.int .u8 0), (.int .u8 0), (.int .u8 0), (.int .u8 0), (.int .u8 0), (.int .u8 0), (.int .u8 0), (.int .u8 0), (.int .u8 0), (.int .i64 0), (.int .i64 0), (.int .i64 0), (.int .i64 0), (.int .u8 0), (.int .u8 0), (.int .u8 0), (.int .u8 0), (.int .u8 0), (.int .u8 0), (.int .u8 0), (.int .u8 0), (.int .u8 0), (.int .u8 0), (.int .u8 0), (.int .u8 0), (.int .u8 0), (.int .u8 0), (.int .u8 0), (.int .u8 0), (.int .u8 0), (.int .u8 0), (.int .u8 0), (.int .u8 0), (.int .u8 0), (.int .u8 0), (.int .u8 0), (.int .u8 0), (.int .u8 0), (.int .u8 0), (.int .u8 0), (.int .u8 0), (.int .u8 0), (.int .u8 0), (.int .u8 0), (.int .u8 0), (.slice none 0 0), (.int .i64 0), (.slice none 0 0), (.int .i64 0)])
    have hz : ([(.int .u8 0), (.int .i64 0), (.int .i64 0), (.int .u64 0), (.int .i64 0), (.int .i64 0), (.slice none 0 0), (.slice none 0 0), (.slice none 0 0), (.int .i64 0), (.int .u8 0), (.int .u8 0), (.int .u8 0), (.int .u8 0), (.int .u8 0), (.int .u8 0), (.int .u8 0), (.int .u8 0), (.int .u8 0), (.int .u8 0), (.int .u8 0), (.int .u8 0), (.int .u8 0), (.int .u8 0), (.int .u8 0), (.int .u8 0), (.int .u8 0), (.int .u8 0), (.int .u8 0), (.int .u8 0), (.int .u8 0), (.int .u8 0), (.int .u8 0), (.int .u8 0), (.int .u8 0), (.int .u8 0), (.int .u8 0), (.int .u8 0), (.int .u8 0), (.int .u8 0), (.int .u8 0), (.int .u8 0), (.slice none 0 0), (.bool false), (.int .u8 0), (.int .u8 0), (.int .u8 0), (.int .u8 0), (.int .u8 0), (.int .u8 0), (.int .u8 0), (.int .u8 0), (.int .u8 0), (.int .u8 0), (.int .u8 0), (.int .u8 0), (.int .u8 0), (.int .u8 0), (.int .u8 0), (.int .u8 0), (.int .u8 0), (.int .u8 0), (.int .u8 0), (.int .u8 0), (.int .u8 0), (.int .u8 0), (.int .u8 0), (.int .u8 0), (.int .u8 0), (.int .u8 0), (.int .u8 0), (.int .u8 0), (.int .u8 0), (.int .u8 0), (.int .u8 0), (.int .u8 0), (.int .i64 0), (.int .i64 0), (.int .i64 0), (.int .i64 0), (.int .u8 0), (.int .u8 0), (.int .u8 0), (.int .u8 0), (.int .u8 0), (.int .u8 0), (.int .u8 0), (.int .u8 0), (.int .u8 0), (.int .u8 0), (.int .u8 0), (.int .u8 0), (.int .u8 0), (.int .u8 0), (.int .u8 0), (.int .u8 0), (.int .u8 0), (.int .u8 0), (.int .u8 0), (.int .u8 0), (.int .u8 0), (.int .u8 0), (.int .u8 0), (.int .u8 0), (.int .u8 0), (.int .u8 0), (.int .u8 0), (.int .u8 0), (.int .u8 0), (.int .u8 0), (.int .u8 0), (.int .u8 0), (.slice none 0 0), (.int .i64 0), (.slice none 0 0), (.int .i64 0)] : Blk).length = 116 := rfl
    have c1 := cells_ok X1 ok
    have c2 := cells_ok X2 ok'
    obtain ⟨h9, h10, e5, e6, o10, g5, g6, n10⟩ := two_new h6 hz c1.2.2 c1.2.1 c2.2.2 c2.2.1
    rw [Heap.next_alloc] at z8 e6
    generalize h6.alloc [(.int .u8 0), (.int .i64 0), (.int .i64 0), (.int .u64 0), (.int .i64 0), (.int .i64 0), (.slice none 0 0), (.slice none 0 0), (.slice none 0 0), (.int .i64 0), (.int .u8 0), (.int .u8 0), (.int .u8 0), (.int .u8 0), (.int .u8 0), (.int .u8 0), (.int .u8 0), (.int .u8 0), (.int .u8 0), (.int .u8 0), (.int .u8 0), (.int .u8 0), (.int .u8 0), (.int .u8 0), (.int .u8 0), (.int .u8 0), (.int .u8 0), (.int .u8 0), (.int .u8 0), (.int .u8 0), (.int .u8 0), (.int .u8 0), (.int .u8 0), (.int .u8 0), (.int .u8 0), (.int .u8 0), (.int .u8 0), (.int .u8 0), (.int .u8 0), (.int .u8 0), (.int .u8 0), (.int .u8 0), (.slice none 0 0), (.bool false), (.int .u8 0), (.int .u8 0), (.int .u8 0), (.int .u8 0), (.int .u8 0), (.int .u8 0), (.int .u8 0), (.int .u8 0), (.int .u8 0), (.int .u8 0), (.int .u8 0), (.int .u8 0), (.int .u8 0), (.int .u8 0), (.int .u8 0), (.int .u8 0), (.int .u8 0), (.int .u8 0), (.int .u8 0), (.int .u8 0), (.int .u8 0), (.int .u8 0), (.int .u8 0), (.int .u8 0), (.int .u8 0), (.int .u8 0), (.int .u8 0), (.int .u8 0), (.int .u8 0), (.int .u8 0), (.int .u8 0), (.int .u8 0), (.int .i64 0), (.int .i64 0), (.int .i64 0), (.int .i64 0), (.int .u8 0), (.int .u8 0), (.int .u8 0), (.int .u8 0), (.int .u8 0), (.int .u8 0), (.int .u8 0), (.int .u8 0), (.int .u8 0), (.int .u8 0), (.int .u8 0), (.int .u8 0), (.int .u8 0), (.int .u8 0), (.int .u8 0), (.int .u8 0), (.int .u8 0), (.int .u8 0), (.int .u8 0), (.int .u8 0), (.int .u8 0), (.int .u8 0), (.int .u8 0), (.int .u8 0), (.int .u8 0), (.int .u8 0), (.int .u8 0), (.int .u8 0), (.int .u8 0), (.int .u8 0), (.int .u8 0), (.int .u8 0), (.slice none 0 0), (.int .i64 0), (.slice none 0 0), (.int .i64 0)] = h7 at *
    generalize h7.alloc [(.int .u8 0), (.int .i64 0), (.int .i64 0), (.int .u64 0), (.int .i64 0), (.int .i64 0), (.slice none 0 0), (.slice none 0 0), (.slice none 0 0), (.int .i64 0), (.int .u8 0), (.int .u8 0), (.int .u8 0), (.int .u8 0), (.int .u8 0), (.int .u8 0), (.int .u8 0), (.int .u8 0), (.int .u8 0), (.int .u8 0), (.int .u8 0), (.int .u8 0), (.int .u8 0), (.int .u8 0), (.int .u8 0), (.int .u8 0), (.int .u8 0), (.int .u8 0), (.int .u8 0), (.int .u8 0), (.int .u8 0), (.int .u8 0), (.int .u8 0), (.int .u8 0), (.int .u8 0), (.int .u8 0), (.int .u8 0), (.int .u8 0), (.int .u8 0), (.int .u8 0), (.int .u8 0), (.int .u8 0), (.slice none 0 0), (.bool false), (.int .u8 0), (.int .u8 0), (.int .u8 0), (.int .u8 0), (.int .u8 0), (.int .u8 0), (.int .u8 0), (.int .u8 0), (.int .u8 0), (.int .u8 0), (.int .u8 0), (.int .u8 0), (.int .u8 0), (.int .u8 0), (.int .u8 0), (.int .u8 0), (.int .u8 0), (.int .u8 0), (.int .u8 0), (.int .u8 0), (.int .u8 0), (.int .u8 0), (.int .u8 0), (.int .u8 0), (.int .u8 0), (.int .u8 0), (.int .u8 0), (.int .u8 0), (.int .u8 0), (.int .u8 0), (.int .u8 0), (.int .u8 0), (.int .i64 0), (.int .i64 0), (.int .i64 0), (.int .i64 0), (.int .u8 0), (.int .u8 0), (.int .u8 0), (.int .u8 0), (.int .u8 0), (.int .u8 0), (.int .u8 0), (.int .u8 0), (.int .u8 0), (.int .u8 0), (.int .u8 0), (.int .u8 0), (.int .u8 0), (.int .u8 0), (.int .u8 0), (.int .u8 0), (.int .u8 0), (.int .u8 0), (.int .u8 0), (.int .u8 0), (.int .u8 0), (.int .u8 0), (.int .u8 0), (.int .u8 0), (.int .u8 0), (.int .u8 0), (.int .u8 0), (.int .u8 0), (.int .u8 0), (.int .u8 0), (.int .u8 0), (.int .u8 0), (.slice none 0 0), (.int .i64 0), (.slice none 0 0), (.int .i64 0)] = h8 at *
    have O10 := O6.trans o10
    have O210 := O26.trans o10
    have X10 := (X1.old o6).old o10
    have Y10 := X2.old o10
    have A10 := (msg_ld X10 ok g5).all
    obtain ⟨sc, h11, p, e7, Xc, o11, sp, hp⟩ := r28 (by rw [O10.n0]; exact hG) X10 ok sm
    have O11 := O10.trans o11
    have z12 := newC_eq [(.int .u8 0), (.int .i64 0), (.int .i64 0), (.int .u64 0), (.int .i64 0), (.int .i64 0), (.slice none 0 0), (.slice none 0 0), (.slice none 0 0), (.int .i64 0), (.int .u8 0), (.int .u8 0), (.int .u8 0), (.int .u8 0), (.int .u8 0), (.int .u8 0), (.int .u8 0), (.int .u8 0), (.int .u8 0), (.int .u8 0), (.int .u8 0), (.int .u8 0), (.int .u8 0), (.int .u8 0), (.int .u8 0), (.int .u8 0), (.int .u8 0), (.int .u8 0), (.int .u8 0), (.int .u8 0), (.int .u8 0), (.int .u8 0), (.int .u8 0), (.int .u8 0), (.int .u8 0), (.int .u8 0), (.int .u8 0), (.int .u8 0), (.int .u8 0), (.int .u8 0), (.int .u8 0), (.int .u8 0), (.slice none 0 0), (.bool false), (.int .u8 0), (.int .u8 0), (.int .u8 0), (.int .u8 0), (.int .u8 0), (.int .u8 0), (.int .u8 0), (.int .u8 0), (.int .u8 0), (.int .u8 0), (.int .u8 0), (.int .u8 0), (.int .u8 0), (.int .u8 0), (.int .u8 0), (.int .u8 0), (.int .u8 0), (.int .u8 0), (.int .u8 0), (.int .u8 0), (.int .u8 0), (.int .u8 0), (.int .u8 0), (.int .u8 0), (.int .u8 0), (.int .u8 0), (.int .u8 0), (.int .u8 0), (.int .u8 0), (.int .u8 0), (.int .u8 0), (.int .u8 0), (.int .i64 0), (.int .i64 0), (.int .i64 0), (.int .i64 0), (.int .u8 0), (.int .u8 0), (.int .u8 0), (.int .u8 0), (.int .u8 0), (.int .u8 0), (.int .u8 0), (.int .u8 0), (.int .u8 0), (.int .u8 0), (.int .u8 0), (.int .u8 0), (.int .u8 0), (.int .u8 0), (.int .u8 0), (.int .u8 0), (.int .u8 0), (.int .u8 0), (.int .u8 0), (.int .u8 0), (.int .u8 0), (.int .u8 0), (.int .u8 0), (.int .u8 0), (.int .u8 0), (.int .u8 0), (.int .u8 0), (.int .u8 0), (.int .u8 0), (.int .u8 0), (.int .u8 0), (.int .u8 0), (.slice none 0 0), (.int .i64 0), (.slice none 0 0), (.int .i64 0)] h11
    have c3 := cells_ok Xc ok
    obtain ⟨h13, e8, o13, g7, n13⟩ := one_new h11 hz c3.2.2 c3.2.1
    generalize h11.alloc [(.int .u8 0), (.int .i64 0), (.int .i64 0), (.int .u64 0), (.int .i64 0), (.int .i64 0), (.slice none 0 0), (.slice none 0 0), (.slice none 0 0), (.int .i64 0), (.int .u8 0), (.int .u8 0), (.int .u8 0), (.int .u8 0), (.int .u8 0), (.int .u8 0), (.int .u8 0), (.int .u8 0), (.int .u8 0), (.int .u8 0), (.int .u8 0), (.int .u8 0), (.int .u8 0), (.int .u8 0), (.int .u8 0), (.int .u8 0), (.int .u8 0), (.int .u8 0), (.int .u8 0), (.int .u8 0), (.int .u8 0), (.int .u8 0), (.int .u8 0), (.int .u8 0), (.int .u8 0), (.int .u8 0), (.int .u8 0), (.int .u8 0), (.int .u8 0), (.int .u8 0), (.int .u8 0), (.int .u8 0), (.slice none 0 0), (.bool false), (.int .u8 0), (.int .u8 0), (.int .u8 0), (.int .u8 0), (.int .u8 0), (.int .u8 0), (.int .u8 0), (.int .u8 0), (.int .u8 0), (.int .u8 0), (.int .u8 0), (.int .u8 0), (.int .u8 0), (.int .u8 0), (.int .u8 0), (.int .u8 0), (.int .u8 0), (.int .u8 0), (.int .u8 0), (.int .u8 0), (.int .u8 0), (.int .u8 0), (.int .u8 0), (.int .u8 0), (.int .u8 0), (.int .u8 0), (.int .u8 0), (.int .u8 0), (.int .u8 0), (.int .u8 0), (.int .u8 0), (.int .u8 0), (.int .i64 0), (.int .i64 0), (.int .i64 0), (.int .i64 0), (.int .u8 0), (.int .u8 0), (.int .u8 0), (.int .u8 0), (.int .u8 0), (.int .u8 0), (.int .u8 0), (.int .u8 0), (.int .u8 0), (.int .u8 0), (.int .u8 0), (.int .u8 0), (.int .u8 0), (.int .u8 0), (.int .u8 0), (.int .u8 0), (.int .u8 0), (.int .u8 0), (.int .u8 0), (.int .u8 0), (.int .u8 0), (.int .u8 0), (.int .u8 0), (.int .u8 0), (.int .u8 0), (.int .u8 0), (.int .u8 0), (.int .u8 0), (.int .u8 0), (.int .u8 0), (.int .u8 0), (.int .u8 0), (.slice none 0 0), (.int .i64 0), (.slice none 0 0), (.int .i64 0)] = h12 at *
    have O13 := O11.trans o13
    have O213 := (O210.trans o11).trans o13
    have o1013 := o11.trans o13
    have X13 := X10.old o1013
    have Y13 := Y10.old o1013
    have C13 := Xc.old o13
    have g5 := Old.get o1013 g5
    have g6 := Old.get o1013 g6
    have G1 := Old.get O213 g1
    have G2 := Old.get O213 g2
    have B5 := (msg_ld X13 ok g5).all
    have B6 := (msg_ld Y13 ok' g6).all
    have P2 := (msg_ld x ok G1).all
    have P3 := (msg_ld x' ok' G2).all
    obtain ⟨r, h14, f1, q1, o14⟩ := r22 (by rw [O13.n0]; exact hG) X13 Y13 ok ok' sm
    have P2' := (msg_ld x ok (Old.get o14 G1)).all
    have P3' := (msg_ld x' ok' (Old.get o14 G2)).all
    have O14 := O13.trans o14
    obtain ⟨r', h15, f2, q2, o15⟩ := r15 (by rw [O14.n0]; exact hG) (x.old O14) (x'.old O14) ok ok' sm
    have o1315 := o14.trans o15
    have O15 := O14.trans o15
    obtain rfl : r = r' := by
      cases r <;> cases r' <;> first | rfl | (exact absurd (q1.2 (q2.1 rfl)) (by decide)) | (exact absurd (q2.2 (q1.1 rfl)) (by decide))
    have nb := neq_bool r r
    have X15 := X13.old o1315
    have B5' := (msg_ld X15 ok (Old.get o1315 g5)).all
    obtain ⟨ra, h16, f3, q3, o16⟩ := r22 (by rw [O15.n0]; exact hG) X15 X15 ok ok sm
    obtain rfl := q3.2 rfl
    have O16 := O15.trans o16
    have o1316 := o1315.trans o16
    have X16 := X13.old o1316
    have C16 := C13.old o1316
    have B7 := (msg_ld C16 ok (Old.get o1316 g7)).all
    have B5'' := (msg_ld X16 ok (Old.get o1316 g5)).all
    obtain ⟨rb, h17, f4, q4, o17⟩ := r22 (by rw [O16.n0]; exact hG) C16 X16 ok ok sm
    obtain rfl := q4.2 rfl
    have O17 := O16.trans o17
    have o1317 := o1316.trans o17
    have C17 := C13.old o1317
    have B7' := (msg_ld C17 ok (Old.get o1317 g7)).all
    have P2'' := (msg_ld x ok (Old.get o1317 G1)).all
    obtain ⟨rc, h18, f5, q5, o18⟩ := r15 (by rw [O17.n0]; exact hG) C17 (x.old O17) ok ok sm
    obtain rfl := q5.2 rfl
    have O18 := O17.trans o18
    have o1318 := o1317.trans o18
    have w1 := chk_at A4' (veqM x' ok')
    have w2 := chk_at P2 (veqM x ok)
    have w3 := chk_at P3 (veqM x' ok')
    have m4 := O4.next
    have m24 := O24.next
    have m5 := o5.next
    have m6 := o6.next
    have l9 : ∀ y, y 2 = ptr h.next 0 → y 5 = ptr h6.next 0 → y 7 = ptr h11.next 0 → y 8 = i64n 0 → ∃ h', endL (iter (codeA Tryz.prog CW (partOf Tryz.f9 [1, 1, 1, 1, 1, 0, 1, 0, 0])) rounds (mkF 148 y) h18) (resultsA Tryz.prog Tryz.f9.results.toList) (b9_13 CW) = some (.bool true, h') := fun y y2 y5 y7 y8 =>
      loops9 (by rw [O18.n0]; exact hG) ok sm (x.old O18) (X13.old o1318) (C13.old o1318) sp (Nat.le_refl _) (by omega) (by omega) (by rw [O18.n0]; have := h.n0_le_next; omega) (x.lt (by omega)) (X1.lt (by omega)) (Old.get o1318 G1) (Old.get o1318 g5) (Old.get o1318 g7) y2 y5 y7 y8
    unfold t9
    simp -implicitDefEqProofs only [b1, b2, A2, e1, A3, e2, A4, e3, A5', e4, z7, z8, e5, e6, A10, e7, z12, e8, B5, B6, f1, P2', P3', f2, nb, bne_self_eq_false, B5', f3, B7, B5'', f4, B7', P2'', f5, w1, w2, w3, thenV_some, pu_some, bOf_bool, beq_self_eq_true, guardK_true, Bool.false_eq_true, if_false, Bool.not_true, unA_not, Bool.and_true, Bool.and_self]
    exact l9 _ rfl rfl rfl rfl
  obtain ⟨h', e⟩ := key
  exact ⟨h', CW_body is9 hG rfl ((t9_eq _ _ _ _).trans e)⟩
end
end Go.Proofs.YtjghlcdidopcpaaGreatDoor

