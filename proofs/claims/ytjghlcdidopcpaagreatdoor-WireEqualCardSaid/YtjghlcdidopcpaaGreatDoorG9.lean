/-
  The wire: two manifests, and two messages, are compared.
  Conditions: as each theorem states.
-/
import Derived.Test.YtjghlcdidopcpaaGreatDoorG8
namespace Go.Proofs.YtjghlcdidopcpaaGreatDoor
open Go Go.Abs
attribute [local congr] thenV_congr

theorem sf : (some true == some false) = false := rfl
theorem fs : (some false == some true) = false := rfl
theorem eqI (t : TypeId) (k : IntKind) (a b : Int) : ∃ r : Bool, (r = true ↔ a = b) ∧ bin Tryz.prog .eql t (.int k a) (.int k b) = some (.bool r) ∧ bin Tryz.prog .neq t (.int k a) (.int k b) = some (.bool !r) :=
  ⟨a == b, beq_iff_eq, bin_eql .., bin_neq ..⟩
theorem eqB (a b : Bool) : ∃ r : Bool, (r = true ↔ a = b) ∧ bin Tryz.prog .eql 4 (.bool a) (.bool b) = some (.bool r) ∧ bin Tryz.prog .neq 4 (.bool a) (.bool b) = some (.bool !r) := by
  refine ⟨a == b, beq_iff_eq, ?_, ?_⟩
  · cases a <;> cases b <;> kernel_rfl
  · cases a <;> cases b <;> kernel_rfl
theorem SlN.first {h : Heap} {ks : List Kd} {v : Value} {n : Nat} {cs : List Value} (x : SlN h ks v n cs) (hz : 0 < ks.length) : firstA ks.length n v h = some cs := by
  have hl := x.cells
  have hall := x.typed.all
  obtain ⟨a, c, rfl, h1, h2, h3⟩ := x
  by_cases hn : n = 0
  · subst hn
    have : cs = [] := List.length_eq_zero_iff.1 (by omega)
    subst this
    cases a with
    | none => rfl
    | some y =>
      unfold firstA
      simp
  · obtain ⟨b, off, s, k, rfl, h4, h5, h6⟩ := h3 (by omega)
    have : n * ks.length ≠ 0 := Nat.mul_ne_zero hn (by omega)
    unfold firstA
    simp only [h4, h6, if_neg this, if_pos (And.intro h5 hall.1)]
def strOf (l : List Nat) : ByteArray := ⟨(l.map UInt8.ofNat).toArray⟩
def u8v (n : Nat) : Value := .int .u8 (n : Int)
theorem mapM_asByte : ∀ {l : List Nat}, (l.map u8v).mapM asByte = some (l.map UInt8.ofNat)
  | [] => rfl
  | n :: l => by
    have ih := mapM_asByte (l := l)
    rw [List.map_cons, List.mapM_cons, ih]
    rfl
theorem strOf_inj {a b : List Nat} (ha : ∀ x ∈ a, x < 256) (hb : ∀ x ∈ b, x < 256) : ((strOf a).toList == (strOf b).toList) = decide (a = b) := by
  have hl : ∀ l : List Nat, (strOf l).toList = l.map UInt8.ofNat := fun l => Go.ByteArray.toList_mk _
  have hinj : ∀ a b : List Nat, (∀ x ∈ a, x < 256) → (∀ x ∈ b, x < 256) → a.map UInt8.ofNat = b.map UInt8.ofNat → a = b := by
    intro a
    induction a with
    | nil => intro b _ _ h; simpa using h.symm
    | cons x a ih =>
      intro b ha hb h
      match b with
      | [] => simp at h
      | y :: b =>
        rw [List.map_cons, List.map_cons, List.cons.injEq] at h
        have hx := ha x List.mem_cons_self
        have hy := hb y List.mem_cons_self
        have e : x = y := by
          have := congrArg UInt8.toNat h.1
          rw [UInt8.toNat_ofNat', UInt8.toNat_ofNat'] at this
          omega
        rw [e, ih b (fun z hz => ha z (List.mem_cons_of_mem _ hz)) (fun z hz => hb z (List.mem_cons_of_mem _ hz)) h.2]
  rw [hl, hl]
  by_cases e : a = b
  · rw [decide_eq_true e, e]; exact beq_self_eq_true _
  · rw [decide_eq_false e, beq_eq_false_iff_ne]
    exact fun h => e (hinj a b ha hb h)
theorem bytes_of {n : Nat} {cs : List Value} (h : TypedN [.u8] n cs) : ∃ l : List Nat, cs = l.map u8v ∧ ∀ x ∈ l, x < 256 := by
  have key : ∀ v ∈ cs, ∃ m : Nat, v = u8v m ∧ m < 256 := fun v hv => by
    obtain ⟨j, hj⟩ := List.mem_iff_getElem?.1 hv
    have hj2 := (List.getElem?_eq_some_iff.1 hj).1
    rw [h.1] at hj2
    have hl1 : ([Kd.u8] : List Kd).length = 1 := rfl
    rw [hl1, Nat.mul_one] at hj2
    obtain ⟨w, hw, m, rfl, hm⟩ := (h.2 j hj2).2 0 .u8 rfl
    rw [hl1, Nat.mul_one, List.getElem?_take, if_pos (by omega), List.getElem?_drop, Nat.add_zero, hj] at hw
    exact ⟨m, Option.some.inj hw, hm⟩
  clear h
  induction cs with
  | nil => exact ⟨[], rfl, fun x hx => by cases hx⟩
  | cons v cs ih =>
    obtain ⟨m, rfl, hm⟩ := key v List.mem_cons_self
    obtain ⟨l, rfl, hl⟩ := ih (fun w hw => key w (List.mem_cons_of_mem _ hw))
    exact ⟨m :: l, rfl, fun x hx => by
      rcases List.mem_cons.1 hx with rfl | hx
      · exact hm
      · exact hl x hx⟩
theorem cv_str {h : Heap} {v : Value} {n : Nat} {l : List Nat} (x : SlN h [.u8] v n (l.map u8v)) : cvBS v h = some (.string (strOf l), h) := by
  have hf := x.first (by decide)
  obtain ⟨a, c, rfl, _⟩ := x
  have hf : firstA 1 n (.slice a n c) h = some (l.map u8v) := hf
  unfold cvBS bsR
  simp only [hf, mapM_asByte]
  rfl
theorem str_eq {h : Heap} {v w : Value} {n m : Nat} {cs ds : List Value} (x : SlN h [.u8] v n cs) (y : SlN h [.u8] w m ds) : ∃ (r : Bool) (a b : Value), (r = true ↔ cs = ds) ∧ (∀ h', Old h h' → cvBS v h' = some (a, h') ∧ cvBS w h' = some (b, h')) ∧ bin Tryz.prog .eql 9 a b = some (.bool r) ∧ bin Tryz.prog .neq 9 a b = some (.bool !r) := by
  obtain ⟨l, rfl, hl⟩ := bytes_of x.typed
  obtain ⟨l', rfl, hl'⟩ := bytes_of y.typed
  refine ⟨decide (l = l'), .string (strOf l), .string (strOf l'), ?_, fun h' o => ⟨cv_str (x.old o), cv_str (y.old o)⟩, ?_, ?_⟩
  · rw [decide_eq_true_eq]
    refine ⟨fun e => by rw [e], fun e => ?_⟩
    have hi : ∀ a b : Nat, u8v a = u8v b → a = b := fun a b e => by
      unfold u8v at e
      simp at e
      omega
    exact (List.map_inj_right (fun a b e => hi a b e)).1 e
  · rw [← strOf_inj hl hl']; rfl
  · rw [← strOf_inj hl hl']; rfl
/-- Two manifests have the same fields. -/
def ManEq (M M' : MsgD) : Prop := M.gk = M'.gk ∧ M.gn = M'.gn ∧ M.gt = M'.gt ∧ M.gs = M'.gs ∧ M.mobj = M'.mobj ∧ M.pieces = M'.pieces
theorem is56 : IsFn Tryz.prog 56 Tryz.f56 := ⟨by kernel_rfl, by kernel_rfl, by kernel_rfl, by kernel_rfl⟩
theorem is45 : IsFn Tryz.prog 45 Tryz.f45 := ⟨by kernel_rfl, by kernel_rfl, by kernel_rfl, by kernel_rfl⟩
theorem is22 : IsFn Tryz.prog 22 Tryz.f22 := ⟨by kernel_rfl, by kernel_rfl, by kernel_rfl, by kernel_rfl⟩
theorem is15 : IsFn Tryz.prog 15 Tryz.f15 := ⟨by kernel_rfl, by kernel_rfl, by kernel_rfl, by kernel_rfl⟩
theorem results45 : Tryz.f45.results.toList = [.tmp 4] := by kernel_rfl
theorem b45_exit (C : CallF) (e : Env) (h : Heap) : b45_6 C 0 e h = k45_4 C e h := rfl

def manInv (h0 : Heap) (p q n : Nat) (cs ds : List Value) (k : Nat) (y : Nat → Value) (g : Heap) : Prop :=
  ∃ i, i + k = n ∧ y 2 = ptr p 0 ∧ y 3 = ptr q 0 ∧ y 5 = i64n i ∧ g = h0 ∧ ∀ j, j < i → el 32 cs j = el 32 ds j
theorem round45 {h0 : Heap} {p q : Nat} {s s' : Sl6} {M M' : MsgD} {n : Nat} (A : ManLd h0 p s M) (B : ManLd h0 q s' M') (x : SlN h0 digK s.e n M.pieces) (y' : SlN h0 digK s'.e n M'.pieces) (hn : n ≤ 1000000) :
    ∀ k y g, manInv h0 p q n M.pieces M'.pieces k y g → Rnd 66 (manInv h0 p q n M.pieces M'.pieces) (eqFin h0 32 n M.pieces M'.pieces) k (t45l45_11010 CW y g) := by
  rintro k y g ⟨i, hik, y2, y3, y5, rfl, he⟩
  have hl := x.len
  unfold t45l45_11010
  by_cases hi : i < n
  · obtain ⟨b, o, qq, _, a1, _, _, _, a2, a3⟩ := x.at hi
    obtain ⟨b', o', q', _, b1, _, _, _, b2, b3⟩ := y'.at hi
    have a1 : idxS 32 s.e (i64n i) = some (ptr b (o + i * 32)) := a1
    have b1 : idxS 32 s'.e (i64n i) = some (ptr b' (o' + i * 32)) := b1
    have a2 : ldN 32 (ptr b (o + i * 32)) g = some (.agg (el 32 M.pieces i).toArray, g) := a2
    have b2 : ldN 32 (ptr b' (o' + i * 32)) g = some (.agg (el 32 M'.pieces i).toArray, g) := b2
    obtain ⟨r, r1, _, r2⟩ := eq28 _ _ a3 b3
    have r2 : bin Tryz.prog .neq 28 (.agg (el 32 M.pieces i).toArray) (.agg (el 32 M'.pieces i).toArray) = some (.bool !r) := r2
    have r1 : r = true ↔ el 32 M.pieces i = el 32 M'.pieces i := r1
    simp -implicitDefEqProofs only [y2, y3, y5, addP_ptr, Nat.zero_add, A.l36, B.l36, hl, lss3, thenV_some, pu_some, decide_eq_true hi, a1, a2, b1, b2, r2]
    cases r with
    | true =>
      simp -implicitDefEqProofs only [Bool.not_true, thenV_some, pu_some, add31 (show i + 1 ≤ 9223372036854775807 by omega)]
      exact Rnd.next (k - 1) (by omega) ⟨i + 1, by omega, y2, y3, rfl, rfl, snoc_el he (r1.1 rfl)⟩
    | false =>
      simp -implicitDefEqProofs only [Bool.not_false]
      exact Rnd.ret ⟨rfl, .inl ⟨rfl, rfl, fun h => by
        rw [h] at r1
        exact absurd (r1.2 rfl) (by decide)⟩⟩
  · simp -implicitDefEqProofs only [y2, y5, addP_ptr, Nat.zero_add, A.l36, hl, lss3, thenV_some, pu_some, decide_eq_false hi]
    exact Rnd.out 0 ⟨rfl, .inr ⟨rfl, fun j hj => he j (by omega)⟩⟩
section
variable {h : Heap} {s s' : Sl6} {n n' : N6} {M M' : MsgD} (hG : 4 ≤ h.n0) (x : SlV h s n M) (x' : SlV h s' n' M') (ok : M.Ok) (ok' : M'.Ok) (sm : n.Small)
include hG x x' ok ok' sm
theorem r56 : ∃ (r : Bool) (h' : Heap), CW 56 [.agg (M.man s).toArray, .agg (M'.man s').toArray] h = some (.bool r, h') ∧ (r = true ↔ ManEq M M') ∧ Old h h' := by
  have b1 := box_at h (M.man s) (man_ok x ok).2.1
  have o1 : Old h (h.alloc (M.man s)) := Kept.alloc _ _ _
  have g1 : (h.alloc (M.man s)).get h.next = some (M.man s) := by rw [Heap.get_alloc, if_pos rfl]
  have n1 : (h.alloc (M.man s)).n0 = h.n0 := o1.n0
  generalize h.alloc (M.man s) = h1 at *
  have b2 := box_at h1 (M'.man s') (man_ok x' ok').2.1
  have o2 : Old h1 (h1.alloc (M'.man s')) := Kept.alloc _ _ _
  have g2 : (h1.alloc (M'.man s')).get h1.next = some (M'.man s') := by rw [Heap.get_alloc, if_pos rfl]
  have g12 := Old.get o2 g1
  have n2 : (h1.alloc (M'.man s')).n0 = h.n0 := o2.n0.trans n1
  generalize h1.alloc (M'.man s') = h2 at *
  have o12 : Old h h2 := o1.trans o2
  have A := man_ld x ok g12
  have B := man_ld x' ok' g2
  have y := x.old o12
  have y' := x'.old o12
  have hG2 : 4 ≤ h2.n0 := by omega
  obtain ⟨r0, p0, q0, _⟩ := eqI 3 .i64 M.gk M'.gk
  obtain ⟨r1, p1, q1, _⟩ := eqI 3 .i64 M.gn M'.gn
  obtain ⟨r2, p2, q2, _⟩ := eqI 3 .i64 M.gt M'.gt
  obtain ⟨r3, p3, q3, _⟩ := eqI 3 .i64 M.gs M'.gs
  obtain ⟨r4, p4, q4, _⟩ := eq28 _ _ ok.mobj ok'.mobj
  obtain ⟨r5, q5, p5⟩ := r86 hG2 y.e y'.e sm.e
  have key : ∀ o, t56 CW (.agg (M.man s).toArray) (.agg (M'.man s').toArray) h = o → ∃ (r : Bool) (h' : Heap), o = some (.bool r, h') ∧ (r = true ↔ ManEq M M') ∧ Old h h' := by
    intro o ho
    unfold t56 at ho
    simp (maxSteps := 3000000) -implicitDefEqProofs only [thenV_some, pu_some, bOf_bool, addP_ptr, Nat.zero_add, b1, b2, A.l0, B.l0, q0] at ho
    cases r0
    · try simp (maxSteps := 3000000) -implicitDefEqProofs only [thenV_some, bOf_bool, fs, guardK_false, Bool.false_eq_true, if_false] at ho
      exact ⟨false, h2, ho.symm, ⟨fun h => (by cases h), fun h => (by have := p0.2 h.1; cases this)⟩, o12⟩
    try simp (maxSteps := 3000000) -implicitDefEqProofs only [thenV_some, pu_some, bOf_bool, beq_self_eq_true, guardK_true, if_true, A.l1, B.l1, q1] at ho
    cases r1
    · try simp (maxSteps := 3000000) -implicitDefEqProofs only [thenV_some, bOf_bool, fs, guardK_false, Bool.false_eq_true, if_false] at ho
      exact ⟨false, h2, ho.symm, ⟨fun h => (by cases h), fun h => (by have := p1.2 h.2.1; cases this)⟩, o12⟩
    try simp (maxSteps := 3000000) -implicitDefEqProofs only [thenV_some, pu_some, bOf_bool, beq_self_eq_true, guardK_true, if_true, A.l2, B.l2, q2] at ho
    cases r2
    · try simp (maxSteps := 3000000) -implicitDefEqProofs only [thenV_some, bOf_bool, fs, guardK_false, Bool.false_eq_true, if_false] at ho
      exact ⟨false, h2, ho.symm, ⟨fun h => (by cases h), fun h => (by have := p2.2 h.2.2.1; cases this)⟩, o12⟩
    try simp (maxSteps := 3000000) -implicitDefEqProofs only [thenV_some, pu_some, bOf_bool, beq_self_eq_true, guardK_true, if_true, A.l3, B.l3, q3] at ho
    cases r3
    · try simp (maxSteps := 3000000) -implicitDefEqProofs only [thenV_some, bOf_bool, fs, guardK_false, Bool.false_eq_true, if_false] at ho
      exact ⟨false, h2, ho.symm, ⟨fun h => (by cases h), fun h => (by have := p3.2 h.2.2.2.1; cases this)⟩, o12⟩
    try simp (maxSteps := 3000000) -implicitDefEqProofs only [thenV_some, pu_some, bOf_bool, beq_self_eq_true, guardK_true, if_true, A.l4, B.l4, q4] at ho
    cases r4
    · try simp (maxSteps := 3000000) -implicitDefEqProofs only [thenV_some, fs, guardK_false, Bool.false_eq_true, if_false] at ho
      exact ⟨false, h2, ho.symm, ⟨fun h => (by cases h), fun h => (by have := p4.2 h.2.2.2.2.1; cases this)⟩, o12⟩
    try simp (maxSteps := 3000000) -implicitDefEqProofs only [thenV_some, beq_self_eq_true, guardK_true, if_true, A.l36, B.l36, q5] at ho
    cases r5
    · try simp (maxSteps := 3000000) -implicitDefEqProofs only [thenV_some, pu_some, bOf_bool, fs, sf, beq_self_eq_true, guardK_true, guardK_false, Bool.false_eq_true, if_false, if_true, addP_ptr, Nat.zero_add, Bool.not_true, Bool.not_false, unA_not, b1, b2, A.l0, A.l1, A.l2, A.l3, A.l4, A.l36, B.l0, B.l1, B.l2, B.l3, B.l4, B.l36, q0, q1, q2, q3, q4, q5] at ho
      exact ⟨false, h2, ho.symm, ⟨fun h => (by cases h), fun h => (by have := p5.2 h.2.2.2.2.2; cases this)⟩, o12⟩
    try simp (maxSteps := 3000000) -implicitDefEqProofs only [thenV_some, pu_some, bOf_bool, fs, sf, beq_self_eq_true, guardK_true, guardK_false, Bool.false_eq_true, if_false, if_true, addP_ptr, Nat.zero_add, Bool.not_true, Bool.not_false, unA_not, b1, b2, A.l0, A.l1, A.l2, A.l3, A.l4, A.l36, B.l0, B.l1, B.l2, B.l3, B.l4, B.l36, q0, q1, q2, q3, q4, q5] at ho
    exact ⟨true, h2, ho.symm, ⟨fun _ => ⟨p0.1 rfl, p1.1 rfl, p2.1 rfl, p3.1 rfl, p4.1 rfl, p5.1 rfl⟩, fun _ => rfl⟩, o12⟩
  obtain ⟨r, h', k1, k2, k3⟩ := key _ rfl
  exact ⟨r, h', CW_body is56 hG rfl ((t56_eq _ _ _ _).trans k1), k2, k3⟩
theorem r45 : ∃ (r : Bool) (h' : Heap), CW 45 [.agg (M.man s).toArray, .agg (M'.man s').toArray] h = some (.bool r, h') ∧ (r = true ↔ ManEq M M') ∧ Old h h' := by
  have b1 := box_at h (M.man s) (man_ok x ok).2.1
  have o1 : Old h (h.alloc (M.man s)) := Kept.alloc _ _ _
  have g1 : (h.alloc (M.man s)).get h.next = some (M.man s) := by rw [Heap.get_alloc, if_pos rfl]
  have n1 : (h.alloc (M.man s)).n0 = h.n0 := o1.n0
  generalize h.alloc (M.man s) = h1 at *
  have b2 := box_at h1 (M'.man s') (man_ok x' ok').2.1
  have o2 : Old h1 (h1.alloc (M'.man s')) := Kept.alloc _ _ _
  have g2 : (h1.alloc (M'.man s')).get h1.next = some (M'.man s') := by rw [Heap.get_alloc, if_pos rfl]
  have g12 := Old.get o2 g1
  have n2 : (h1.alloc (M'.man s')).n0 = h.n0 := o2.n0.trans n1
  generalize h1.alloc (M'.man s') = h2 at *
  have o12 : Old h h2 := o1.trans o2
  have A := man_ld x ok g12
  have B := man_ld x' ok' g2
  have y := x.old o12
  have y' := x'.old o12
  have hG2 : 4 ≤ h2.n0 := by omega
  obtain ⟨r0, p0, _, q0⟩ := eqI 3 .i64 M.gk M'.gk
  obtain ⟨r1, p1, _, q1⟩ := eqI 3 .i64 M.gn M'.gn
  obtain ⟨r2, p2, _, q2⟩ := eqI 3 .i64 M.gt M'.gt
  obtain ⟨r3, p3, _, q3⟩ := eqI 3 .i64 M.gs M'.gs
  obtain ⟨r4, p4, _, q4⟩ := eq28 _ _ ok.mobj ok'.mobj
  have lx := y.e.cells
  have ly := y'.e.cells
  have l1 := y.e.len
  have l2 := y'.e.len
  have h32 : digK.length = 32 := rfl
  rw [h32] at lx ly
  obtain ⟨r5, p5⟩ : ∃ r5 : Bool, r5 = decide (n.e = n'.e) := ⟨_, rfl⟩
  have q5 := neq3 n.e n'.e
  rw [← p5] at q5
  have key : ∀ o, t45 CW (.agg (M.man s).toArray) (.agg (M'.man s').toArray) h = o → ∃ (r : Bool) (h' : Heap), o = some (.bool r, h') ∧ (r = true ↔ ManEq M M') ∧ Old h h' := by
    intro o ho
    unfold t45 at ho
    simp (maxSteps := 3000000) -implicitDefEqProofs only [thenV_some, pu_some, bOf_bool, addP_ptr, Nat.zero_add, b1, b2, A.l0, B.l0, q0] at ho
    cases r0
    · try simp (maxSteps := 3000000) -implicitDefEqProofs only [thenV_some, bOf_bool, sf, guardK_false, if_true, Bool.not_false] at ho
      exact ⟨false, h2, ho.symm, ⟨fun h => (by cases h), fun h => (by have := p0.2 h.1; cases this)⟩, o12⟩
    try simp (maxSteps := 3000000) -implicitDefEqProofs only [thenV_some, pu_some, bOf_bool, beq_self_eq_true, guardK_true, Bool.false_eq_true, if_false, Bool.not_true, A.l1, B.l1, q1] at ho
    cases r1
    · try simp (maxSteps := 3000000) -implicitDefEqProofs only [thenV_some, bOf_bool, sf, guardK_false, if_true, Bool.not_false] at ho
      exact ⟨false, h2, ho.symm, ⟨fun h => (by cases h), fun h => (by have := p1.2 h.2.1; cases this)⟩, o12⟩
    try simp (maxSteps := 3000000) -implicitDefEqProofs only [thenV_some, pu_some, bOf_bool, beq_self_eq_true, guardK_true, Bool.false_eq_true, if_false, Bool.not_true, A.l2, B.l2, q2] at ho
    cases r2
    · try simp (maxSteps := 3000000) -implicitDefEqProofs only [thenV_some, bOf_bool, sf, guardK_false, if_true, Bool.not_false] at ho
      exact ⟨false, h2, ho.symm, ⟨fun h => (by cases h), fun h => (by have := p2.2 h.2.2.1; cases this)⟩, o12⟩
    try simp (maxSteps := 3000000) -implicitDefEqProofs only [thenV_some, pu_some, bOf_bool, beq_self_eq_true, guardK_true, Bool.false_eq_true, if_false, Bool.not_true, A.l3, B.l3, q3] at ho
    cases r3
    · try simp (maxSteps := 3000000) -implicitDefEqProofs only [thenV_some, bOf_bool, sf, guardK_false, if_true, Bool.not_false] at ho
      exact ⟨false, h2, ho.symm, ⟨fun h => (by cases h), fun h => (by have := p3.2 h.2.2.2.1; cases this)⟩, o12⟩
    try simp (maxSteps := 3000000) -implicitDefEqProofs only [thenV_some, pu_some, bOf_bool, beq_self_eq_true, guardK_true, Bool.false_eq_true, if_false, Bool.not_true, A.l4, B.l4, q4] at ho
    cases r4
    · try simp (maxSteps := 3000000) -implicitDefEqProofs only [thenV_some, sf, guardK_false, if_true, Bool.not_false] at ho
      exact ⟨false, h2, ho.symm, ⟨fun h => (by cases h), fun h => (by have := p4.2 h.2.2.2.2.1; cases this)⟩, o12⟩
    try simp (maxSteps := 3000000) -implicitDefEqProofs only [thenV_some, pu_some, beq_self_eq_true, guardK_true, Bool.false_eq_true, if_false, Bool.not_true, A.l36, B.l36, l1, l2, q5] at ho
    cases r5
    · simp (maxSteps := 3000000) -implicitDefEqProofs only [Bool.not_false] at ho
      exact ⟨false, h2, ho.symm, ⟨fun h => (by cases h), fun h => by
        have := h.2.2.2.2.2
        rw [this, ly] at lx
        have := Nat.eq_of_mul_eq_mul_right (by decide) lx
        rw [decide_eq_true this.symm] at p5
        cases p5⟩, o12⟩
    simp (maxSteps := 3000000) -implicitDefEqProofs only [Bool.not_true] at ho
    have hne : n.e = n'.e := of_decide_eq_true p5.symm
    rw [← ho]
    refine endL_fin (Q := fun o : Out => ∃ (r : Bool) (h' : Heap), o = some (Value.bool r, h') ∧ (r = true ↔ ManEq M M') ∧ Old h h') (loop_fin (t45l45_11010_eq CW) (round45 A B y.e (hne ▸ y'.e) sm.e) n.e (by have : rounds = 18446744073709551616 := rfl; have := sm.e; omega)
      ⟨0, Nat.zero_add _, rfl, rfl, rfl, rfl, fun j hj => absurd hj (Nat.not_lt_zero j)⟩) ?_
    rintro ex z g ⟨rfl, ⟨rfl, z4, hd⟩ | ⟨rfl, he⟩⟩
    · rw [endL_ret, res_one (t := 4) results45 (by decide), z4]
      exact ⟨false, g, rfl, ⟨fun h => (by cases h), fun h => absurd h.2.2.2.2.2 hd⟩, o12⟩
    · simp -implicitDefEqProofs only [endL_exit, b45_exit, t45k45_4_eq]
      unfold t45k45_4
      simp -implicitDefEqProofs only [thenV_some]
      exact ⟨true, g, rfl, ⟨fun _ => ⟨p0.1 rfl, p1.1 rfl, p2.1 rfl, p3.1 rfl, p4.1 rfl, els_eq (by decide) lx (hne ▸ ly) he⟩, fun _ => rfl⟩, o12⟩
  obtain ⟨r, h', k1, k2, k3⟩ := key _ rfl
  exact ⟨r, h', CW_body is45 hG rfl ((t45_eq _ _ _ _).trans k1), k2, k3⟩
set_option maxRecDepth 100000 in
set_option maxHeartbeats 4000000 in
theorem r22 : ∃ (r : Bool) (h' : Heap), CW 22 [.agg (M.cells s).toArray, .agg (M'.cells s').toArray] h = some (.bool r, h') ∧ (r = true ↔ M = M') ∧ Old h h' := by
  have b1 := box_at h (M.cells s) (cells_ok x ok).2.1
  have o1 : Old h (h.alloc (M.cells s)) := Kept.alloc _ _ _
  have g1 : (h.alloc (M.cells s)).get h.next = some (M.cells s) := by rw [Heap.get_alloc, if_pos rfl]
  have n1 : (h.alloc (M.cells s)).n0 = h.n0 := o1.n0
  generalize h.alloc (M.cells s) = h1 at *
  have b2 := box_at h1 (M'.cells s') (cells_ok x' ok').2.1
  have o2 : Old h1 (h1.alloc (M'.cells s')) := Kept.alloc _ _ _
  have g2 : (h1.alloc (M'.cells s')).get h1.next = some (M'.cells s') := by rw [Heap.get_alloc, if_pos rfl]
  have g12 := Old.get o2 g1
  have n2 : (h1.alloc (M'.cells s')).n0 = h.n0 := o2.n0.trans n1
  generalize h1.alloc (M'.cells s') = h2 at *
  have o12 : Old h h2 := o1.trans o2
  have A := msg_ld x ok g12
  have B := msg_ld x' ok' g2
  have y := x.old o12
  have y' := x'.old o12
  have hG2 : 4 ≤ h2.n0 := by omega
  obtain ⟨r0, p0, q0, _⟩ := eqI 24 .u8 M.kind M'.kind
  obtain ⟨r1, p1, q1, _⟩ := eqI 3 .i64 M.from_ M'.from_
  obtain ⟨r2, p2, q2, _⟩ := eqI 3 .i64 M.to_ M'.to_
  obtain ⟨r3, p3, q3, _⟩ := eqI 25 .u64 M.seq M'.seq
  obtain ⟨r4, p4, q4, _⟩ := eqI 3 .i64 M.origin M'.origin
  obtain ⟨r5, p5, q5, _⟩ := eqI 3 .i64 M.target M'.target
  obtain ⟨r6, q6, p6⟩ := r53 hG2 y.a y'.a sm.a
  obtain ⟨r7, q7, p7⟩ := r54 hG2 y.b y'.b sm.b
  obtain ⟨r8, q8, p8⟩ := r54 hG2 y.c y'.c sm.c
  obtain ⟨r9, p9, q9, _⟩ := eqI 3 .i64 M.count M'.count
  obtain ⟨r10, p10, q10, _⟩ := eq28 _ _ ok.root ok'.root
  obtain ⟨r11, q11, p11⟩ := r55 hG2 y.d y'.d sm.d
  obtain ⟨r12, p12, q12, _⟩ := eqB M.want M'.want
  obtain ⟨r13, p13, q13, _⟩ := eq28 _ _ ok.obj ok'.obj
  obtain ⟨r14, h3, q14, p14, o3⟩ := r56 hG2 y y' ok ok' sm
  have o13 : Old h h3 := o12.trans o3
  have A3 := msg_ld x ok (Old.get o3 g12)
  have B3 := msg_ld x' ok' (Old.get o3 g2)
  have hG3 : 4 ≤ h3.n0 := by have := o3.n0; omega
  obtain ⟨r15, p15, q15, _⟩ := eqI 3 .i64 M.pidx M'.pidx
  obtain ⟨r16, q16, p16⟩ := r54 hG3 (y.f.old o3) (y'.f.old o3) sm.f
  obtain ⟨r17, p17, q17, _⟩ := eqI 35 .i64 M.code M'.code
  have key : ∀ o, t22 CW (.agg (M.cells s).toArray) (.agg (M'.cells s').toArray) h = o → ∃ (r : Bool) (h' : Heap), o = some (.bool r, h') ∧ (r = true ↔ M = M') ∧ Old h h' := by
    intro o ho
    unfold t22 at ho
    simp (maxSteps := 3000000) -implicitDefEqProofs only [thenV_some, pu_some, bOf_bool, addP_ptr, Nat.zero_add, b1, b2, A.l0, B.l0, Nat.add_zero, q0] at ho
    cases r0
    · try simp (maxSteps := 3000000) -implicitDefEqProofs only [thenV_some, bOf_bool, fs, guardK_false, Bool.false_eq_true, if_false] at ho
      exact ⟨false, h2, ho.symm, ⟨fun h => (by cases h), fun h => (by have := p0.2 (congrArg MsgD.kind h); cases this)⟩, o12⟩
    try simp (maxSteps := 3000000) -implicitDefEqProofs only [thenV_some, pu_some, bOf_bool, beq_self_eq_true, guardK_true, if_true, A.l1, B.l1, q1] at ho
    cases r1
    · try simp (maxSteps := 3000000) -implicitDefEqProofs only [thenV_some, bOf_bool, fs, guardK_false, Bool.false_eq_true, if_false] at ho
      exact ⟨false, h2, ho.symm, ⟨fun h => (by cases h), fun h => (by have := p1.2 (congrArg MsgD.from_ h); cases this)⟩, o12⟩
    try simp (maxSteps := 3000000) -implicitDefEqProofs only [thenV_some, pu_some, bOf_bool, beq_self_eq_true, guardK_true, if_true, A.l2, B.l2, q2] at ho
    cases r2
    · try simp (maxSteps := 3000000) -implicitDefEqProofs only [thenV_some, bOf_bool, fs, guardK_false, Bool.false_eq_true, if_false] at ho
      exact ⟨false, h2, ho.symm, ⟨fun h => (by cases h), fun h => (by have := p2.2 (congrArg MsgD.to_ h); cases this)⟩, o12⟩
    try simp (maxSteps := 3000000) -implicitDefEqProofs only [thenV_some, pu_some, bOf_bool, beq_self_eq_true, guardK_true, if_true, A.l3, B.l3, q3] at ho
    cases r3
    · try simp (maxSteps := 3000000) -implicitDefEqProofs only [thenV_some, bOf_bool, fs, guardK_false, Bool.false_eq_true, if_false] at ho
      exact ⟨false, h2, ho.symm, ⟨fun h => (by cases h), fun h => (by have := p3.2 (congrArg MsgD.seq h); cases this)⟩, o12⟩
    try simp (maxSteps := 3000000) -implicitDefEqProofs only [thenV_some, pu_some, bOf_bool, beq_self_eq_true, guardK_true, if_true, A.l4, B.l4, q4] at ho
    cases r4
    · try simp (maxSteps := 3000000) -implicitDefEqProofs only [thenV_some, bOf_bool, fs, guardK_false, Bool.false_eq_true, if_false] at ho
      exact ⟨false, h2, ho.symm, ⟨fun h => (by cases h), fun h => (by have := p4.2 (congrArg MsgD.origin h); cases this)⟩, o12⟩
    try simp (maxSteps := 3000000) -implicitDefEqProofs only [thenV_some, pu_some, bOf_bool, beq_self_eq_true, guardK_true, if_true, A.l5, B.l5, q5] at ho
    cases r5
    · try simp (maxSteps := 3000000) -implicitDefEqProofs only [thenV_some, bOf_bool, fs, guardK_false, Bool.false_eq_true, if_false] at ho
      exact ⟨false, h2, ho.symm, ⟨fun h => (by cases h), fun h => (by have := p5.2 (congrArg MsgD.target h); cases this)⟩, o12⟩
    try simp (maxSteps := 3000000) -implicitDefEqProofs only [thenV_some, bOf_bool, beq_self_eq_true, guardK_true, if_true, A.l6, B.l6, q6] at ho
    cases r6
    · try simp (maxSteps := 3000000) -implicitDefEqProofs only [thenV_some, bOf_bool, fs, guardK_false, Bool.false_eq_true, if_false] at ho
      exact ⟨false, h2, ho.symm, ⟨fun h => (by cases h), fun h => (by have := p6.2 (congrArg MsgD.table h); cases this)⟩, o12⟩
    try simp (maxSteps := 3000000) -implicitDefEqProofs only [thenV_some, bOf_bool, beq_self_eq_true, guardK_true, if_true, A.l7, B.l7, q7] at ho
    cases r7
    · try simp (maxSteps := 3000000) -implicitDefEqProofs only [thenV_some, bOf_bool, fs, guardK_false, Bool.false_eq_true, if_false] at ho
      exact ⟨false, h2, ho.symm, ⟨fun h => (by cases h), fun h => (by have := p7.2 (congrArg MsgD.low h); cases this)⟩, o12⟩
    try simp (maxSteps := 3000000) -implicitDefEqProofs only [thenV_some, bOf_bool, beq_self_eq_true, guardK_true, if_true, A.l8, B.l8, q8] at ho
    cases r8
    · try simp (maxSteps := 3000000) -implicitDefEqProofs only [thenV_some, bOf_bool, fs, guardK_false, Bool.false_eq_true, if_false] at ho
      exact ⟨false, h2, ho.symm, ⟨fun h => (by cases h), fun h => (by have := p8.2 (congrArg MsgD.high h); cases this)⟩, o12⟩
    try simp (maxSteps := 3000000) -implicitDefEqProofs only [thenV_some, pu_some, bOf_bool, beq_self_eq_true, guardK_true, if_true, A.l9, B.l9, q9] at ho
    cases r9
    · try simp (maxSteps := 3000000) -implicitDefEqProofs only [thenV_some, bOf_bool, fs, guardK_false, Bool.false_eq_true, if_false] at ho
      exact ⟨false, h2, ho.symm, ⟨fun h => (by cases h), fun h => (by have := p9.2 (congrArg MsgD.count h); cases this)⟩, o12⟩
    try simp (maxSteps := 3000000) -implicitDefEqProofs only [thenV_some, pu_some, bOf_bool, beq_self_eq_true, guardK_true, if_true, A.l10, B.l10, q10] at ho
    cases r10
    · try simp (maxSteps := 3000000) -implicitDefEqProofs only [thenV_some, bOf_bool, fs, guardK_false, Bool.false_eq_true, if_false] at ho
      exact ⟨false, h2, ho.symm, ⟨fun h => (by cases h), fun h => (by have := p10.2 (congrArg MsgD.root h); cases this)⟩, o12⟩
    try simp (maxSteps := 3000000) -implicitDefEqProofs only [thenV_some, bOf_bool, beq_self_eq_true, guardK_true, if_true, A.l42, B.l42, q11] at ho
    cases r11
    · try simp (maxSteps := 3000000) -implicitDefEqProofs only [thenV_some, bOf_bool, fs, guardK_false, Bool.false_eq_true, if_false] at ho
      exact ⟨false, h2, ho.symm, ⟨fun h => (by cases h), fun h => (by have := p11.2 (congrArg MsgD.recs h); cases this)⟩, o12⟩
    try simp (maxSteps := 3000000) -implicitDefEqProofs only [thenV_some, pu_some, bOf_bool, beq_self_eq_true, guardK_true, if_true, A.l43, B.l43, q12] at ho
    cases r12
    · try simp (maxSteps := 3000000) -implicitDefEqProofs only [thenV_some, bOf_bool, fs, guardK_false, Bool.false_eq_true, if_false] at ho
      exact ⟨false, h2, ho.symm, ⟨fun h => (by cases h), fun h => (by have := p12.2 (congrArg MsgD.want h); cases this)⟩, o12⟩
    try simp (maxSteps := 3000000) -implicitDefEqProofs only [thenV_some, pu_some, bOf_bool, beq_self_eq_true, guardK_true, if_true, A.l44, B.l44, q13] at ho
    cases r13
    · try simp (maxSteps := 3000000) -implicitDefEqProofs only [thenV_some, bOf_bool, fs, guardK_false, Bool.false_eq_true, if_false] at ho
      exact ⟨false, h2, ho.symm, ⟨fun h => (by cases h), fun h => (by have := p13.2 (congrArg MsgD.obj h); cases this)⟩, o12⟩
    try simp (maxSteps := 3000000) -implicitDefEqProofs only [thenV_some, bOf_bool, beq_self_eq_true, guardK_true, if_true, A.l76, B.l76, q14] at ho
    cases r14
    · try simp (maxSteps := 3000000) -implicitDefEqProofs only [thenV_some, bOf_bool, fs, guardK_false, Bool.false_eq_true, if_false] at ho
      exact ⟨false, h3, ho.symm, ⟨fun h => (by cases h), fun h => (by have := p14.2 (by rw [h]; exact ⟨rfl, rfl, rfl, rfl, rfl, rfl⟩); cases this)⟩, o13⟩
    try simp (maxSteps := 3000000) -implicitDefEqProofs only [thenV_some, pu_some, bOf_bool, beq_self_eq_true, guardK_true, if_true, addP_ptr, A3.l113, B3.l113, Nat.add_zero, q15] at ho
    cases r15
    · try simp (maxSteps := 3000000) -implicitDefEqProofs only [thenV_some, bOf_bool, fs, guardK_false, Bool.false_eq_true, if_false] at ho
      exact ⟨false, h3, ho.symm, ⟨fun h => (by cases h), fun h => (by have := p15.2 (congrArg MsgD.pidx h); cases this)⟩, o13⟩
    try simp (maxSteps := 3000000) -implicitDefEqProofs only [thenV_some, pu_some, bOf_bool, beq_self_eq_true, guardK_true, if_true, addP_ptr, A3.l114, B3.l114, q16] at ho
    cases r16
    · try simp (maxSteps := 3000000) -implicitDefEqProofs only [thenV_some, fs, guardK_false, Bool.false_eq_true, if_false] at ho
      exact ⟨false, h3, ho.symm, ⟨fun h => (by cases h), fun h => (by have := p16.2 (congrArg MsgD.data h); cases this)⟩, o13⟩
    try simp (maxSteps := 3000000) -implicitDefEqProofs only [thenV_some, pu_some, beq_self_eq_true, guardK_true, if_true, A3.l115, B3.l115, q17] at ho
    cases r17
    · try simp (maxSteps := 3000000) -implicitDefEqProofs only [thenV_some, pu_some, bOf_bool, fs, sf, beq_self_eq_true, guardK_true, guardK_false, Bool.false_eq_true, if_false, if_true, addP_ptr, Nat.zero_add, Bool.not_true, Bool.not_false, unA_not, b1, b2, A.l0, A.l1, A.l2, A.l3, A.l4, A.l5, A.l6, A.l7, A.l8, A.l9, A.l10, A.l42, A.l43, A.l44, A.l76, B.l0, B.l1, B.l2, B.l3, B.l4, B.l5, B.l6, B.l7, B.l8, B.l9, B.l10, B.l42, B.l43, B.l44, B.l76, A3.l113, A3.l114, A3.l115, B3.l113, B3.l114, B3.l115, Nat.add_zero, q0, q1, q2, q3, q4, q5, q6, q7, q8, q9, q10, q11, q12, q13, q14, q15, q16, q17] at ho
      exact ⟨false, h3, ho.symm, ⟨fun h => (by cases h), fun h => (by have := p17.2 (congrArg MsgD.code h); cases this)⟩, o13⟩
    try simp (maxSteps := 3000000) -implicitDefEqProofs only [thenV_some, pu_some, bOf_bool, fs, sf, beq_self_eq_true, guardK_true, guardK_false, Bool.false_eq_true, if_false, if_true, addP_ptr, Nat.zero_add, Bool.not_true, Bool.not_false, unA_not, b1, b2, A.l0, A.l1, A.l2, A.l3, A.l4, A.l5, A.l6, A.l7, A.l8, A.l9, A.l10, A.l42, A.l43, A.l44, A.l76, B.l0, B.l1, B.l2, B.l3, B.l4, B.l5, B.l6, B.l7, B.l8, B.l9, B.l10, B.l42, B.l43, B.l44, B.l76, A3.l113, A3.l114, A3.l115, B3.l113, B3.l114, B3.l115, Nat.add_zero, q0, q1, q2, q3, q4, q5, q6, q7, q8, q9, q10, q11, q12, q13, q14, q15, q16, q17] at ho
    obtain ⟨m1, m2, m3, m4, m5, m6⟩ := p14.1 rfl
    exact ⟨true, h3, ho.symm, ⟨fun _ => MsgD.ext (p0.1 rfl) (p1.1 rfl) (p2.1 rfl) (p3.1 rfl) (p4.1 rfl) (p5.1 rfl) (p9.1 rfl) (p10.1 rfl) (p12.1 rfl) (p13.1 rfl) m1 m2 m3 m4 m5 (p15.1 rfl) (p17.1 rfl) (p6.1 rfl) (p7.1 rfl) (p8.1 rfl) (p11.1 rfl) m6 (p16.1 rfl), fun _ => rfl⟩, o13⟩
  obtain ⟨r, h', k1, k2, k3⟩ := key _ rfl
  exact ⟨r, h', CW_body is22 hG rfl ((t22_eq _ _ _ _).trans k1), k2, k3⟩
set_option maxRecDepth 100000 in
set_option maxHeartbeats 4000000 in
theorem r15 : ∃ (r : Bool) (h' : Heap), CW 15 [.agg (M.cells s).toArray, .agg (M'.cells s').toArray] h = some (.bool r, h') ∧ (r = true ↔ M = M') ∧ Old h h' := by
  have b1 := box_at h (M.cells s) (cells_ok x ok).2.1
  have o1 : Old h (h.alloc (M.cells s)) := Kept.alloc _ _ _
  have g1 : (h.alloc (M.cells s)).get h.next = some (M.cells s) := by rw [Heap.get_alloc, if_pos rfl]
  have n1 : (h.alloc (M.cells s)).n0 = h.n0 := o1.n0
  generalize h.alloc (M.cells s) = h1 at *
  have b2 := box_at h1 (M'.cells s') (cells_ok x' ok').2.1
  have o2 : Old h1 (h1.alloc (M'.cells s')) := Kept.alloc _ _ _
  have g2 : (h1.alloc (M'.cells s')).get h1.next = some (M'.cells s') := by rw [Heap.get_alloc, if_pos rfl]
  have g12 := Old.get o2 g1
  have n2 : (h1.alloc (M'.cells s')).n0 = h.n0 := o2.n0.trans n1
  generalize h1.alloc (M'.cells s') = h2 at *
  have o12 : Old h h2 := o1.trans o2
  have A := msg_ld x ok g12
  have B := msg_ld x' ok' g2
  have y := x.old o12
  have y' := x'.old o12
  have hG2 : 4 ≤ h2.n0 := by omega
  obtain ⟨r0, p0, _, q0⟩ := eqI 24 .u8 M.kind M'.kind
  obtain ⟨r1, p1, _, q1⟩ := eqI 3 .i64 M.from_ M'.from_
  obtain ⟨r2, p2, _, q2⟩ := eqI 3 .i64 M.to_ M'.to_
  obtain ⟨r3, p3, _, q3⟩ := eqI 25 .u64 M.seq M'.seq
  obtain ⟨r4, p4, _, q4⟩ := eqI 3 .i64 M.origin M'.origin
  obtain ⟨r5, p5, _, q5⟩ := eqI 3 .i64 M.target M'.target
  obtain ⟨r6, q6, p6⟩ := r43 hG2 y.a y'.a sm.a
  obtain ⟨r7, u7, v7, p7, w7, _, q7⟩ := str_eq y.b y'.b
  obtain ⟨r8, u8, v8, p8, w8, _, q8⟩ := str_eq y.c y'.c
  obtain ⟨w7, w7'⟩ := w7 h2 (Kept.refl _ _)
  obtain ⟨w8, w8'⟩ := w8 h2 (Kept.refl _ _)
  obtain ⟨r9, p9, _, q9⟩ := eqI 3 .i64 M.count M'.count
  obtain ⟨r10, p10, _, q10⟩ := eq28 _ _ ok.root ok'.root
  obtain ⟨r11, q11, p11⟩ := r44 hG2 y.d y'.d sm.d
  obtain ⟨r12, p12, _, q12⟩ := eqB M.want M'.want
  obtain ⟨r13, p13, q13, _⟩ := eq28 _ _ ok.obj ok'.obj
  obtain ⟨r14, h3, q14, p14, o3⟩ := r45 hG2 y y' ok ok' sm
  have o13 : Old h h3 := o12.trans o3
  have A3 := msg_ld x ok (Old.get o3 g12)
  have B3 := msg_ld x' ok' (Old.get o3 g2)
  have hG3 : 4 ≤ h3.n0 := by have := o3.n0; omega
  obtain ⟨r15, p15, q15, _⟩ := eqI 3 .i64 M.pidx M'.pidx
  obtain ⟨r16, u16, v16, p16, w16, q16, _⟩ := str_eq y.f y'.f
  obtain ⟨w16, w16'⟩ := w16 h3 o3
  obtain ⟨r17, p17, q17, _⟩ := eqI 35 .i64 M.code M'.code
  have key : ∀ o, t15 CW (.agg (M.cells s).toArray) (.agg (M'.cells s').toArray) h = o → ∃ (r : Bool) (h' : Heap), o = some (.bool r, h') ∧ (r = true ↔ M = M') ∧ Old h h' := by
    intro o ho
    unfold t15 at ho
    simp (maxSteps := 3000000) -implicitDefEqProofs only [thenV_some, pu_some, bOf_bool, addP_ptr, Nat.zero_add, b1, b2, A.l0, B.l0, Nat.add_zero, q0] at ho
    cases r0
    · try simp (maxSteps := 3000000) -implicitDefEqProofs only [thenV_some, bOf_bool, sf, guardK_false, if_true, Bool.not_false] at ho
      exact ⟨false, h2, ho.symm, ⟨fun h => (by cases h), fun h => (by have := p0.2 (congrArg MsgD.kind h); cases this)⟩, o12⟩
    try simp (maxSteps := 3000000) -implicitDefEqProofs only [thenV_some, pu_some, bOf_bool, beq_self_eq_true, guardK_true, Bool.false_eq_true, if_false, Bool.not_true, A.l1, B.l1, q1] at ho
    cases r1
    · try simp (maxSteps := 3000000) -implicitDefEqProofs only [thenV_some, bOf_bool, sf, guardK_false, if_true, Bool.not_false] at ho
      exact ⟨false, h2, ho.symm, ⟨fun h => (by cases h), fun h => (by have := p1.2 (congrArg MsgD.from_ h); cases this)⟩, o12⟩
    try simp (maxSteps := 3000000) -implicitDefEqProofs only [thenV_some, pu_some, bOf_bool, beq_self_eq_true, guardK_true, Bool.false_eq_true, if_false, Bool.not_true, A.l2, B.l2, q2] at ho
    cases r2
    · try simp (maxSteps := 3000000) -implicitDefEqProofs only [thenV_some, bOf_bool, sf, guardK_false, if_true, Bool.not_false] at ho
      exact ⟨false, h2, ho.symm, ⟨fun h => (by cases h), fun h => (by have := p2.2 (congrArg MsgD.to_ h); cases this)⟩, o12⟩
    try simp (maxSteps := 3000000) -implicitDefEqProofs only [thenV_some, pu_some, bOf_bool, beq_self_eq_true, guardK_true, Bool.false_eq_true, if_false, Bool.not_true, A.l3, B.l3, q3] at ho
    cases r3
    · try simp (maxSteps := 3000000) -implicitDefEqProofs only [thenV_some, bOf_bool, sf, guardK_false, if_true, Bool.not_false] at ho
      exact ⟨false, h2, ho.symm, ⟨fun h => (by cases h), fun h => (by have := p3.2 (congrArg MsgD.seq h); cases this)⟩, o12⟩
    try simp (maxSteps := 3000000) -implicitDefEqProofs only [thenV_some, pu_some, bOf_bool, beq_self_eq_true, guardK_true, Bool.false_eq_true, if_false, Bool.not_true, A.l4, B.l4, q4] at ho
    cases r4
    · try simp (maxSteps := 3000000) -implicitDefEqProofs only [thenV_some, bOf_bool, sf, guardK_false, if_true, Bool.not_false] at ho
      exact ⟨false, h2, ho.symm, ⟨fun h => (by cases h), fun h => (by have := p4.2 (congrArg MsgD.origin h); cases this)⟩, o12⟩
    try simp (maxSteps := 3000000) -implicitDefEqProofs only [thenV_some, pu_some, bOf_bool, beq_self_eq_true, guardK_true, Bool.false_eq_true, if_false, Bool.not_true, A.l5, B.l5, q5] at ho
    cases r5
    · try simp (maxSteps := 3000000) -implicitDefEqProofs only [thenV_some, sf, guardK_false, if_true, Bool.not_false] at ho
      exact ⟨false, h2, ho.symm, ⟨fun h => (by cases h), fun h => (by have := p5.2 (congrArg MsgD.target h); cases this)⟩, o12⟩
    try simp (maxSteps := 3000000) -implicitDefEqProofs only [thenV_some, pu_some, bOf_bool, beq_self_eq_true, guardK_true, Bool.false_eq_true, if_false, Bool.not_true, unA_not, A.l6, A.l7, B.l6, B.l7, q6, q7, w7, w7'] at ho
    cases r6
    · try simp (maxSteps := 3000000) -implicitDefEqProofs only [Bool.not_false] at ho
      exact ⟨false, h2, ho.symm, ⟨fun h => (by cases h), fun h => (by have := p6.2 (congrArg MsgD.table h); cases this)⟩, o12⟩
    try simp (maxSteps := 3000000) -implicitDefEqProofs only [Bool.not_true] at ho
    cases r7
    · try simp (maxSteps := 3000000) -implicitDefEqProofs only [thenV_some, bOf_bool, sf, guardK_false, if_true, Bool.not_false] at ho
      exact ⟨false, h2, ho.symm, ⟨fun h => (by cases h), fun h => (by have := p7.2 (congrArg MsgD.low h); cases this)⟩, o12⟩
    try simp (maxSteps := 3000000) -implicitDefEqProofs only [thenV_some, pu_some, bOf_bool, beq_self_eq_true, guardK_true, Bool.false_eq_true, if_false, Bool.not_true, A.l8, B.l8, q8, w8, w8'] at ho
    cases r8
    · try simp (maxSteps := 3000000) -implicitDefEqProofs only [thenV_some, bOf_bool, sf, guardK_false, if_true, Bool.not_false] at ho
      exact ⟨false, h2, ho.symm, ⟨fun h => (by cases h), fun h => (by have := p8.2 (congrArg MsgD.high h); cases this)⟩, o12⟩
    try simp (maxSteps := 3000000) -implicitDefEqProofs only [thenV_some, pu_some, bOf_bool, beq_self_eq_true, guardK_true, Bool.false_eq_true, if_false, Bool.not_true, A.l9, B.l9, q9] at ho
    cases r9
    · try simp (maxSteps := 3000000) -implicitDefEqProofs only [thenV_some, bOf_bool, sf, guardK_false, if_true, Bool.not_false] at ho
      exact ⟨false, h2, ho.symm, ⟨fun h => (by cases h), fun h => (by have := p9.2 (congrArg MsgD.count h); cases this)⟩, o12⟩
    try simp (maxSteps := 3000000) -implicitDefEqProofs only [thenV_some, pu_some, bOf_bool, beq_self_eq_true, guardK_true, Bool.false_eq_true, if_false, Bool.not_true, A.l10, B.l10, q10] at ho
    cases r10
    · try simp (maxSteps := 3000000) -implicitDefEqProofs only [thenV_some, bOf_bool, sf, guardK_false, if_true, Bool.not_false] at ho
      exact ⟨false, h2, ho.symm, ⟨fun h => (by cases h), fun h => (by have := p10.2 (congrArg MsgD.root h); cases this)⟩, o12⟩
    try simp (maxSteps := 3000000) -implicitDefEqProofs only [thenV_some, pu_some, bOf_bool, beq_self_eq_true, guardK_true, Bool.false_eq_true, if_false, Bool.not_true, unA_not, A.l42, B.l42, q11] at ho
    cases r11
    · try simp (maxSteps := 3000000) -implicitDefEqProofs only [thenV_some, sf, guardK_false, if_true, Bool.not_false] at ho
      exact ⟨false, h2, ho.symm, ⟨fun h => (by cases h), fun h => (by have := p11.2 (congrArg MsgD.recs h); cases this)⟩, o12⟩
    try simp (maxSteps := 3000000) -implicitDefEqProofs only [thenV_some, pu_some, bOf_bool, beq_self_eq_true, guardK_true, Bool.false_eq_true, if_false, Bool.not_true, A.l43, A.l44, B.l43, B.l44, q12, q13] at ho
    cases r12
    · try simp (maxSteps := 3000000) -implicitDefEqProofs only [Bool.not_false] at ho
      exact ⟨false, h2, ho.symm, ⟨fun h => (by cases h), fun h => (by have := p12.2 (congrArg MsgD.want h); cases this)⟩, o12⟩
    try simp (maxSteps := 3000000) -implicitDefEqProofs only [Bool.not_true] at ho
    cases r13
    · try simp (maxSteps := 3000000) -implicitDefEqProofs only [thenV_some, bOf_bool, fs, guardK_false, Bool.false_eq_true, if_false] at ho
      exact ⟨false, h2, ho.symm, ⟨fun h => (by cases h), fun h => (by have := p13.2 (congrArg MsgD.obj h); cases this)⟩, o12⟩
    try simp (maxSteps := 3000000) -implicitDefEqProofs only [thenV_some, bOf_bool, beq_self_eq_true, guardK_true, if_true, A.l76, B.l76, q14] at ho
    cases r14
    · try simp (maxSteps := 3000000) -implicitDefEqProofs only [thenV_some, bOf_bool, fs, guardK_false, Bool.false_eq_true, if_false] at ho
      exact ⟨false, h3, ho.symm, ⟨fun h => (by cases h), fun h => (by have := p14.2 (by rw [h]; exact ⟨rfl, rfl, rfl, rfl, rfl, rfl⟩); cases this)⟩, o13⟩
    try simp (maxSteps := 3000000) -implicitDefEqProofs only [thenV_some, pu_some, bOf_bool, beq_self_eq_true, guardK_true, if_true, addP_ptr, A3.l113, B3.l113, Nat.add_zero, q15] at ho
    cases r15
    · try simp (maxSteps := 3000000) -implicitDefEqProofs only [thenV_some, bOf_bool, fs, guardK_false, Bool.false_eq_true, if_false] at ho
      exact ⟨false, h3, ho.symm, ⟨fun h => (by cases h), fun h => (by have := p15.2 (congrArg MsgD.pidx h); cases this)⟩, o13⟩
    try simp (maxSteps := 3000000) -implicitDefEqProofs only [thenV_some, pu_some, bOf_bool, beq_self_eq_true, guardK_true, if_true, addP_ptr, A3.l114, B3.l114, q16, w16, w16'] at ho
    cases r16
    · try simp (maxSteps := 3000000) -implicitDefEqProofs only [thenV_some, fs, guardK_false, Bool.false_eq_true, if_false] at ho
      exact ⟨false, h3, ho.symm, ⟨fun h => (by cases h), fun h => (by have := p16.2 (congrArg MsgD.data h); cases this)⟩, o13⟩
    try simp (maxSteps := 3000000) -implicitDefEqProofs only [thenV_some, pu_some, beq_self_eq_true, guardK_true, if_true, A3.l115, B3.l115, q17] at ho
    cases r17
    · try simp (maxSteps := 3000000) -implicitDefEqProofs only [thenV_some, pu_some, bOf_bool, fs, sf, beq_self_eq_true, guardK_true, guardK_false, Bool.false_eq_true, if_false, if_true, addP_ptr, Nat.zero_add, Bool.not_true, Bool.not_false, unA_not, b1, b2, A.l0, A.l1, A.l2, A.l3, A.l4, A.l5, A.l6, A.l7, A.l8, A.l9, A.l10, A.l42, A.l43, A.l44, A.l76, B.l0, B.l1, B.l2, B.l3, B.l4, B.l5, B.l6, B.l7, B.l8, B.l9, B.l10, B.l42, B.l43, B.l44, B.l76, A3.l113, A3.l114, A3.l115, B3.l113, B3.l114, B3.l115, Nat.add_zero, q0, q1, q2, q3, q4, q5, q6, q7, q8, q9, q10, q11, q12, q13, q14, q15, q16, q17, w7, w7', w8, w8', w16, w16'] at ho
      exact ⟨false, h3, ho.symm, ⟨fun h => (by cases h), fun h => (by have := p17.2 (congrArg MsgD.code h); cases this)⟩, o13⟩
    try simp (maxSteps := 3000000) -implicitDefEqProofs only [thenV_some, pu_some, bOf_bool, fs, sf, beq_self_eq_true, guardK_true, guardK_false, Bool.false_eq_true, if_false, if_true, addP_ptr, Nat.zero_add, Bool.not_true, Bool.not_false, unA_not, b1, b2, A.l0, A.l1, A.l2, A.l3, A.l4, A.l5, A.l6, A.l7, A.l8, A.l9, A.l10, A.l42, A.l43, A.l44, A.l76, B.l0, B.l1, B.l2, B.l3, B.l4, B.l5, B.l6, B.l7, B.l8, B.l9, B.l10, B.l42, B.l43, B.l44, B.l76, A3.l113, A3.l114, A3.l115, B3.l113, B3.l114, B3.l115, Nat.add_zero, q0, q1, q2, q3, q4, q5, q6, q7, q8, q9, q10, q11, q12, q13, q14, q15, q16, q17, w7, w7', w8, w8', w16, w16'] at ho
    obtain ⟨m1, m2, m3, m4, m5, m6⟩ := p14.1 rfl
    exact ⟨true, h3, ho.symm, ⟨fun _ => MsgD.ext (p0.1 rfl) (p1.1 rfl) (p2.1 rfl) (p3.1 rfl) (p4.1 rfl) (p5.1 rfl) (p9.1 rfl) (p10.1 rfl) (p12.1 rfl) (p13.1 rfl) m1 m2 m3 m4 m5 (p15.1 rfl) (p17.1 rfl) (p6.1 rfl) (p7.1 rfl) (p8.1 rfl) (p11.1 rfl) m6 (p16.1 rfl), fun _ => rfl⟩, o13⟩
  obtain ⟨r, h', k1, k2, k3⟩ := key _ rfl
  exact ⟨r, h', CW_body is15 hG rfl ((t15_eq _ _ _ _).trans k1), k2, k3⟩
end
end Go.Proofs.YtjghlcdidopcpaaGreatDoor

