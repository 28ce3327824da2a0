/-
  The abstract machine: from a contract to what a call does in the world; calls whose arguments lead to no memory.
  Conditions: as each theorem states.
  The abstract machine: closed runs with arguments that lead to no memory; calls in programs with package variables that nobody reads.
  Conditions: as each theorem states.
  The abstract machine: one evaluator of calls for a whole program, of which each function's body is a rule: what a call does is shown of the body alone, once, with all that it leaves.
  Conditions: as each theorem states.
  Equality of aggregates in the machine: of arrays of numbers, and of structs.
  Conditions: as each theorem states.
  The abstract machine: calls whose arguments lead into the memory that was there: what of it a contract may look at.
  Conditions: as each theorem states.
  The abstract machine with more than one outcome: loops over functions, code, bodies, rounds; contracts out of bodies.
  Conditions: as each theorem states.
  The abstract machine with more than one outcome, as the kernel runs it: what comes behind is asked of each outcome.
  Conditions: as each theorem states.
-/
import Derived.Test.YtdhpgacmgebjdaaGreatDoorG8
import Derived.ProofKit
namespace Go.Abs
noncomputable section
open Go.RowKit

/-- The heap of a run that begins in a world: its blocks are there, unseen. -/
def topHeap (W : World) (old : Nat → Option (List Value)) : Heap := ⟨W.heap.size, old, .nil, 0⟩
def topMu (W : World) : Mu := fun b => if b < W.heap.size then some ⟨b, 0, 0, 0⟩ else none

theorem topHeap_new (W : World) (old : Nat → Option (List Value)) {b : Nat} (hb : W.heap.size ≤ b) : (topHeap W old).getB b = none := by
  simp only [Heap.getB_eq]; unfold topHeap
  simp only [Nat.add_zero]
  rw [if_neg (by omega), if_neg (by omega)]
theorem topHeap_newC (W : World) (old : Nat → Option (List Value)) {b : Nat} (hb : W.heap.size ≤ b) : (topHeap W old).get b = none := by
  unfold Heap.get; rw [topHeap_new W old hb]; rfl

theorem Step.below {μ μ' : Mu} {h h' : Heap} {W W' : World} (hn : ∀ B, B < W.heap.size → ¬ Own μ h B) (St : Step μ h W μ' h' W') : Below W.heap.size W W' :=
  ⟨St.os, St.tape, St.output, St.size, fun k hk => St.same k hk (hn k hk)⟩

end
end Go.Abs

namespace Go.Abs
noncomputable section
open Go.RowKit

end
end Go.Abs

namespace Go.Abs
noncomputable section

/-- What is so of all late members of a family. -/
structure Late (ι : Type) where
  p : (ι → Prop) → Prop
  all : ∀ {q : ι → Prop}, (∀ i, q i) → p q
  and : ∀ {q r s : ι → Prop}, p q → p r → (∀ i, q i → r i → s i) → p s

section
variable {ι : Type} (E : Late ι) {P : Program} {C : CallF} {D : ι → CallF}

theorem Late.mono {q r : ι → Prop} (h : E.p q) (hr : ∀ i, q i → r i) : E.p r := E.and h (E.all (q := fun _ => True) fun _ => trivial) fun i h _ => hr i h

variable (base : ∀ f args h r, C f args h = some r → E.p fun i => D i f args h = some r)
include base

theorem opA_late (o : Oper) (ρ : Operand → Value) (h : Heap) (r : Value × Heap) (e : opA P C o ρ h = some r) : E.p fun i => opA P (D i) o ρ h = some r := by
  unfold opA at e ⊢
  split at e
  all_goals first
    | exact E.all fun _ => e
    | skip
  rename_i c _
  cases hc : c.callee with
  | builtin b => simp only [hc] at e ⊢; exact E.all fun _ => e
  | invoke a b => simp only [hc] at e; cases e
  | value f =>
    simp only [hc] at e ⊢
    unfold callA at e ⊢
    split at e
    · split at e
      · rename_i hi
        simp only [hi, if_true]
        exact base _ _ _ _ e
      · cases e
    · exact base _ _ _ _ e
    · cases e

theorem opsA_late (ops : Array Oper) : ∀ (l : List Oper) (e : Env) (h : Heap) (r : Env × Heap), opsA P C ops l e h = some r → E.p fun i => opsA P (D i) ops l e h = some r
  | [], e, h, r, x => E.all fun _ => x
  | o :: l, e, h, r, x => by
    simp only [opsA] at x ⊢
    unfold stepA at x ⊢
    by_cases hw : wantA ops o e = true
    · simp only [hw, if_true] at x ⊢
      cases ho : opA P C o (ev e) h with
      | none => rw [ho] at x; cases x
      | some y =>
        rw [ho] at x
        refine E.and (opA_late E base o (ev e) h y ho) (opsA_late ops l _ _ r x) ?_
        intro i h1 h2
        simp only [h1]; exact h2
    · simp only [hw] at x ⊢
      exact opsA_late ops l _ _ r x

theorem traceA_late (ops : Array Oper) : ∀ (l : List (Nat × Oper)) (e : Env) (h : Heap) (r : List Tr1 × Env × Heap), traceA P C ops l e h = some r → E.p fun i => traceA P (D i) ops l e h = some r
  | [], e, h, r, x => E.all fun _ => x
  | (n, o) :: l, e, h, r, x => by
    simp only [traceA] at x ⊢
    by_cases hw : wantA ops o e = true
    · simp only [hw, if_true] at x ⊢
      cases ho : opA P C o (ev e) h with
      | none => rw [ho] at x; cases x
      | some y =>
        rw [ho] at x
        simp only at x
        cases ht : traceA P C ops l (putD e o.dst y.1) y.2 with
        | none => rw [ht] at x; cases x
        | some z =>
          rw [ht] at x
          refine E.and (opA_late E base o (ev e) h y ho) (traceA_late ops l _ _ z ht) ?_
          intro i h1 h2
          simp only [h1, h2]; exact x
    · simp only [hw] at x ⊢
      cases ht : traceA P C ops l (putD e o.dst undef) h with
      | none => rw [ht] at x; cases x
      | some z =>
        rw [ht] at x
        refine E.mono (traceA_late ops l _ _ z ht) ?_
        intro i h2
        simp only [h2]; exact x

omit base in
theorem all_late {α : Type} (l : List α) (p : α → Bool) (q : ι → α → Bool) (hq : ∀ x ∈ l, p x = true → E.p fun i => q i x = true) (h : l.all p = true) : E.p fun i => l.all (q i) = true := by
  induction l with
  | nil => exact E.all fun _ => rfl
  | cons x l ih =>
    simp only [List.all_cons, Bool.and_eq_true] at h ⊢
    exact E.and (hq x List.mem_cons_self h.1) (ih (fun y hy => hq y (List.mem_cons_of_mem _ hy)) h.2) fun i a b => ⟨a, b⟩

theorem dynOk_late (ops : Array Oper) (l : List (Nat × Oper)) (tr : List Tr1) (hEnd : Heap) (x : dynOk P C ops l tr hEnd = true) : E.p fun i => dynOk P (D i) ops l tr hEnd = true := by
  unfold dynOk at x ⊢
  refine all_late E _ _ (fun i x => _) ?_ x
  intro a _ ha
  rw [Bool.or_eq_true] at ha
  rcases ha with ha | ha
  · exact E.all fun i => by rw [Bool.or_eq_true]; exact .inl ha
  · let G : ι → (Nat × Oper) × Nat → Bool := fun i y => befB (befM ops) a.1.1.1 y.1.1 || befB (befM ops) y.1.1 a.1.1.1 || match heapAt (tr.map (·.ran)) (tr.map (·.h) ++ [hEnd]) (madeIn P l (a.2, y.2)) (if y.2 < a.2 then y.2 else y.2 + 1) with
        | some h => same (opA P (D i) a.1.1.2 (ev a.1.2.e) h) a.1.2.v
        | none => false
    refine E.mono (all_late E _ _ G ?_ ha) ?_
    · intro y _ hy
      rw [Bool.or_eq_true] at hy
      rcases hy with hy | hy
      · exact E.all fun i => by rw [Bool.or_eq_true]; exact .inl hy
      · split at hy
        · rename_i h hh
          unfold Abs.same at hy
          split at hy
          · rename_i v g hv
            refine E.mono (opA_late E base _ _ _ _ hv) ?_
            intro i hi
            rw [Bool.or_eq_true]
            refine .inr ?_
            rw [hh]
            simp only [hi, Abs.same]; exact hy
          · cases hy
        · cases hy
    · intro i hi
      rw [Bool.or_eq_true]
      exact .inr hi

theorem regionA_late (ops : Array Oper) (d : Bool) (e : Env) (h : Heap) (r : Env × Heap) (x : regionA P C ops d e h = some r) : E.p fun i => regionA P (D i) ops d e h = some r := by
  unfold regionA at x ⊢
  cases d with
  | false => exact opsA_late E base ops _ e h r x
  | true =>
    simp only [if_true] at x ⊢
    split at x
    · rename_i hs
      simp only [hs, if_true]
      split at x
      · rename_i tr e1 h1 ht
        split at x
        · rename_i hd
          refine E.and (traceA_late E base ops _ e h _ ht) (dynOk_late E base ops _ tr h1 hd) ?_
          intro i a b
          simp only [a, b, if_true]; exact x
        · cases x
      · cases x
    · cases x

omit base in
theorem iter_late {step : Env → Heap → Option (Ex × Env × Heap)} {stepD : ι → Env → Heap → Option (Ex × Env × Heap)} (hs : ∀ e h r, step e h = some r → E.p fun i => stepD i e h = some r) :
    ∀ (n : Nat) (e : Env) (h : Heap) (r : Ex × Env × Heap), iter step n e h = some r → E.p fun i => iter (stepD i) n e h = some r
  | 0, _, _, _, x => by cases x
  | n + 1, e, h, r, x => by
    simp only [iter] at x ⊢
    split at x
    · rename_i e1 h1 h2
      refine E.and (hs _ _ _ h2) (iter_late hs n _ _ r x) ?_
      intro i a b
      simp only [a]; exact b
    · rename_i hn
      refine E.mono (hs _ _ _ x) ?_
      intro i a
      simp only [a]
      obtain ⟨ex, e1, h1⟩ := r
      cases ex with
      | normal => exact absurd x (hn e1 h1)
      | ret => rfl
      | exit j => rfl

theorem codeA_late : ∀ (c : Code) (e : Env) (h : Heap) (r : Ex × Env × Heap), codeA P C c e h = some r → E.p fun i => codeA P (D i) c e h = some r
  | .skip, e, h, r, x => E.all fun _ => x
  | .region _ ops d, e, h, r, x => by
    simp only [codeA] at x ⊢
    split at x
    · rename_i e1 h1 h2
      refine E.mono (regionA_late E base ops d e h _ h2) ?_
      intro i a
      simp only [a]; exact x
    · cases x
  | .seq a b, e, h, r, x => by
    simp only [codeA] at x ⊢
    split at x
    · rename_i e1 h1 h2
      refine E.and (codeA_late a e h _ h2) (codeA_late b _ _ r x) ?_
      intro i p q
      simp only [p]; exact q
    · rename_i hn
      refine E.mono (codeA_late a e h _ x) ?_
      intro i p
      simp only [p]
      obtain ⟨ex, e1, h1⟩ := r
      cases ex with
      | normal => exact absurd x (hn e1 h1)
      | ret => rfl
      | exit j => rfl
  | .cond c a b, e, h, r, x => by
    simp only [codeA] at x ⊢
    split at x
    · exact codeA_late a e h r x
    · exact codeA_late b e h r x
    · cases x
  | .block j b, e, h, r, x => by
    simp only [codeA] at x ⊢
    split at x
    · rename_i k e1 h1 h2
      refine E.mono (codeA_late b e h _ h2) ?_
      intro i p
      simp only [p]; exact x
    · rename_i hn
      refine E.mono (codeA_late b e h _ x) ?_
      intro i p
      simp only [p]
      obtain ⟨ex, e1, h1⟩ := r
      cases ex with
      | exit k => exact absurd x (hn k e1 h1)
      | ret => rfl
      | normal => rfl
  | .loop b, e, h, r, x => by
    simp only [codeA] at x ⊢
    exact iter_late E (fun e h r y => codeA_late b e h r y) rounds e h r x
  | .exit _, e, h, r, x => E.all fun _ => x
  | .scope b, e, h, r, x => by simp only [codeA] at x ⊢; exact codeA_late b e h r x
  | .label _, e, h, r, x => E.all fun _ => x
  | .ret, e, h, r, x => E.all fun _ => x
  | .goto _, e, h, r, x => by cases x
  | .rangeFunc g ps a b, e, h, r, x => by
    simp only [codeA] at x ⊢
    split at x
    · rename_i i first captured hev
      split at x
      · rename_i hi
        split at x
        · rename_i v h2 hc
          refine E.mono (base _ _ _ _ hc) ?_
          intro j hj
          simp only [hi, if_true, hj]; exact x
        · cases x
      · cases x
    · cases x
  | .refuse _, e, h, r, x => by cases x

theorem roundA_late (l : Nat) (args : List Value) (h : Heap) (r : Value × Heap) (x : roundA P C l args h = some r) : E.p fun i => roundA P (D i) l args h = some r := by
  obtain ⟨v, h'⟩ := r
  obtain ⟨st, p0, t0, q0, assign, body, e1, h1, p1, t1, q1, a1, b1, ex, e2, h2, hg, hlen, ho1, ho2, hca, hg1, hcb, hend⟩ := roundA_some x
  refine E.and (codeA_late E base assign _ _ _ hca) (codeA_late E base body _ _ _ hcb) ?_
  intro i c1 c2
  unfold roundA
  rw [hg]
  simp only
  rw [if_pos ⟨hlen, ho1, ho2⟩, c1]
  simp only
  rw [hg1]
  simp only
  rw [c2]
  exact hend

theorem bodyA_late (fn : Func) (args : List Value) (h : Heap) (r : Value × Heap) (x : bodyA P C fn args h = some r) : E.p fun i => bodyA P (D i) fn args h = some r := by
  unfold bodyA at x ⊢
  cases hb : fn.body with
  | none => rw [hb] at x; cases x
  | some c =>
    rw [hb] at x
    simp only at x ⊢
    cases hc : codeA P C c (args ++ List.replicate (fn.ntmps - args.length) undef) h with
    | none => rw [hc] at x; cases x
    | some y =>
      rw [hc] at x
      refine E.mono (codeA_late E base c _ _ y hc) ?_
      intro i a
      simp only [a]; exact x
end

def lateOne : Late Unit := ⟨fun q => q (), fun h => h (), fun a b h => h () a b⟩
def lateNat : Late Nat := ⟨fun q => ∃ n, ∀ m, n ≤ m → q m, fun h => ⟨0, fun m _ => h m⟩, fun a b h => by
  obtain ⟨n, a⟩ := a
  obtain ⟨k, b⟩ := b
  exact ⟨max n k, fun m hm => h m (a m (by omega)) (b m (by omega))⟩⟩

/-- Calls by fuel; what is known of a function goes ahead of its body. -/
def callX (P : Program) (X : CallF) : Nat → CallF
  | 0, f, args, h => X f args h
  | k + 1, f, args, h => match X f args h with
    | some r => some r
    | none => if Nat.ble P.globals.size h.n0 then match P.funcs[f]? with
      | some fn => if fnOk P fn then bodyA P (callX P X k) fn args h else none
      | none => roundA P (callX P X k) (f - P.funcs.size) args h
    else none

theorem callX_step {P : Program} {X : CallF} : ∀ (n : Nat) (f : FuncId) (args : List Value) (h : Heap) (r : Value × Heap), callX P X n f args h = some r → callX P X (n + 1) f args h = some r
  | 0, f, args, h, r, x => by
    have x : X f args h = some r := x
    simp only [callX, x]
  | n + 1, f, args, h, r, x => by
    unfold callX at x ⊢
    split at x
    · exact x
    · rename_i hX
      split at x
      · rename_i hg
        rw [if_pos hg]
        split at x
        · rename_i fn hf
          split at x
          · rename_i hk
            rw [if_pos hk]
            exact bodyA_late (ι := Unit) lateOne (D := fun _ => callX P X (n + 1)) (fun f args h r e => callX_step n f args h r e) fn args h r x
          · cases x
        · exact roundA_late (ι := Unit) lateOne (D := fun _ => callX P X (n + 1)) (fun f args h r e => callX_step n f args h r e) _ args h r x
      · cases x
theorem callX_mono {P : Program} {X : CallF} {n m : Nat} (hm : n ≤ m) {f : FuncId} {args : List Value} {h : Heap} {r : Value × Heap} (x : callX P X n f args h = some r) : callX P X m f args h = some r := by
  obtain ⟨k, rfl⟩ : ∃ k, m = n + k := ⟨m - n, by omega⟩
  clear hm
  induction k with
  | zero => exact x
  | succ k ih => exact callX_step _ _ _ _ _ ih

theorem callX_sound {P : Program} {X : CallF} (hm : P.follows .mixedOrders = true) (hX : CSound P X) : ∀ k, CSound P (callX P X k)
  | 0 => hX
  | k + 1 => by
    have ih := callX_sound hm hX k
    have key : ∀ {f args h v h'}, callX P X (k + 1) f args h = some (v, h') → X f args h = some (v, h') ∨ (∃ fn, P.funcs[f]? = some fn ∧ fnOk P fn = true ∧ P.globals.size ≤ h.n0 ∧ bodyA P (callX P X k) fn args h = some (v, h')) ∨
        (P.funcs.size ≤ f ∧ P.globals.size ≤ h.n0 ∧ roundA P (callX P X k) (f - P.funcs.size) args h = some (v, h')) := by
      intro f args h v h' he
      unfold callX at he
      split at he
      · rename_i hx; exact .inl (hx.trans he)
      · split at he
        · rename_i h1
          split at he
          · rename_i fn hf
            split at he
            · rename_i hk
              exact .inr (.inl ⟨fn, hf, hk, Nat.le_of_ble_eq_true h1, he⟩)
            · cases he
          · rename_i hf
            exact .inr (.inr ⟨Array.getElem?_eq_none_iff.1 hf, Nat.le_of_ble_eq_true h1, he⟩)
        · cases he
    refine ⟨?_, ?_, ?_, ?_⟩
    · intro f args h v h' he
      rcases key he with hx | ⟨fn, h1, h2, h3, h4⟩ | ⟨h1, h2, h3⟩
      · exact hX.grow _ _ _ _ _ hx
      · exact bodyA_grow ih h4
      · exact roundA_grow ih h3
    · intro f args h v h' he hba hbh
      rcases key he with hx | ⟨fn, h1, h2, h3, h4⟩ | ⟨h1, h2, h3⟩
      · exact hX.bd _ _ _ _ _ hx hba hbh
      · exact bodyA_bd ih h2 h3 h4 hba hbh
      · exact roundA_bd ih h3 h2 hba hbh
    · intro f args h v h' he hf hba hbh hg μ w args' S hfr r
      rcases key he with hx | ⟨fn, h1, h2, h3, h4⟩ | ⟨h1, _⟩
      · exact hX.run _ _ _ _ _ hx hf hba hbh hg μ w args' S hfr r
      · cases hb : fn.body with
        | none => unfold bodyA at h4; rw [hb] at h4; cases h4
        | some c =>
          have hco : codeOk P c = true := by
            unfold fnOk at h2
            rw [hb] at h2
            simp only [Bool.and_eq_true] at h2
            exact h2.2
          have h2' := h2
          unfold fnOk at h2'
          rw [Bool.and_eq_true, Bool.not_eq_true'] at h2'
          exact .inl ⟨fn, h1, h2'.1, by rw [hb]; rfl, body_sound ih hm h1 hb hco h4 hg hba hbh S hfr r⟩
      · exact absurd hf (Nat.not_lt.2 h1)
    · intro l args h v h' he hba hbh hg μ w args' L S hfr r hL
      rcases key he with h0 | ⟨fn, h1, _⟩ | ⟨_, _, h2⟩
      · exact hX.round _ _ _ _ _ h0 hba hbh hg μ w args' L S hfr r hL
      · exact absurd (Array.getElem?_eq_some_iff.1 h1).1 (Nat.not_lt.2 (Nat.le_add_right _ _))
      · rw [show yid P l - P.funcs.size = l from Nat.add_sub_cancel_left _ _] at h2
        exact round_sound ih hm h2 hg hba hbh S hfr r hL

open Classical in
/-- Calls by as much fuel as they need. -/
noncomputable def CC (P : Program) (X : CallF) : CallF := fun f args h => if e : ∃ n, (callX P X n f args h).isSome then callX P X e.choose f args h else none
theorem CC_spec {P : Program} {X : CallF} {f : FuncId} {args : List Value} {h : Heap} {r : Value × Heap} (e : CC P X f args h = some r) : ∃ n, callX P X n f args h = some r := by
  unfold CC at e
  split at e
  · exact ⟨_, e⟩
  · cases e
theorem CC_of {P : Program} {X : CallF} {n : Nat} {f : FuncId} {args : List Value} {h : Heap} {r : Value × Heap} (e : callX P X n f args h = some r) : CC P X f args h = some r := by
  have hx : ∃ n, (callX P X n f args h).isSome := ⟨n, by rw [e]; rfl⟩
  unfold CC
  rw [dif_pos hx]
  have h2 := hx.choose_spec
  rw [Option.isSome_iff_exists] at h2
  obtain ⟨r2, h2⟩ := h2
  have h3 := callX_mono (Nat.le_max_left n hx.choose) e
  have h4 := callX_mono (Nat.le_max_right n hx.choose) h2
  rw [h2, ← h3, h4]

theorem CC_known {P : Program} {X : CallF} {f : FuncId} {args : List Value} {h : Heap} {r : Value × Heap} (e : X f args h = some r) : CC P X f args h = some r := CC_of (n := 0) e

/-- The body is a rule of the calls. -/
theorem CC_body {P : Program} {X : CallF} {f : FuncId} {fn : Func} (i : IsFn P f fn) {args : List Value} {h : Heap} {r : Value × Heap} (hg : P.globals.size ≤ h.n0) (hX : X f args h = none)
    (e : bodyK P (CC P X) fn args h = some r) : CC P X f args h = some r := by
  rw [bodyK_eq] at e
  have base : ∀ f args h r, CC P X f args h = some r → lateNat.p fun n => callX P X n f args h = some r := by
    intro f args h r e
    obtain ⟨n, hn⟩ := CC_spec e
    exact ⟨n, fun m hm => callX_mono hm hn⟩
  obtain ⟨n, hn⟩ := bodyA_late lateNat (D := callX P X) base fn args h r e
  have hok : fnOk P fn = true := by
    unfold fnOk
    rw [i.name, i.body]
    simp only [Bool.not_false, Bool.true_and]
    exact i.ok
  refine CC_of (n := n + 1) ?_
  unfold callX
  rw [hX]
  simp only
  rw [if_pos (Nat.ble_eq_true_of_le hg), i.at_]
  simp only
  rw [if_pos hok]
  exact hn n (Nat.le_refl _)

theorem CC_sound {P : Program} {X : CallF} (hm : P.follows .mixedOrders = true) (hX : CSound P X) : CSound P (CC P X) := by
  refine ⟨?_, ?_, ?_, ?_⟩
  · intro f args h v h' e
    obtain ⟨n, e⟩ := CC_spec e
    exact (callX_sound hm hX n).grow _ _ _ _ _ e
  · intro f args h v h' e
    obtain ⟨n, e⟩ := CC_spec e
    exact (callX_sound hm hX n).bd _ _ _ _ _ e
  · intro f args h v h' e
    obtain ⟨n, e⟩ := CC_spec e
    exact (callX_sound hm hX n).run _ _ _ _ _ e
  · intro l args h v h' e
    obtain ⟨n, e⟩ := CC_spec e
    exact (callX_sound hm hX n).round _ _ _ _ _ e

/-- What is shown of the calls is a contract. -/
theorem Contract.of_CC {P : Program} {X : CallF} (hm : P.follows .mixedOrders = true) (hX : CSound P X) {f : FuncId} {fn : Func} (i : IsFn P f fn) : Contract P f (CC P X f) where
  fn := (Array.getElem?_eq_some_iff.1 i.at_).1
  grow args h v h' e := (CC_sound hm hX).grow _ _ _ _ _ e
  bd args h v h' e := (CC_sound hm hX).bd _ _ _ _ _ e
  run args h v h' e := (CC_sound hm hX).run _ _ _ _ _ e (Array.getElem?_eq_some_iff.1 i.at_).1
end
end Go.Abs

namespace Go.Abs
noncomputable section
section
variable {P : Program}
end
theorem Kept.also {a b c : Heap} {B B' : Nat → Prop} (x : Kept a b B) (y : Kept b c B') (hB : ∀ d, d < a.next → B' d → B d) : Kept a c B :=
  ⟨y.n0.trans x.n0, Nat.le_trans x.next y.next, fun d hd hb => (y.getB d (Nat.lt_of_lt_of_le hd x.next) (fun h => hb (hB d hd h))).trans (x.getB d hd hb)⟩
theorem Kept.getE {h h' : Heap} {B : Nat → Prop} (x : Kept h h' B) {b : Nat} {k : Blk} (e : h.get b = some k) (hB : ¬ B b) : h'.get b = some k := (x.get b (h.lt_of_get e) hB).trans e
end
end Go.Abs

namespace Go.Abs
noncomputable section
open Go.RowKit

/-- Values that mean the same in the machine as in the world. -/
def nice (n : Nat) : Value → Bool
  | .pointer (some ⟨b, _, none⟩) => decide (b < n)
  | .slice (some ⟨b, _, none⟩) _ _ => decide (b < n)
  | v => flat v
def clean (n : Nat) (v : Value) : Value :=
  if nice n v then v else match v with
    | .slice (some _) 0 0 => .slice (some ⟨0, 0, some 0⟩) 0 0
    | _ => .chan (some 0)
/-- What a contract may look at of the memory that was there. -/
def view (W : World) (b : Nat) : Option (List Value) :=
  match W.heap[b]? with
  | some (.cells arr _ _) => some (arr.toList.map (clean W.heap.size))
  | _ => none

theorem nice_rel {W : World} {v : Value} (h : nice W.heap.size v = true) : VRel (topMu W) v v := by
  unfold nice at h
  split at h
  · rename_i b off
    simp only [decide_eq_true_eq] at h
    have hm : topMu W b = some ⟨b, 0, 0, 0⟩ := by unfold topMu; rw [if_pos h]
    have := VRel.ptr (off := off) hm
    simpa using this
  · rename_i b off l c
    simp only [decide_eq_true_eq] at h
    have hm : topMu W b = some ⟨b, 0, 0, 0⟩ := by unfold topMu; rw [if_pos h]
    have := VRel.slice (off := off) (len := l) (cap := c) hm
    simpa using this
  · exact .flat h
theorem nice_bd {n : Nat} {v : Value} (h : nice n v = true) : bdV n v = true := by
  unfold nice at h
  split at h
  · simpa [bdV] using h
  · simpa [bdV] using h
  · exact bdV_flat h
theorem clean_rel {W : World} {v : Value} (h : isHole (clean W.heap.size v) = false) : VRel (topMu W) (clean W.heap.size v) v := by
  unfold clean at h ⊢
  split at h
  · rename_i hn
    rw [if_pos hn]; exact nice_rel hn
  · rename_i hn
    rw [if_neg hn]
    split at h
    · exact .zer
    · simp [isHole] at h
theorem clean_bd {n : Nat} {v : Value} (hn : 0 < n) : bdV n (clean n v) = true := by
  unfold clean
  split
  · rename_i h; exact nice_bd h
  · split
    · simpa [bdV] using hn
    · rfl

theorem view_sim (W : World) : Sim (topMu W) (topHeap W (view W)) W := by
  refine ⟨?_, ?_, ?_, ?_, Nat.le_refl _, ?_⟩
  · intro b cs hb hc
    have hb2 : b < W.heap.size := hb
    have hc2 : view W b = some cs := hc
    unfold view at hc2
    split at hc2
    · rename_i arr T fr hg
      cases hc2
      refine ⟨⟨b, 0, 0, 0⟩, arr, T, fr, by unfold topMu; rw [if_pos hb2], rfl, rfl, hg, ?_, ?_⟩
      · simp
      · intro i x y hx hy hh
        rw [List.getElem?_map, Option.map_eq_some_iff] at hx
        obtain ⟨z, hz, rfl⟩ := hx
        rw [List.length_map, List.take_of_length_le (Nat.le_refl _), hz] at hy
        cases hy
        exact clean_rel hh
    · cases hc2
  · intro b k hb hk; rw [topHeap_newC W _ hb] at hk; cases hk
  · intro b k hb hk; rw [topHeap_new W _ hb] at hk; cases hk
  · intro b b' k k' L L' hb _ _ hk; rw [topHeap_new W _ hb] at hk; cases hk
  · intro b hb
    have hb2 : b < W.heap.size := hb
    exact ⟨⟨b, 0, 0, 0⟩, by unfold topMu; rw [if_pos hb2], rfl, rfl⟩

theorem view_get (W : World) (b : Nat) : (topHeap W (view W)).get b = view W b := by
  unfold Heap.get; simp only [Heap.getB_eq]; unfold topHeap
  simp only [Nat.add_zero]
  by_cases hb : b < W.heap.size
  · rw [if_pos hb]; cases view W b <;> rfl
  · rw [if_neg hb, if_neg hb]
    unfold view
    rw [Array.getElem?_eq_none (by omega)]; rfl
theorem view_obj (W : World) (b : Nat) (o : MObj) : (topHeap W (view W)).getB b ≠ some (.obj o) := fun hk => by
  have h0 := Heap.n0_of_obj (h := topHeap W (view W)) hk
  rw [topHeap_new W _ h0] at hk; cases hk

theorem view_bd (W : World) : HeapBd (topHeap W (view W)) := by
  refine ⟨?_, fun b o hk => absurd hk (view_obj W b o)⟩
  intro b k hk
  rw [view_get] at hk
  have hn : (topHeap W (view W)).next = W.heap.size := rfl
  rw [hn]
  unfold view at hk
  split at hk
  · rename_i arr T fr hg
    cases hk
    have hpos : 0 < W.heap.size := by
      have := (Array.getElem?_eq_some_iff.1 hg).1; omega
    rw [bdL_iff]
    intro x hx
    obtain ⟨y, _, rfl⟩ := List.mem_map.1 hx
    exact clean_bd hpos
  · cases hk

/-- A cell that can be read, seen. -/
theorem view_cell {W : World} {a : Addr} {v : Value} (h : W.cell? a = some v) : a.spot = none ∧ a.block < W.heap.size ∧ ∃ k, view W a.block = some k ∧ k[a.off]? = some (clean W.heap.size v) := by
  unfold World.cell? at h
  split at h
  · rename_i c T fr hg
    split at h
    · cases h
    · rename_i hs
      refine ⟨by simpa using hs, (Array.getElem?_eq_some_iff.1 hg).1, c.toList.map (clean W.heap.size), ?_, ?_⟩
      · unfold view; rw [hg]
      · rw [List.getElem?_map, Array.getElem?_toList, h]; rfl
  · cases h

end
end Go.Abs

namespace Go.Abs
noncomputable section
section
variable {P : Program} {C : CallF} {W : CallW}

theorem range_goodW (hW : WSound P W) {g : Operand} {params : Array Tmp} {assign body : Code} (hok : codeOk P (.rangeFunc g params assign body) = true) : CodeGoodW P C W (.rangeFunc g params assign body) := by
  intro ro nd s rs e h K μ a w Q he hg hbe hbh S t r hmk hsz hro hQ
  simp only [codeOk] at hok
  simp only [codeW] at he
  split at he
  · rename_i i first captured hev
    obtain ⟨hbdy, he⟩ := he
    obtain ⟨fn0, hfn, hname, hbody⟩ : ∃ fn, P.funcs[i]? = some fn ∧ (fn.name == "runtime.NumGoroutine") = false ∧ fn.body.isNone = false := by
      unfold hasBody at hbdy
      split at hbdy
      · rename_i fn hf
        rw [Bool.and_eq_true, Bool.not_eq_true'] at hbdy
        exact ⟨fn, hf, hbdy.2, by rw [Option.isNone_eq_false_iff]; exact hbdy.1⟩
      · cases hbdy
    have hi : i < P.funcs.size := (Array.getElem?_eq_some_iff.1 hfn).1
    have hbv := bd_ev hg hbe hok
    have hal : HeapBd (h.allocB (.obj (.loop .ready none e params.toList assign body))) := hbh.allocO (bdL_mono (Nat.le_succ _) hbe)
    have hrv := ev_rel S hg r hok
    rw [hev] at hbv hrv
    obtain ⟨fg, first', captured', hfe, hfg, hr1, hr2⟩ := hrv.func_iff
    cases hfg
    have hba : bdL (h.allocB (.obj (.loop .ready none e params.toList assign body))).next (first.toList ++ [.func (.yield h.next) #[] #[]] ++ captured.toList) = true := by
      obtain ⟨lf⟩ := first
      obtain ⟨lc⟩ := captured
      simp only [bdV, Bool.and_eq_true] at hbv
      exact bdL_append (bdL_append (bdL_mono (by simp) hbv.2.1) (by simp [bdL, bdV, bdF])) (bdL_mono (by simp) hbv.2.2)
    have main : ∀ (fn : FuncId) (l : Nat) (rs' : List Nat) (w1 : World) (ob : Loop), (Instr.enterLoop fn a.tmps params assign body ro).run P w = .ok (l, marksOf rs') w1 → w.heap.size ≤ l → w1.heap.size = l + 1 →
        (∀ C, C < w.heap.size → w1.heap[C]? = w.heap[C]?) → w1.heap[l]? = some (Obj.loop ob) → w1.os = w.os → w1.tape = w.tape → w1.output = w.output → w.drawn ≤ w1.drawn →
        ob.state = .ready → ob.pending = none → ob.tmps = a.tmps → ob.params = params → ob.assign = assign → ob.body = body →
        (∀ r ∈ rs', w.heap.size ≤ r ∧ r ≠ l ∧ w1.heap[r]? = some (.deferred (some []))) → rs'.Nodup →
        ∃ (l : Nat) (mark : List Deferred) (w₁ : World) (d : Deferred) (w₁' : World) (f : FuncId) (args : Array Value) (w₂ : World),
        (Instr.enterLoop fn a.tmps params assign body (Fr ro).round).run P w = .ok (l, mark) w₁ ∧
        (resolve a.eval (rangeCall g l) 0).run P w₁ = .ok d w₁' ∧
        (∀ f', Target.leads P w₁' d.target d.args = some f' → (Fr ro).fn f') ∧
        (invoke d.target d.args).run P w₁' = .ok (.enter f args) w₂ ∧
        ((Fr ro).depth.isSome = true → 1 ≤ nd) ∧
        CallsIn (Fr ro) (nd - 1) P f args w₂ (rangePost (Fr ro) nd P l Q { a with defers := mark ++ a.defers }) := by
      intro fn l rs' w1 ob hent hl1 hl2 hold hnew ho ht hp hdw q1 q2 q3 q4 q5 q6 hrs hnd
      obtain ⟨S1, St1⟩ := S.allocO (o := .loop .ready none e params.toList assign body) t.free (ob := .loop ob) (w1 := w1) (B := l) ho ht hp hl1 hl2 hold hnew
        ⟨q1, by rw [q2]; rfl, by rw [q3]; exact r.1.mono (Mu.put_mono (t _ (Nat.le_refl _))), by rw [q4], q5, q6⟩ hdw
      have hmono := Mu.put_mono (L := ⟨l, 0, 0, 0⟩) (t _ (Nat.le_refl _))
      have hyl : VRel (μ.put h.next ⟨l, 0, 0, 0⟩) (.func (.yield h.next) #[] #[]) (.func (.yield l) #[] #[]) := .func ⟨_, Mu.put_same _ _ _, rfl⟩ rfl (by simp) rfl (by simp)
      have hall := ((hr1.mono hmono).append (LRel.cons hyl (LRel.nil _))).append (hr2.mono hmono)
      have top1 := t.step St1
      have hcalls := (hW.run _ _ _ _ he hi hba hal (by simpa using hg) _ w1 _ S1 top1 hall).calls hfn hname hbody
      refine ⟨l, marksOf rs', w1, { target := .fn (.func i) captured', args := first' ++ #[.func (.yield l) #[] #[]] }, w1, i, _, w1, hent, ?_, fun _ _ => trivial, ?_, (fun h => by cases h), (calls_fr (r := ro) (n := nd - 1) hcalls).mono ?_⟩
      · unfold resolve
        simp only [hfe, Deferred.ofValue, List.map_toArray, List.map_cons, List.map_nil, show a.eval (.const (.func (.yield l) #[] #[])) = .func (.yield l) #[] #[] from rfl]
        rfl
      · simp only [invoke, callFunc, Sem.run_bind, run_program, Result.andThen_ok, hfn, hname, hbody, Bool.false_eq_true, if_false, Sem.run_pure]
        congr 2
        apply Array.ext'
        simp
      · rintro en w3 ⟨v, h2, ⟨x, e', h', hl, hk⟩, hgr, hb1, hb2, μ3, v3, rfl, S3, St3, hv3⟩
        obtain ⟨st, pend, tmps, ps, as, bo, hgl, hst, rfl, rfl, rfl⟩ := endLoopA_some hl
        have hgr1 : h.next + 1 ≤ h2.next := by have := hgr.1; simpa using this
        have hμ3 : μ3 h.next = some ⟨l, 0, 0, 0⟩ := St3.mono top1.free _ _ (Mu.put_same _ _ _)
        obtain ⟨L, ob3, g1, g2, g3, g4, g5⟩ := S3.obj h.next _ (h2.n0_of_obj hgl) hgl
        rw [hμ3] at g1; cases g1
        cases ob3 with
        | loop r3 =>
          obtain ⟨k1, k2, k3, k4, k5, k6⟩ := g3
          have hend : (Instr.endLoop l).run P w3 = .ok r3.pending (w3.putObj l (.loop { r3 with state := .exhausted })) := run_endLoop g2 (by rw [k1]; exact hst)
          refine ⟨r3.pending, _, hend, ?_⟩
          obtain ⟨S4, St4⟩ := S3.setO (o' := .loop .exhausted pend tmps ps as bo) (ob' := .loop { r3 with state := .exhausted }) hgl hμ3 ⟨rfl, k2, k3, k4, k5, k6⟩
          have StA := (St1.trans St3).trans St4
          have hob := hb2.obj _ _ hgl
          have hq : Q (exOf (pend.getD .normal)) { a with defers := marksOf rs' ++ a.defers } (w3.putObj l (.loop { r3 with state := .exhausted })) := by
            refine hQ _ _ _ _ _ hk (((Grow.allocO _ _).trans hgr).trans (Grow.setO _ _ _)) (bdL_mono (by simp only [Heap.next_setO]; omega) hbe) (hb2.setO (h2.n0_of_obj hgl) hgl hob) ⟨μ3, rs' ++ rs, S4, StA, ⟨?_, ?_⟩, ?_⟩
            · exact r.1.mono (StA.mono t.free)
            · rw [r.2]; simp [marksOf]
            · have hm1 := hmk.step StA
              have hnew2 : ∀ r ∈ rs', ¬ Own μ h r := by
                rintro r hr ⟨b, k, L, o1, o2, o3, o4⟩
                obtain ⟨L2, ob2, p1, p2, p3⟩ := S.place o1 o2
                rw [p1] at o3; cases o3
                have := (Array.getElem?_eq_some_iff.1 p2).1
                have := (hrs r hr).1
                omega
              have own1 : ∀ r ∈ rs', ¬ Own (μ.put h.next ⟨l, 0, 0, 0⟩) (h.allocB (.obj (.loop .ready none e' params.toList assign body))) r := by
                rintro r hr ⟨b, k, L, o1, o2, o3, o4⟩
                rw [h.getB_allocB] at o2
                by_cases eb : b = h.next
                · subst eb
                  rw [Mu.put_same] at o3
                  cases o3
                  exact (hrs r hr).2.1 o4.symm
                · rw [if_neg eb] at o2
                  rw [Mu.put_other _ _ eb] at o3
                  exact hnew2 r hr ⟨b, k, L, o1, o2, o3, o4⟩
              have mk1 : Marks s (μ.put h.next ⟨l, 0, 0, 0⟩) (h.allocB (.obj (.loop .ready none e' params.toList assign body))) w1 rs' :=
                ⟨hnd, fun r hr => ⟨Nat.le_trans hsz (hrs r hr).1, (hrs r hr).2.2, own1 r hr⟩⟩
              have mk2 := mk1.step (St3.trans St4)
              refine ⟨?_, fun r hr => ?_⟩
              · rw [List.nodup_append]
                refine ⟨hnd, hmk.dup, fun x hx y hy e => ?_⟩
                have h5 := (hrs x hx).1
                have h6 := (Array.getElem?_eq_some_iff.1 (hmk.at_ y hy).2.1).1
                omega
              · rcases List.mem_append.1 hr with h5 | h5
                · exact mk2.at_ r h5
                · exact hm1.at_ r h5
          generalize w3.putObj l (.loop { r3 with state := .exhausted }) = W at hq ⊢
          generalize r3.pending = q at k2 ⊢
          subst k2
          cases pend with
          | none => exact hq
          | some y => exact code_of_ex hq
        | _ => exact g3.elim
    refine wpIn_rangeFunc fun fn _ => ?_
    cases ro with
    | none =>
      refine main fn (w.heap.size + 1) [w.heap.size] _ _ (run_enterLoop_outer fn a.tmps params assign body) (Nat.le_succ _) (by simp) ?_ (by
        have := World.alloc_heap_new (w.alloc (.deferred (some []))) (.loop { state := .ready, pending := none, fn, tmps := a.tmps, params, assign, body, defers := w.heap.size })
        simpa using this) rfl rfl rfl (Nat.le_refl _) rfl rfl rfl rfl rfl rfl ?_ (by simp)
      · intro C hC
        rw [alloc_below _ _ _ (by simp; omega), alloc_below _ _ _ hC]
      · intro r hr
        rw [List.mem_singleton.1 hr]
        refine ⟨Nat.le_refl _, by omega, ?_⟩
        rw [alloc_below _ _ _ (by simp)]
        exact World.alloc_heap_new w _
    | some l₀ =>
      obtain ⟨r₀, hr₀⟩ := hro l₀ rfl
      exact main fn w.heap.size [] _ _ (run_enterLoop_in fn a.tmps params assign body hr₀) (Nat.le_refl _) (by simp) (fun C hC => alloc_below _ _ _ hC) (World.alloc_heap_new w _) rfl rfl rfl (Nat.le_refl _) rfl rfl rfl rfl rfl rfl (by simp) (by simp)
  · exact he.elim

theorem codeW_sound (hC : CSound P C) (hW : WSound P W) (hm : P.follows .mixedOrders = true) : ∀ (c : Code), codeOk P c = true → CodeGoodW P C W c
  | .skip, _ => by
    intro ro nd s rs e h K μ a w Q he hg hbe hbh S t r hmk hsz hro hQ
    exact wpIn_skip (hQ .normal e h a w he (Grow.refl _) hbe hbh ⟨μ, rs, S, .same_world, r, hmk⟩)
  | .region id ops d, hok => by
    intro ro nd s rs e h K μ a w Q he hg hbe hbh S t r hmk hsz hro hQ
    simp only [codeOk] at hok
    cases d with
    | true =>
      simp only [codeW] at he
      obtain ⟨e', h', h2, hk⟩ := he
      obtain ⟨b1, b2⟩ := regionA_bd hC hok hg hbe hbh h2
      refine region_draw_sound hC hm hok h2 hg hbe hbh S t.free r ?_
      rintro a' w' ⟨μ', hS, hSt, hr⟩
      exact hQ .normal e' h' a' w' hk (regionA_grow hC h2) b1 b2 ⟨μ', rs, hS, hSt, hr, hmk.step hSt⟩
    | false =>
      simp only [codeW] at he
      refine wpIn_region ?_
      have := opsW_sound hW (ro := ro) (nd := nd) (s := s) (rs := rs) (ops := ops) (Q := Q) ops.toList 0 rfl hok he hg hbe hbh S t r hmk (fun e' h' a' w' hk hgr b1 b2 hx => hQ .normal e' h' a' w' hk hgr b1 b2 hx)
      rwa [Array.length_toList, ← List.range_eq_range'] at this
  | .seq b c, hok => by
    intro ro nd s rs e h K μ a w Q he hg hbe hbh S t r hmk hsz hro hQ
    simp only [codeOk, Bool.and_eq_true] at hok
    simp only [codeW] at he
    refine wpIn_seq ?_
    refine codeW_sound hC hW hm b hok.1 _ _ s rs _ _ _ _ _ _ _ he hg hbe hbh S t r hmk hsz hro ?_
    rintro x e' h' a' w' hk hgr hb1 hb2 ⟨μ1, rs1, hS, hSt, hr, hmk1⟩
    cases x with
    | normal => exact codeW_sound hC hW hm c hok.2 _ _ s rs1 _ _ _ _ _ _ _ hk (by rw [hgr.2.1]; exact hg) hb1 hb2 hS (t.step hSt) hr hmk1 (Nat.le_trans hsz hSt.size) (hro.step hSt) (hQ.trans hgr hSt)
    | ret => exact hQ _ e' h' a' w' hk hgr hb1 hb2 ⟨μ1, rs1, hS, hSt, hr, hmk1⟩
    | exit i => exact hQ _ e' h' a' w' hk hgr hb1 hb2 ⟨μ1, rs1, hS, hSt, hr, hmk1⟩
  | .cond c x y, hok => by
    intro ro nd s rs e h K μ a w Q he hg hbe hbh S t r hmk hsz hro hQ
    simp only [codeOk, Bool.and_eq_true] at hok
    simp only [codeW] at he
    have hv := ev_rel S hg r hok.1.1
    split at he
    · rename_i h1
      rw [h1] at hv
      exact wpIn_cond_true hv.bool (codeW_sound hC hW hm x hok.1.2 _ _ s rs _ _ _ _ _ _ _ he hg hbe hbh S t r hmk hsz hro hQ)
    · rename_i h1
      rw [h1] at hv
      exact wpIn_cond_false hv.bool (codeW_sound hC hW hm y hok.2 _ _ s rs _ _ _ _ _ _ _ he hg hbe hbh S t r hmk hsz hro hQ)
    · exact he.elim
  | .block id b, hok => by
    intro ro nd s rs e h K μ a w Q he hg hbe hbh S t r hmk hsz hro hQ
    simp only [codeOk] at hok
    simp only [codeW] at he
    refine wpIn_block (codeW_sound hC hW hm b hok _ _ s rs _ _ _ _ _ _ _ he hg hbe hbh S t r hmk hsz hro ?_)
    intro x e' h' a' w' hk hgr hb1 hb2 hx
    cases x with
    | normal => exact hQ _ e' h' a' w' hk hgr hb1 hb2 hx
    | ret => exact hQ _ e' h' a' w' hk hgr hb1 hb2 hx
    | exit i =>
      have hq := hQ _ e' h' a' w' hk hgr hb1 hb2 hx
      simp only [exOf, Exit.inBlock]
      by_cases hj : i = id
      · rw [if_pos hj] at hq ⊢; exact hq
      · rw [if_neg hj] at hq ⊢; exact hq
  | .loop b, hok => by
    intro ro nd s rs e h K μ a w Q he hg hbe hbh S t r hmk hsz hro hQ
    simp only [codeOk] at hok
    simp only [codeW] at he
    exact wpIn_loop_rounds _ (iterW_good (codeW_sound hC hW hm b hok) _ he hg hbe hbh S t r hmk hsz hro hQ)
  | .exit i, _ => by
    intro ro nd s rs e h K μ a w Q he hg hbe hbh S t r hmk hsz hro hQ
    exact wpIn_exit (hQ (.exit i) e h a w he (Grow.refl _) hbe hbh ⟨μ, rs, S, .same_world, r, hmk⟩)
  | .scope b, hok => by
    intro ro nd s rs e h K μ a w Q he hg hbe hbh S t r hmk hsz hro hQ
    simp only [codeOk] at hok
    simp only [codeW] at he
    refine wpIn_scope_straight (codeW_sound hC hW hm b hok _ _ s rs _ _ _ _ _ _ _ he hg hbe hbh S t r hmk hsz hro ?_)
    intro x e' h' a' w' hk hgr hb1 hb2 hx
    have hq := hQ x e' h' a' w' hk hgr hb1 hb2 hx
    cases x <;> exact hq
  | .label _, _ => by
    intro ro nd s rs e h K μ a w Q he hg hbe hbh S t r hmk hsz hro hQ
    exact wpIn_label (hQ .normal e h a w he (Grow.refl _) hbe hbh ⟨μ, rs, S, .same_world, r, hmk⟩)
  | .ret, _ => by
    intro ro nd s rs e h K μ a w Q he hg hbe hbh S t r hmk hsz hro hQ
    exact wpIn_ret (hQ .ret e h a w he (Grow.refl _) hbe hbh ⟨μ, rs, S, .same_world, r, hmk⟩)
  | .goto _, hok => by simp [codeOk] at hok
  | .rangeFunc g ps x y, hok => range_goodW hW hok
  | .refuse _, hok => by simp [codeOk] at hok

/-- A function's body run is the function called. -/
theorem bodyW_sound (hC : CSound P C) (hW : WSound P W) (hm : P.follows .mixedOrders = true) {f : FuncId} {fn : Func} {c : Code} (hf : P.funcs[f]? = some fn) (hb : fn.body = some c) (hok : codeOk P c = true)
    {args : List Value} {h : Heap} {K : Value → Heap → Prop} (he : bodyW P C W fn args h K) (hg : P.globals.size ≤ h.n0) (hba : bdL h.next args = true) (hbh : HeapBd h)
    {μ : Mu} {w : World} {args' : List Value} (S : Sim μ h w) (t : Top μ h) (r : LRel μ args args') : Calls P f args'.toArray w (AfterW μ h w K) := by
  unfold bodyW at he
  rw [hb] at he
  simp only at he
  refine fr_calls (r := none) (n := 0) (callsIn_of_wp_marks hf hb trivial ?_ rfl)
  have hbe : bdL h.next (args ++ List.replicate (fn.ntmps - args.length) undef) = true :=
    bdL_append hba (bdL_iff.2 fun x hx => by rw [List.eq_of_mem_replicate hx]; rfl)
  have her : ERel (marksOf []) μ (args ++ List.replicate (fn.ntmps - args.length) undef) { tmps := args'.toArray ++ Array.replicate (fn.ntmps - args'.toArray.size) undef, defers := [] } := by
    refine ⟨?_, rfl⟩
    have h1 : args.length = args'.length := r.1
    simp only [Array.toList_append, Array.toList_replicate, List.size_toArray]
    rw [h1]
    exact r.append (LRel.replicate μ _ (VRel.undef μ))
  refine codeW_sound hC hW hm c hok none 0 w.heap.size [] _ _ _ _ _ _ _ he hg hbe hbh S t her ⟨by simp, by simp⟩ (Nat.le_refl _) (fun l hl => by cases hl) ?_
  rintro x e' h' a' w' hk hgr hb1 hb2 ⟨μ', rs, hS, hSt, hr, hmk⟩
  have main : ∀ v h2, resultsA P fn.results.toList e' h' = some (v, h2) → K v h2 → LeavesInM (Fr none) 0 P fn a'.tmps (AfterW μ h w K) a'.defers .returning w' := by
    intro v h2 hres hkv
    have hh := resultsA_grow hres
    subst hh
    have fin := leaves_marks (P := P) (nd := 0) (fn := fn) (a := a') (R := AfterW μ h w K) rs hS hSt hmk (fun w2 S2 St2 => by
      obtain ⟨v', h3, h4⟩ := resultsA_sound (P := P) (w := w2) S2 hr hres
      exact ⟨v', h3, v, h2, hkv, hgr, (resultsA_bd hb2 hb1 hres).1, hb2, μ', v', rfl, S2, St2, h4⟩)
    rw [hr.2]; exact fin
  cases x with
  | normal => obtain ⟨v, h2, h3, h4⟩ := hk; exact main v h2 h3 h4
  | ret => obtain ⟨v, h2, h3, h4⟩ := hk; exact main v h2 h3 h4
  | exit i => exact hk.elim

/-! Laws of the transformer. -/
theorem iterW_mono {step : Env → Heap → (Ex → Env → Heap → Prop) → Prop} (hs : ∀ e h (K K' : Ex → Env → Heap → Prop), (∀ x e h, K x e h → K' x e h) → step e h K → step e h K') :
    ∀ (n : Nat) {e : Env} {h : Heap} {K K' : Ex → Env → Heap → Prop}, (∀ x e h, K x e h → K' x e h) → iterW step n e h K → iterW step n e h K'
  | 0, _, _, _, _, _, he => he
  | n + 1, e, h, K, K', hk, he => by
    simp only [iterW] at he ⊢
    refine hs _ _ _ _ ?_ he
    intro x e' h' hx
    cases x with
    | normal => exact iterW_mono hs n hk hx
    | ret => exact hk _ _ _ hx
    | exit i => exact hk _ _ _ hx

end

end
end Go.Abs

namespace Go.Abs
noncomputable section

section
variable {P : Program} {C : CallF} {W : CallW}

/-- A round of a loop over a function. -/
def roundW (P : Program) (C : CallF) (W : CallW) (l : Nat) (args : List Value) (h : Heap) (K : Value → Heap → Prop) : Prop :=
  ∃ st p0 t0 q0 assign body, h.getB l = some (.obj (.loop st p0 t0 q0 assign body)) ∧ args.length = q0.length ∧ codeOk P assign = true ∧ codeOk P body = true ∧
    codeW P C W assign (putAll t0 (q0.zip args)) h fun x1 e1 h1 => x1 = .normal ∧ ∃ p1 t1 q1 a1 b1, h1.getB l = some (.obj (.loop .ready p1 t1 q1 a1 b1)) ∧
      codeW P C W body e1 (h1.setO l (.loop .busy p1 t1 q1 a1 b1)) fun x _ h2 => ∃ v h', endRoundA l x h2 = some (v, h') ∧ K v h'

theorem round_soundW (hC : CSound P C) (hW : WSound P W) (hm : P.follows .mixedOrders = true) {l : Nat} {args : List Value} {h : Heap} {K : Value → Heap → Prop} (he : roundW P C W l args h K) (hgl : P.globals.size ≤ h.n0)
    (hba : bdL h.next args = true) (hbh : HeapBd h) {μ : Mu} {w : World} {args' : List Value} {L : Loc} (S : Sim μ h w) (t : Top μ h) (r : LRel μ args args') (hL : μ l = some L) :
    ∃ fn tmps assign body, (Instr.yield L.blk args'.toArray).run P w = .ok (.round L.blk fn tmps assign body) w ∧ ∀ n, RoundIn (Fr none) n P L.blk fn tmps assign body w (AfterW μ h w K) := by
  obtain ⟨st, p0, t0, q0, assign, body, hg, hlen, ho1, ho2, hca⟩ := he
  obtain ⟨L0, ob, g1, g2, g3, g4, g5⟩ := S.obj l _ (h.n0_of_obj hg) hg
  rw [hL] at g1; cases g1
  cases ob with
  | loop R =>
    obtain ⟨k1, k2, k3, k4, k5, k6⟩ := g3
    have hsz : args'.toArray.size = R.params.size := by
      have h5 := r.1
      have h6 : R.params.toList.length = R.params.size := Array.length_toList
      rw [k4] at h6
      simp only [List.size_toArray]
      omega
    refine ⟨R.fn, _, R.assign, R.body, run_yield g2 hsz, fun n => ?_⟩
    rw [k5, k6]
    have hbe := bd_putAll q0 (hbh.obj _ _ hg) hba
    refine roundIn_of_wpIn (F := Fr none) trivial ?_
    refine codeW_sound hC hW hm assign ho1 (some L.blk) n w.heap.size [] _ _ _ _ _ _ _ hca hgl hbe hbh S t ?_ ⟨by simp, by simp⟩ (Nat.le_refl _) (fun l' hl' => by cases hl'; exact ⟨R, g2⟩) ?_
    · refine ⟨?_, rfl⟩
      have hfe := zipfold_set R.params args' R.tmps
      have hp := putAll_rel q0 k3 r
      rw [← k4] at hp ⊢
      rw [← hfe] at hp
      exact hp
    · rintro x1 e1 h1 a' w1 ⟨rfl, p1, t1, q1, a1, b1, hg1, hcb⟩ gr1 bd1 bd2 ⟨μ1, rs1, S1, St1, er1, mk1⟩
      have hob1 := bd2.obj _ _ hg1
      have hμ1 : μ1 l = some L := St1.mono t.free _ _ hL
      obtain ⟨L1, ob1, j1, j2, j3, j4, j5⟩ := S1.obj l _ (h1.n0_of_obj hg1) hg1
      rw [hμ1] at j1; cases j1
      cases ob1 with
      | loop R1 =>
        obtain ⟨m1, m2, m3, m4, m5, m6⟩ := j3
        refine ⟨_, run_beginRound j2 m1, ?_⟩
        obtain ⟨S2, St2⟩ := S1.setO (o' := .loop .busy p1 t1 q1 a1 b1) (ob' := .loop { R1 with state := .busy }) hg1 hμ1 ⟨rfl, m2, m3, m4, m5, m6⟩
        have top2 := (t.step St1).step St2
        refine codeW_sound hC hW hm body ho2 (some L.blk) n w.heap.size rs1 _ _ _ _ _ _ _ hcb (by rw [Heap.n0_setO, gr1.2.1]; exact hgl) (by simpa using bd1) (bd2.setO (h1.n0_of_obj hg1) hg1 hob1) S2 top2 er1 (mk1.step St2) ?_ ?_ ?_
        · have := St1.size
          simpa using this
        · intro l' hl'
          cases hl'
          exact ⟨_, World.putObj_heap_same (Array.getElem?_eq_some_iff.1 j2).1⟩
        · rintro x e2 h2 a'' w3 ⟨v, h', hend, hk⟩ gr2 bd3 bd4 ⟨μ3, rs3, S3, St3, er3, mk3⟩
          obtain ⟨s3, p3, t3, q3, a3, b3, hg3, rfl, rfl⟩ := endRoundA_some hend
          have StA := (St1.trans St2).trans St3
          have hμ3 : μ3 l = some L := StA.mono t.free _ _ hL
          obtain ⟨L3, ob3, n1, n2, n3, n4, n5⟩ := S3.obj l _ (h2.n0_of_obj hg3) hg3
          rw [hμ3] at n1; cases n1
          have hob2 := bd4.obj _ _ hg3
          have grA : Grow h (h2.setO l (.loop (if x = .normal then .ready else .done) (if x = .normal then none else some x) t3 q3 a3 b3)) := ((gr1.trans (Grow.setO _ _ _)).trans gr2).trans (Grow.setO _ _ _)
          cases ob3 with
          | loop R3 =>
            obtain ⟨o1, o2, o3, o4, o5, o6⟩ := n3
            have fin : ∀ (j : Option Code), j = (if x = .normal then none else some (exCode x)) → ∃ v w', (Instr.endRound L.blk j).run P w3 = .ok v w' ∧ AfterW μ h w K (.returned v) w' := by
              intro j hj
              refine ⟨_, _, run_endRound j n2, ?_⟩
              obtain ⟨S4, St4⟩ := S3.setO (o' := .loop (if x = .normal then .ready else .done) (if x = .normal then none else some x) t3 q3 a3 b3)
                (ob' := .loop { R3 with state := if j.isNone then .ready else .done, pending := j }) hg3 hμ3 (by
                  refine ⟨?_, ?_, o3, o4, o5, o6⟩
                  · subst hj; by_cases hx : x = .normal <;> simp [hx]
                  · subst hj; by_cases hx : x = .normal <;> simp [hx])
              refine ⟨_, _, hk, grA, rfl, bd4.setO (h2.n0_of_obj hg3) hg3 hob2, μ3, _, rfl, S4, StA.trans St4, ?_⟩
              have : j.isNone = (x == .normal) := by subst hj; by_cases hx : x = .normal <;> simp [hx]
              rw [this]
              exact .flat rfl
            cases x with
            | normal => exact fin none rfl
            | ret => exact fin (some .ret) rfl
            | exit i => exact fin (some (.exit i)) rfl
          | _ => exact n3.elim
      | _ => exact j3.elim
  | _ => exact g3.elim
end

/-! Asked by Booleans. -/
abbrev CallB := FuncId → List Value → Heap → (Value → Heap → Bool) → Bool
def WB (D : CallB) : CallW := fun f args h K => ∃ k, D f args h k = true ∧ ∀ v h', k v h' = true → K v h'
theorem WB.mono {D : CallB} {f args h} {K K' : Value → Heap → Prop} (hk : ∀ v h, K v h → K' v h) : WB D f args h K → WB D f args h K' := fun ⟨k, a, b⟩ => ⟨k, a, fun v h' e => hk _ _ (b v h' e)⟩

section
variable (P : Program) (C : CallF) (D : CallB) (n : Nat)

noncomputable def opQ (o : Oper) (ρ : Operand → Value) (h : Heap) (k : Value → Heap → Bool) : Bool :=
  match o.op with
  | .next it false => match nextsA (ρ it) h with
    | some l => l.all fun r => k r.1 r.2
    | none => false
  | .call { callee := .value f, args, .. } => match ρ f with
    | .func (.func i) first captured => match Nat.blt i P.funcs.size with
      | true => D i (first.toList ++ args.toList.map ρ ++ captured.toList) h k
      | false => false
    | .func (.yield l) first _ => D (yid P l) (first.toList ++ args.toList.map ρ) h k
    | _ => false
  | _ => match opA P noC o ρ h with
    | some (v, h') => k v h'
    | none => false

noncomputable def retQ (r : Out) (k : Value → Heap → Bool) : Bool :=
  match r with
  | some (v, h') => k v h'
  | none => false
noncomputable def nextD (str : Bool) (v : Value) (h : Heap) (k : Value → Heap → Bool) : Bool :=
  match str with
  | false => match nextsA v h with
    | some l => l.all fun r => k r.1 r.2
    | none => false
  | true => retQ (nextA v true h) k
noncomputable def callD (P : Program) (D : CallB) (c : Call) (ρ : Operand → Value) (h : Heap) (k : Value → Heap → Bool) : Bool :=
  match c.callee with
  | .builtin b => retQ (builtinA P b c.argTypes.toList (c.args.toList.map ρ) h) k
  | .value f => match ρ f with
    | .func (.func i) first captured => match Nat.blt i P.funcs.size with
      | true => D i (first.toList ++ c.args.toList.map ρ ++ captured.toList) h k
      | false => false
    | .func (.yield l) first _ => D (yid P l) (first.toList ++ c.args.toList.map ρ) h k
    | _ => false
  | .invoke _ _ => false
/-- An operation, by a bare recursor with closed cases. -/
noncomputable def opD (op : Op) : Program → CallB → (Operand → Value) → Heap → (Value → Heap → Bool) → Bool :=
  Op.rec (motive := fun _ => Program → CallB → (Operand → Value) → Heap → (Value → Heap → Bool) → Bool)
    (fun x _P _D ρ h k => k (ρ x) h)
    (fun x _P _D ρ h k => k (ρ x) h)
    (fun c a b _P _D ρ h kk => retQ (pickK (ρ c) (ρ a) (ρ b) h) kk)
    (fun t P _D _ρ h kk => retQ (zero P t h) kk)
    (fun _t x _P _D ρ h kk => retQ (box (ρ x) h) kk)
    (fun t parts P _D ρ h kk => retQ (puK (buildA P t (parts.toList.map fun (i, x) => (i, ρ x))) h) kk)
    (fun t len parts P _D ρ h kk => retQ (buildSliceA P t len (parts.toList.map fun (i, x) => (i, ρ x)) h) kk)
    (fun t m k v P _D ρ h kk => retQ (mapUpdateA P t (ρ m) (ρ k) (ρ v) h) kk)
    (fun t x P _D ρ h kk => retQ (ld P t (ρ x) h) kk)
    (fun t x v P _D ρ h kk => retQ (st P t (ρ x) (ρ v) h) kk)
    (fun _g _P _D _ρ _h _k => false)
    (fun _g _P _D _ρ _h _k => false)
    (fun x _P _D ρ h kk => retQ (puK (nilCheckA (ρ x)) h) kk)
    (fun op t x y _t P _D ρ h kk => retQ (puK (binK P op t (ρ x) (ρ y)) h) kk)
    (fun op _t x _P _D ρ h kk => retQ (puK (unA op (ρ x)) h) kk)
    (fun s d x P _D ρ h kk => retQ (convA P s d (ρ x) h) kk)
    (fun _t _x _P _D _ρ _h _k => false)
    (fun t x P _D ρ h kk => retQ (puK (ifaceA P t (ρ x)) h) kk)
    (fun f first captured _P _D ρ h kk => retQ (funcK f (first.map ρ) (captured.map ρ) h) kk)
    (fun t r P _D ρ h kk => retQ (makeMapA (r.map ρ) P t h) kk)
    (fun _t _x _P _D _ρ _h _k => false)
    (fun t l c P _D ρ h kk => retQ (makeA P t (ρ l) (ρ c) h) kk)
    (fun t x lo hi mx P _D ρ h kk => retQ (puK (sliceA P t (ρ x) (lo.map ρ) (hi.map ρ) (mx.map ρ)) h) kk)
    (fun t x i P _D ρ h kk => retQ (puK (fieldAtA P t (ρ x) i) h) kk)
    (fun t x i P _D ρ h kk => retQ (puK (fieldA P t (ρ x) i) h) kk)
    (fun t x i P _D ρ h kk => retQ (puK (indexAtA P t (ρ x) (ρ i)) h) kk)
    (fun t x i P _D ρ h kk => retQ (puK (indexA P t (ρ x) (ρ i)) h) kk)
    (fun t x k ok P _D ρ h kk => retQ (lookupA P t (ρ x) (ρ k) ok h) kk)
    (fun t m k v P _D ρ h kk => retQ (mapUpdateA P t (ρ m) (ρ k) (ρ v) h) kk)
    (fun t m k P _D ρ h kk => retQ (mapEntryA P t (ρ m) (ρ k) h) kk)
    (fun _t m s v _P _D ρ h kk => retQ (entryStoreA (ρ m) (ρ s) (ρ v) h) kk)
    (fun t x P _D ρ h kk => retQ (rangeA P t (ρ x) h) kk)
    (fun it str _P _D ρ h k => nextD str (ρ it) h k)
    (fun it _P _D ρ h kk => retQ (entryA (ρ it) h) kk)
    (fun x _t t ok P _D ρ h kk => retQ (puK (assertA P t ok (ρ x)) h) kk)
    (fun t i _P _D ρ h kk => retQ (puK (extractA (ρ t) i) h) kk)
    (fun c P D ρ h k => callD P D c ρ h k)
    (fun _c _P _D _ρ _h _k => false)
    (fun _c _P _D _ρ _h _k => false)
    (fun _x _P _D _ρ _h _k => false)
    (fun _a _b _P _D _ρ _h _k => false)
    (fun _t _c _b _P _D _ρ _h _k => false)
    (fun _a _b _P _D _ρ _h _k => false)
    op
theorem opD_eq (o : Oper) (ρ : Operand → Value) (h : Heap) (k : Value → Heap → Bool) : opD o.op P D ρ h k = opQ P D o ρ h k := by
  obtain ⟨dst, op, type, pos, after, guard⟩ := o
  cases op
  case binOp op t x y z =>
    show retQ (puK (binK P op t (ρ x) (ρ y)) h) k = _
    rw [binK_eq]; rfl
  case makeFunc f first captured => cases f <;> rfl
  case next it str => cases str <;> rfl
  case call c =>
    cases c with
    | mk callee => cases callee <;> rfl
  all_goals rfl

theorem opQ_sound {o : Oper} {ρ : Operand → Value} {h : Heap} {k : Value → Heap → Bool} (e : opQ P D o ρ h k = true) : opW P (WB D) o ρ h fun v h' => k v h' = true := by
  unfold opQ at e
  unfold opW
  split at e
  · rename_i it heq
    simp only [heq]
    split at e
    · rename_i l hl
      exact ⟨l, hl, fun r hr => List.all_eq_true.1 e r hr⟩
    · cases e
  · rename_i f args tys heq
    simp only [heq]
    unfold callAW
    split at e
    · rename_i i first captured hfe
      rw [hfe]
      split at e
      · rename_i hi
        exact ⟨by simpa using hi, k, e, fun v h' hk => hk⟩
      · cases e
    · rename_i l first c hfe
      rw [hfe]
      exact ⟨k, e, fun v h' hk => hk⟩
    · cases e
  · rename_i hn1 hn2
    split at e
    · rename_i v h' ho
      split
      · rename_i it heq; exact absurd heq (hn1 it)
      · rename_i f args tys heq; exact absurd heq (hn2 f args tys)
      · exact ⟨v, h', ho, e⟩
    · cases e

noncomputable def opsQ (ops : Array Oper) (os : List Oper) : VT → Heap → (VT → Heap → Bool) → Bool :=
  List.rec (motive := fun _ => VT → Heap → (VT → Heap → Bool) → Bool) (fun t h k => k t h)
    (fun o _ ih t h k =>
      match o.guard with
      | none => opD o.op P D (evT n t) h fun v h' => ih (setT n t o.dst v) h' k
      | some (j, want) => match yieldT n ops t j == some want with
        | true => opD o.op P D (evT n t) h fun v h' => ih (setT n t o.dst v) h' k
        | false => ih (setT n t o.dst undef) h k) os

theorem opW_mono {D : CallB} {o ρ h} {K K' : Value → Heap → Prop} (hk : ∀ v h, K v h → K' v h) (he : opW P (WB D) o ρ h K) : opW P (WB D) o ρ h K' := by
  unfold opW at he ⊢
  split at he
  · obtain ⟨l, h1, h2⟩ := he; exact ⟨l, h1, fun r hr => hk _ _ (h2 r hr)⟩
  · unfold callAW at he ⊢
    split at he
    · exact ⟨he.1, WB.mono hk he.2⟩
    · exact WB.mono hk he
    · exact he
  · obtain ⟨v, h', h1, h2⟩ := he; exact ⟨v, h', h1, hk _ _ h2⟩

theorem opsQ_sound (ops : Array Oper) : ∀ (os : List Oper) {t : VT} {e : Env} {h : Heap} {k : VT → Heap → Bool}, Rep n t e → opsQ P D n ops os t h k = true →
    opsW P (WB D) ops os e h fun e' h' => ∃ t', Rep n t' e' ∧ k t' h' = true
  | [], t, e, h, k, r, he => ⟨t, r, he⟩
  | o :: os, t, e, h, k, r, he => by
    have ih := @opsQ_sound ops os
    have he : (match o.guard with
      | none => opD o.op P D (evT n t) h fun v h' => opsQ P D n ops os (setT n t o.dst v) h' k
      | some (j, want) => match yieldT n ops t j == some want with
        | true => opD o.op P D (evT n t) h fun v h' => opsQ P D n ops os (setT n t o.dst v) h' k
        | false => opsQ P D n ops os (setT n t o.dst undef) h k) = true := he
    simp only [opD_eq] at he
    unfold opsW wantA
    cases hg : o.guard with
    | none =>
      rw [hg] at he
      simp only [if_true] at he ⊢
      rw [r.ev]
      exact opW_mono P (fun v h' hk => ih (r.put o.dst v) hk) (opQ_sound P D he)
    | some g =>
      obtain ⟨j, want⟩ := g
      rw [hg] at he
      simp only at he ⊢
      rw [← r.yield] at he
      by_cases hy : (yieldA ops e j == some want) = true
      · rw [hy] at he
        rw [if_pos hy, r.ev]
        exact opW_mono P (fun v h' hk => ih (r.put o.dst v) hk) (opQ_sound P D he)
      · rw [if_neg hy]
        rw [Bool.not_eq_true] at hy
        rw [hy] at he
        exact ih (r.put o.dst undef) he

noncomputable def regionQ (ops : Array Oper) (draw : Bool) (t : VT) (h : Heap) (k : VT → Heap → Bool) : Bool :=
  match draw with
  | false => opsQ P D n ops ops.toList t h k
  | true => match regionF P C n ops true t h (fun t h => match k t h with | true => some () | false => none) with
    | some _ => true
    | none => false

noncomputable def condQ (v : Value) (a b : Bool) : Bool :=
  match v with
  | .bool true => a
  | .bool false => b
  | _ => false
noncomputable def leaveQ (id i : Nat) (k x : Bool) : Bool := Bool.rec (motive := fun _ => Bool) x k (Nat.beq i id)
noncomputable def loopQ (b : VT → Heap → (VT → Heap → Bool) → Bool) (fuel : Nat) : VT → Heap → Bool :=
  Nat.rec (motive := fun _ => VT → Heap → Bool) (fun _ _ => false) (fun _ ih t h => b t h ih) fuel

noncomputable def cameQ (l : Nat) (t : VT) (h2 : Heap) (k r : VT → Heap → Bool) (x : Nat → VT → Heap → Bool) : Bool :=
  match endLoopA l [] h2 with
  | some (.normal, _, h') => k t h'
  | some (.ret, _, h') => r t h'
  | some (.exit i, _, h') => x i t h'
  | none => false

noncomputable def codeQ (fuel : Nat) (c : Code) : VT → Heap → (VT → Heap → Bool) → (VT → Heap → Bool) → (Nat → VT → Heap → Bool) → Bool :=
  Code.rec (motive := fun _ => VT → Heap → (VT → Heap → Bool) → (VT → Heap → Bool) → (Nat → VT → Heap → Bool) → Bool)
    (fun t h k _ _ => k t h)
    (fun _ ops draw t h k _ _ => regionQ P C D n ops draw t h k)
    (fun _ _ ia ib t h k r x => ia t h (fun t' h' => ib t' h' k r x) r x)
    (fun q _ _ ia ib t h k r x => condQ (evT n t q) (ia t h k r x) (ib t h k r x))
    (fun id _ ib t h k r x => ib t h k r (fun i t' h' => leaveQ id i (k t' h') (x i t' h')))
    (fun _ ib t h _ r x => loopQ (fun t h k => ib t h k r x) fuel t h)
    (fun g ps a b _ _ t h k r x => match evT n t g with
      | .func (.func i) first captured => match hasBody P i with
        | true => D i (first.toList ++ [.func (.yield h.next) #[] #[]] ++ captured.toList) (h.allocB (.obj (.loop .ready none (toL n t) ps.toList a b))) fun _ h2 => cameQ h.next t h2 k r x
        | false => false
      | _ => false)
    (fun i t h _ _ x => x i t h)
    (fun _ ib t h k r x => ib t h k r x)
    (fun _ t h k _ _ => k t h)
    (fun _ _ _ _ _ _ => false)
    (fun t h _ r _ => r t h)
    (fun _ _ _ _ _ _ => false) c

def CameQ (k r : VT → Heap → Bool) (x : Nat → VT → Heap → Bool) (n : Nat) (ex : Ex) (e : Env) (h : Heap) : Prop :=
  ∃ t, Rep n t e ∧ match ex with
  | .normal => k t h = true
  | .ret => r t h = true
  | .exit i => x i t h = true

theorem opsW_monoB {ops : Array Oper} : ∀ (l : List Oper) {e h} {K K' : Env → Heap → Prop}, (∀ e h, K e h → K' e h) → opsW P (WB D) ops l e h K → opsW P (WB D) ops l e h K'
  | [], e, h, K, K', hk, he => hk _ _ he
  | o :: l, e, h, K, K', hk, he => by
    simp only [opsW] at he ⊢
    split at he
    · rename_i hw; rw [if_pos hw]; exact opW_mono P (fun v h => opsW_monoB l hk) he
    · rename_i hw; rw [if_neg hw]; exact opsW_monoB l hk he

theorem codeW_monoB : ∀ (c : Code) {e : Env} {h : Heap} {K K' : Ex → Env → Heap → Prop}, (∀ x e h, K x e h → K' x e h) → codeW P C (WB D) c e h K → codeW P C (WB D) c e h K' := by
  intro c
  induction c with
  | skip => intro e h K K' hk he; exact hk _ _ _ he
  | region id ops d =>
    intro e h K K' hk he
    cases d with
    | true => obtain ⟨e', h', h1, h2⟩ := he; exact ⟨e', h', h1, hk _ _ _ h2⟩
    | false => exact opsW_monoB P D _ (fun e h => hk _ e h) he
  | seq a b iha ihb =>
    intro e h K K' hk he
    refine iha ?_ he
    intro x e h hx
    cases x with
    | normal => exact ihb hk hx
    | ret => exact hk _ _ _ hx
    | exit i => exact hk _ _ _ hx
  | cond q a b iha ihb =>
    intro e h K K' hk he
    simp only [codeW] at he ⊢
    split at he
    · exact iha hk he
    · exact ihb hk he
    · exact he
  | block id b ih =>
    intro e h K K' hk he
    refine ih ?_ he
    intro x e h hx
    cases x <;> exact hk _ _ _ hx
  | loop b ih =>
    intro e h K K' hk he
    simp only [codeW] at he ⊢
    exact iterW_mono (step := codeW P C (WB D) b) (fun e h K K' hk he => ih hk he) rounds hk he
  | rangeFunc g ps a b _ _ =>
    intro e h K K' hk he
    simp only [codeW] at he ⊢
    split at he
    · refine ⟨he.1, WB.mono ?_ he.2⟩
      rintro v h2 ⟨x, e', h', a1, a2⟩
      exact ⟨x, e', h', a1, hk _ _ _ a2⟩
    · exact he
  | exit i => intro e h K K' hk he; exact hk _ _ _ he
  | scope b ih => intro e h K K' hk he; exact ih hk he
  | label l => intro e h K K' hk he; exact hk _ _ _ he
  | goto l => intro e h K K' hk he; exact he
  | ret => intro e h K K' hk he; exact hk _ _ _ he
  | refuse s => intro e h K K' hk he; exact he

theorem codeQ_sound (fuel : Nat) (hfuel : fuel ≤ rounds) : ∀ (c : Code) {t : VT} {e : Env} {h : Heap} {k r : VT → Heap → Bool} {x : Nat → VT → Heap → Bool}, Rep n t e → codeQ P C D n fuel c t h k r x = true →
    codeW P C (WB D) c e h (CameQ k r x n)
  | .skip, t, e, h, k, r, x, hr, he => ⟨t, hr, he⟩
  | .region _ ops d, t, e, h, k, r, x, hr, he => by
    have he : regionQ P C D n ops d t h k = true := he
    unfold regionQ at he
    cases d with
    | false => exact opsQ_sound P D n ops _ hr he
    | true =>
      simp only at he
      split at he
      · rename_i u hu
        obtain ⟨e', h', t', h1, h2, h3⟩ := regionF_sound P C n ops true hr hu
        refine ⟨e', h', h1, t', h2, ?_⟩
        simp only at h3 ⊢
        cases hk : k t' h' with
        | true => rfl
        | false => rw [hk] at h3; cases h3
      · cases he
  | .seq c d, t, e, h, k, r, x, hr, he => by
    refine codeW_monoB P C D c ?_ (codeQ_sound fuel hfuel c (k := fun t' h' => codeQ P C D n fuel d t' h' k r x) hr he)
    rintro ex e' h' ⟨t', hr', hc⟩
    cases ex with
    | normal => exact codeQ_sound fuel hfuel d hr' hc
    | ret => exact ⟨t', hr', hc⟩
    | exit i => exact ⟨t', hr', hc⟩
  | .cond q c d, t, e, h, k, r, x, hr, he => by
    have he : condQ (evT n t q) (codeQ P C D n fuel c t h k r x) (codeQ P C D n fuel d t h k r x) = true := he
    unfold condQ at he
    simp only [codeW]
    rw [hr.ev]
    split at he
    · rename_i hv; rw [hv]; exact codeQ_sound fuel hfuel c hr he
    · rename_i hv; rw [hv]; exact codeQ_sound fuel hfuel d hr he
    · cases he
  | .block id b, t, e, h, k, r, x, hr, he => by
    refine codeW_monoB P C D b ?_ (codeQ_sound fuel hfuel b (x := fun i t' h' => leaveQ id i (k t' h') (x i t' h')) hr he)
    rintro ex e' h' ⟨t', hr', hc⟩
    cases ex with
    | normal => exact ⟨t', hr', hc⟩
    | ret => exact ⟨t', hr', hc⟩
    | exit i =>
      simp only [leaveQ] at hc
      cases hb : Nat.beq i id with
      | true => rw [hb] at hc; simp only; rw [if_pos (Nat.eq_of_beq_eq_true hb)]; exact ⟨t', hr', hc⟩
      | false => rw [hb] at hc; simp only; rw [if_neg (Nat.ne_of_beq_eq_false hb)]; exact ⟨t', hr', hc⟩
  | .loop b, t, e, h, k, r, x, hr, he => by
    have he : loopQ (fun t h k => codeQ P C D n fuel b t h k r x) fuel t h = true := he
    have main : ∀ (f m : Nat) (t : VT) (e : Env) (h : Heap), f ≤ m → Rep n t e → loopQ (fun t h k => codeQ P C D n fuel b t h k r x) f t h = true → iterW (codeW P C (WB D) b) m e h (CameQ k r x n) := by
      intro f
      induction f with
      | zero => intro m t e h _ _ he; cases he
      | succ f ih =>
        intro m t e h hm hr he
        obtain ⟨m, rfl⟩ : ∃ m', m = m' + 1 := ⟨m - 1, by omega⟩
        simp only [iterW]
        refine codeW_monoB P C D b ?_ (codeQ_sound fuel hfuel b (k := fun t h => loopQ (fun t h k => codeQ P C D n fuel b t h k r x) f t h) hr he)
        rintro ex e' h' ⟨t', hr', hc⟩
        cases ex with
        | normal => exact ih m t' e' h' (by omega) hr' hc
        | ret => exact ⟨t', hr', hc⟩
        | exit i => exact ⟨t', hr', hc⟩
    simp only [codeW]
    exact main fuel rounds t e h hfuel hr he
  | .exit i, t, e, h, k, r, x, hr, he => ⟨t, hr, he⟩
  | .scope b, t, e, h, k, r, x, hr, he => by
    simp only [codeW]
    exact codeQ_sound fuel hfuel b hr he
  | .label _, t, e, h, k, r, x, hr, he => ⟨t, hr, he⟩
  | .ret, t, e, h, k, r, x, hr, he => ⟨t, hr, he⟩
  | .goto _, t, e, h, k, r, x, hr, he => by cases he
  | .rangeFunc g ps a b, t, e, h, k, r, x, hr, he => by
    have he : (match evT n t g with
      | .func (.func i) first captured => match hasBody P i with
        | true => D i (first.toList ++ [.func (.yield h.next) #[] #[]] ++ captured.toList) (h.allocB (.obj (.loop .ready none (toL n t) ps.toList a b))) fun _ h2 => cameQ h.next t h2 k r x
        | false => false
      | _ => false) = true := he
    simp only [codeW]
    rw [hr.ev]
    split at he
    · rename_i i first captured hev
      rw [hev]
      split at he
      · rename_i hb
        rw [hr.toL] at he
        refine ⟨hb, _, he, ?_⟩
        intro v h2 hc
        unfold cameQ at hc
        split at hc
        · rename_i e0 h' hl
          obtain ⟨st, pend, tm, p, as, bo, g1, g2, g3, g4, g5⟩ := endLoopA_some hl
          refine ⟨.normal, e, h', ?_, t, hr, hc⟩
          unfold endLoopA at hl ⊢
          rw [g1] at hl ⊢
          simp only [if_neg g2, Option.some.injEq, Prod.mk.injEq] at hl ⊢
          exact ⟨hl.1, trivial, hl.2.2⟩
        · rename_i e0 h' hl
          obtain ⟨st, pend, tm, p, as, bo, g1, g2, g3, g4, g5⟩ := endLoopA_some hl
          refine ⟨.ret, e, h', ?_, t, hr, hc⟩
          unfold endLoopA at hl ⊢
          rw [g1] at hl ⊢
          simp only [if_neg g2, Option.some.injEq, Prod.mk.injEq] at hl ⊢
          exact ⟨hl.1, trivial, hl.2.2⟩
        · rename_i i e0 h' hl
          obtain ⟨st, pend, tm, p, as, bo, g1, g2, g3, g4, g5⟩ := endLoopA_some hl
          refine ⟨.exit i, e, h', ?_, t, hr, hc⟩
          unfold endLoopA at hl ⊢
          rw [g1] at hl ⊢
          simp only [if_neg g2, Option.some.injEq, Prod.mk.injEq] at hl ⊢
          exact ⟨hl.1, trivial, hl.2.2⟩
        · cases hc
      · cases he
    · cases he
  | .refuse _, t, e, h, k, r, x, hr, he => by cases he
end

noncomputable def resQ (P : Program) (n : Nat) (rs : List ResultVar) (k : Value → Heap → Bool) (t : VT) (h : Heap) : Bool :=
  match resultsA P rs (toL n t) h with
  | some (v, h') => k v h'
  | none => false

noncomputable def bodyQ (P : Program) (C : CallF) (D : CallB) (fuel : Nat) (fn : Func) (args : List Value) (h : Heap) (k : Value → Heap → Bool) : Bool :=
  match fn.body with
  | none => false
  | some c => match Nat.ble args.length fn.ntmps with
    | true => codeQ P C D fn.ntmps fuel c (treeOf fn.ntmps args) h (resQ P fn.ntmps fn.results.toList k) (resQ P fn.ntmps fn.results.toList k) (fun _ _ _ => false)
    | false => false

theorem bodyQ_sound (P : Program) (C : CallF) (D : CallB) (fuel : Nat) (hfuel : fuel ≤ rounds) {fn : Func} {args : List Value} {h : Heap} {k : Value → Heap → Bool} (he : bodyQ P C D fuel fn args h k = true) : bodyW P C (WB D) fn args h fun v h' => k v h' = true := by
  unfold bodyQ at he
  unfold bodyW
  cases hb : fn.body with
  | none => rw [hb] at he; cases he
  | some c =>
    rw [hb] at he
    simp only at he ⊢
    cases hn : Nat.ble args.length fn.ntmps with
    | false => rw [hn] at he; cases he
    | true =>
      rw [hn] at he
      refine codeW_monoB P C D c ?_ (codeQ_sound P C D fn.ntmps fuel hfuel c (rep_args _ args (Nat.le_of_ble_eq_true hn)) he)
      have res : ∀ {t' : VT} {e' : Env} {h' : Heap}, Rep fn.ntmps t' e' → resQ P fn.ntmps fn.results.toList k t' h' = true → ∃ v h2, resultsA P fn.results.toList e' h' = some (v, h2) ∧ k v h2 = true := by
        intro t' e' h' hr hq
        unfold resQ at hq
        rw [hr.toL] at hq
        split at hq
        · rename_i v h2 hx; exact ⟨v, h2, hx, hq⟩
        · cases hq
      rintro ex e' h' ⟨t', hr, hc⟩
      cases ex with
      | normal => exact res hr hc
      | ret => exact res hr hc
      | exit i => cases hc

noncomputable def roundQ (P : Program) (C : CallF) (D : CallB) (fuel : Nat) (l : Nat) (args : List Value) (h : Heap) (k : Value → Heap → Bool) : Bool :=
  match h.getB l with
  | some (.obj (.loop _ _ tmps params assign body)) =>
    match Nat.beq args.length params.length && (codeOk P assign && codeOk P body) with
    | true => codeQ P C D tmps.length fuel assign (treeOf tmps.length (putAll tmps (params.zip args))) h
        (fun t h1 => match h1.getB l with
          | some (.obj (.loop .ready p1 t1 q1 a1 b1)) => codeQ P C D tmps.length fuel body t (h1.setO l (.loop .busy p1 t1 q1 a1 b1)) (fun _ h2 => endQ l .normal h2 k) (fun _ h2 => endQ l .ret h2 k) (fun i _ h2 => endQ l (.exit i) h2 k)
          | _ => false) (fun _ _ => false) (fun _ _ _ => false)
    | false => false
  | _ => false
where
  endQ (l : Nat) (x : Ex) (h : Heap) (k : Value → Heap → Bool) : Bool := match endRoundA l x h with
    | some (v, h') => k v h'
    | none => false

theorem roundQ_sound (P : Program) (C : CallF) (D : CallB) (fuel : Nat) (hfuel : fuel ≤ rounds) {l : Nat} {args : List Value} {h : Heap} {k : Value → Heap → Bool} (he : roundQ P C D fuel l args h k = true) : roundW P C (WB D) l args h fun v h' => k v h' = true := by
  unfold roundQ at he
  split at he
  · rename_i st p0 tmps params assign body hg
    split at he
    · rename_i hb
      rw [Bool.and_eq_true, Bool.and_eq_true] at hb
      refine ⟨st, p0, tmps, params, assign, body, hg, Nat.eq_of_beq_eq_true hb.1, hb.2.1, hb.2.2, ?_⟩
      have hrep : Rep tmps.length (treeOf tmps.length (putAll tmps (params.zip args))) (putAll tmps (params.zip args)) := by
        have := rep_of (putAll tmps (params.zip args))
        rw [length_putAll] at this
        exact this
      refine codeW_monoB P C D assign ?_ (codeQ_sound P C D _ fuel hfuel assign hrep he)
      rintro ex e1 h1 ⟨t1, hr1, c1⟩
      cases ex with
      | ret => cases c1
      | exit i => cases c1
      | normal =>
        refine ⟨rfl, ?_⟩
        simp only at c1
        split at c1
        · rename_i p1 t1' q1 a1 b1 hg1
          refine ⟨p1, t1', q1, a1, b1, hg1, codeW_monoB P C D body ?_ (codeQ_sound P C D _ fuel hfuel body hr1 c1)⟩
          rintro ex2 e2 h2 ⟨t2, hr2, c2⟩
          have fin : ∀ y, roundQ.endQ l y h2 k = true → ∃ v h', endRoundA l y h2 = some (v, h') ∧ k v h' = true := by
            intro y hy
            unfold roundQ.endQ at hy
            split at hy
            · rename_i v h' hv; exact ⟨v, h', hv, hy⟩
            · cases hy
          cases ex2 with
          | normal => exact fin _ c2
          | ret => exact fin _ c2
          | exit i => exact fin _ c2
        · cases c1
    · cases he
  · cases he

/-- Calls by fuel: each outcome is asked. -/
noncomputable def callQ (P : Program) (ok : FuncId → Bool) (X : CallF) (sm : FuncId → Bool) (fuel : Nat) (m : Nat) : CallB :=
  Nat.rec (motive := fun _ => CallB) (fun _ _ _ _ => false)
    (fun j ih f args h k =>
      match sm f with
      | true => match X f args h with
        | some (v, h') => k v h'
        | none => false
      | false => match ok f with
        | true => match Nat.ble P.globals.size h.n0 with
          | true => match P.funcs[f]? with
            | some fn => bodyQ P (callF P ok X sm fuel j) ih fuel fn args h k
            | none => false
          | false => false
        | false => match Nat.ble P.funcs.size f && Nat.ble P.globals.size h.n0 with
          | true => roundQ P (callF P ok X sm fuel j) ih fuel (f - P.funcs.size) args h k
          | false => false) m

theorem callQ_sound {P : Program} {ok : FuncId → Bool} {X : CallF} {sm : FuncId → Bool} {fuel : Nat} (hX : CSound P X) (hfuel : fuel ≤ rounds) (hm : P.follows .mixedOrders = true) (hok : ∀ f fn, ok f = true → P.funcs[f]? = some fn → fnOk P fn = true) :
    ∀ k, WSound P (WB (callQ P ok X sm fuel k))
  | 0 => ⟨(by rintro f args h K ⟨k, e, _⟩; cases e), (by rintro f args h K ⟨k, e, _⟩; cases e)⟩
  | j + 1 => by
    have ih := callQ_sound (sm := sm) hX hfuel hm hok j
    have hC := callF_sound (sm := sm) hX hfuel hm hok j
    have key : ∀ {f args h} {k : Value → Heap → Bool}, callQ P ok X sm fuel (j + 1) f args h k = true → (∃ v h', X f args h = some (v, h') ∧ k v h' = true) ∨
        (∃ fn, P.funcs[f]? = some fn ∧ fnOk P fn = true ∧ P.globals.size ≤ h.n0 ∧ bodyW P (callF P ok X sm fuel j) (WB (callQ P ok X sm fuel j)) fn args h fun v h' => k v h' = true) ∨
        (P.funcs.size ≤ f ∧ P.globals.size ≤ h.n0 ∧ roundW P (callF P ok X sm fuel j) (WB (callQ P ok X sm fuel j)) (f - P.funcs.size) args h fun v h' => k v h' = true) := by
      intro f args h k he
      have he : (match sm f with
      | true => match X f args h with
        | some (v, h') => k v h'
        | none => false
      | false => match ok f with
        | true => match Nat.ble P.globals.size h.n0 with
          | true => match P.funcs[f]? with
            | some fn => bodyQ P (callF P ok X sm fuel j) (callQ P ok X sm fuel j) fuel fn args h k
            | none => false
          | false => false
        | false => match Nat.ble P.funcs.size f && Nat.ble P.globals.size h.n0 with
          | true => roundQ P (callF P ok X sm fuel j) (callQ P ok X sm fuel j) fuel (f - P.funcs.size) args h k
          | false => false) = true := he
      cases h0 : sm f with
      | true =>
        rw [h0] at he
        simp only at he
        split at he
        · rename_i v h' hx; exact .inl ⟨v, h', hx, he⟩
        · cases he
      | false =>
        rw [h0] at he
        cases h1 : ok f with
        | false =>
          rw [h1] at he
          cases h2 : (Nat.ble P.funcs.size f && Nat.ble P.globals.size h.n0) with
          | false => rw [h2] at he; cases he
          | true =>
            rw [h2] at he
            rw [Bool.and_eq_true] at h2
            exact .inr (.inr ⟨Nat.le_of_ble_eq_true h2.1, Nat.le_of_ble_eq_true h2.2, roundQ_sound P _ _ fuel hfuel he⟩)
        | true =>
          rw [h1] at he
          cases h2 : Nat.ble P.globals.size h.n0 with
          | false => rw [h2] at he; cases he
          | true =>
            rw [h2] at he
            cases h3 : P.funcs[f]? with
            | none => simp only [h3] at he; cases he
            | some fn =>
              simp only [h3] at he
              exact .inr (.inl ⟨fn, rfl, hok f fn h1 h3, Nat.le_of_ble_eq_true h2, bodyQ_sound P _ _ fuel hfuel he⟩)
    have up : ∀ {μ h w} {k : Value → Heap → Bool} {K : Value → Heap → Prop}, (∀ v h', k v h' = true → K v h') → ∀ e w', AfterW μ h w (fun v h' => k v h' = true) e w' → AfterW μ h w K e w' := by
      rintro μ h w k K hk e w' ⟨v, h', a, b⟩
      exact ⟨v, h', hk _ _ a, b⟩
    refine ⟨?_, ?_⟩
    · rintro f args h K ⟨k, he, hk⟩ hf hb hh hg μ w args' S t r
      rcases key he with ⟨v, h', h1, h2⟩ | ⟨fn, h1, h2, h3, h4⟩ | ⟨h1, _⟩
      · exact ((ofC_sound hX).run f args h (fun v h' => k v h' = true) ⟨v, h', h1, h2⟩ hf hb hh hg μ w args' S t r).mono (up hk)
      · cases hbd : fn.body with
        | none => unfold bodyW at h4; rw [hbd] at h4; exact h4.elim
        | some c =>
          have h2' := h2
          unfold fnOk at h2'
          rw [hbd, Bool.and_eq_true, Bool.not_eq_true'] at h2'
          exact .inl ⟨fn, h1, h2'.1, by rw [hbd]; rfl, (bodyW_sound hC ih hm h1 hbd h2'.2 h4 hg hb hh S t r).mono (up hk)⟩
      · exact absurd hf (Nat.not_lt.2 h1)
    · rintro l args h K ⟨k, he, hk⟩ hb hh hg μ w args' L S t r hL
      rcases key he with ⟨v, h', h1, h2⟩ | ⟨fn, h1, _⟩ | ⟨_, _, h2⟩
      · obtain ⟨fn, tmps, as, bo, h3, h4⟩ := (ofC_sound hX).round l args h (fun v h' => k v h' = true) ⟨v, h', h1, h2⟩ hb hh hg μ w args' L S t r hL
        exact ⟨fn, tmps, as, bo, h3, fun n => (h4 n).mono (up hk)⟩
      · exact absurd (Array.getElem?_eq_some_iff.1 h1).1 (Nat.not_lt.2 (Nat.le_add_right _ _))
      · rw [show yid P l - P.funcs.size = l from Nat.add_sub_cancel_left _ _] at h2
        obtain ⟨fn, tmps, as, bo, h3, h4⟩ := round_soundW hC ih hm h2 hg hb hh S t r hL
        exact ⟨fn, tmps, as, bo, h3, fun n => (h4 n).mono (up hk)⟩

/-- The heap of a run that begins with package variables alone. -/
def bareG (P : Program) (D : Nat → Option (List Value)) : Heap := ⟨P.globals.size, D, .nil, 0⟩

/-- What a function without arguments answers, where package variables have the values told, is one value, whatever the outcomes on the way. -/
theorem Contract.closedQ {P : Program} {W : CallW} (hW : WSound P W) {f : FuncId} (hf : f < P.funcs.size) {v : Value} (hv : flat v = true) (D : Nat → Option (List Value)) (hD : ∀ b cs, D b = some cs → flatAll cs = true)
    (hr : W f [] (bareG P D) fun v' _ => v' = v) (s : List Value → Heap → Out) (hs : ∀ args h r, s args h = some r → args = [] ∧ r = (v, h) ∧ ∀ b cs, b < P.globals.size → D b = some cs → h.get b = some cs) : Contract P f s := by
  have hgetB : ∀ b, P.globals.size ≤ b → (bareG P D).getB b = none := by
    intro b hb
    simp only [Heap.getB_eq]; unfold bareG
    simp only [Nat.add_zero]
    rw [if_neg (by omega), if_neg (by omega)]
  have hbd : HeapBd (bareG P D) := by
    refine ⟨?_, ?_⟩
    · intro b k hk
      have hk := Heap.getB_of_get _ hk
      by_cases hb : P.globals.size ≤ b
      · rw [hgetB b hb] at hk; cases hk
      · rw [Heap.getB_eq] at hk; unfold bareG at hk
        simp only at hk
        rw [if_pos (by omega)] at hk
        cases hd : D b with
        | none => rw [hd] at hk; cases hk
        | some cs =>
          rw [hd] at hk
          cases hk
          exact bdL_flat (hD b _ hd)
    · intro b o hk
      rw [hgetB b (Heap.n0_of_obj (h := bareG P D) hk)] at hk
      cases hk
  refine ⟨hf, ?_, ?_, ?_⟩
  · intro args h v' h' e
    obtain ⟨_, h2, _⟩ := hs _ _ _ e
    cases h2
    exact Grow.refl _
  · intro args h v' h' e _ hb
    obtain ⟨_, h2, _⟩ := hs _ _ _ e
    cases h2
    exact ⟨bdV_flat hv, hb⟩
  · intro args h v' h' e _ hbh hg μ w args' S hfr r
    obtain ⟨rfl, h2, hglob⟩ := hs _ _ _ e
    cases h2
    have ha : args' = [] := List.length_eq_zero_iff.1 r.1.symm
    subst ha
    have S0 : Sim (μ.cut P.globals.size) (bareG P D) w := by
      refine ⟨?_, ?_, ?_, ?_, Nat.le_trans hg S.size, ?_⟩
      · intro b cs hb hc
        have hb' : b < P.globals.size := hb
        have hgt := hglob b cs hb' hc
        have hold : h.old b = some cs := by
          unfold Heap.get at hgt; simp only [Heap.getB_eq] at hgt
          rw [if_pos (Nat.lt_of_lt_of_le hb' hg)] at hgt
          cases ho : h.old b with
          | none => rw [ho] at hgt; cases hgt
          | some c => rw [ho] at hgt; exact hgt
        obtain ⟨L, arr, T, fr, h2, h3, h4, h5, h6⟩ := S.old b cs (Nat.lt_of_lt_of_le hb' hg) hold
        refine ⟨L, arr, T, fr, Mu.cut_some h2 hb', h3, h4, h5, ?_⟩
        have hfl := hD b cs hc
        refine ⟨h6.1, fun i x y hx hy hh => ?_⟩
        have := h6.2 i x y hx hy hh
        have hxf := List.all_eq_true.1 hfl x (List.mem_of_getElem? hx)
        rw [this.flat_eq hxf]
        exact .flat hxf
      · intro b k hb hk; have := Heap.getB_of_get _ hk; rw [hgetB b hb] at this; cases this
      · intro b k hb hk; rw [hgetB b hb] at hk; cases hk
      · intro b b' k k' L L' hb _ _ hk; rw [hgetB b hb] at hk; cases hk
      · intro b hb
        obtain ⟨L, h2, h3⟩ := S.low b (Nat.lt_of_lt_of_le hb hg)
        exact ⟨L, Mu.cut_some h2 hb, h3⟩
    have hno : ∀ B, ¬ Own (μ.cut P.globals.size) (bareG P D) B := by
      rintro B ⟨b, k, L, hb, hk, _⟩
      rw [hgetB b hb] at hk; cases hk
    have ht : Top (μ.cut P.globals.size) (bareG P D) := fun b hb => by
      have : ¬ b < P.globals.size := Nat.not_lt.2 hb
      simp [Mu.cut, this]
    refine (hW.run _ _ _ _ hr hf rfl hbd (Nat.le_refl _) (μ.cut P.globals.size) w [] S0 ht (LRel.nil _)).mono ?_
    rintro e w' ⟨v0, h0, rfl, _, _, _, μ1, v1, rfl, S1, St, hv1⟩
    have same : ∀ (B : Nat) (x : Obj), w.heap[B]? = some x → w'.heap[B]? = some x := by
      intro B x hx
      rw [St.same B (Array.getElem?_eq_some_iff.1 hx).1 (hno B)]; exact hx
    refine ⟨μ, v1, rfl, ⟨?_, ?_, ?_, S.inj, Nat.le_trans S.size St.size, S.low⟩, ⟨fun _ _ => rfl, rfl, rfl, Nat.le_refl _, St.os, St.tape, St.output, St.size, fun B hB _ => St.same B hB (hno B), fun B hB => .inl hB, St.loops, St.drawn⟩, ?_⟩
    · intro b cs hb hc
      obtain ⟨L, arr, T, fr, h2, h3, h4, h5, h6⟩ := S.old b cs hb hc
      exact ⟨L, arr, T, fr, h2, h3, h4, same _ _ h5, h6⟩
    · intro b k hb hk
      obtain ⟨L, arr, T, fr, h2, h3, h4, h5⟩ := S.new b k hb hk
      exact ⟨L, arr, T, fr, h2, h3, same _ _ h4, h5⟩
    · intro b o hb hk
      obtain ⟨L, ob, h2, h3, h4⟩ := S.obj b o hb hk
      exact ⟨L, ob, h2, same _ _ h3, h4⟩
    · rw [hv1.flat_eq hv]; exact .flat hv

end
end Go.Abs

