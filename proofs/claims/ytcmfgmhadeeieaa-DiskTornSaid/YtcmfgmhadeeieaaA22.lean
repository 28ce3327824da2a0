/-
  The abstract machine in passing style once more, over environments that only grow, and by bare recursors: the form that the kernel reduces well.
  Conditions: none (definitions and lemmas).
-/
import Derived.Test.YtcmfgmhadeeieaaA21
namespace Go.Abs

abbrev AL := List (Nat × Value)
noncomputable def lkB (e0 : Env) (l : AL) (t : Nat) : Value :=
  List.rec (motive := fun _ => Value) (e0.getD t undef) (fun p _ ih => Bool.rec (motive := fun _ => Value) ih p.2 (Nat.beq p.1 t)) l
def putB (n : Nat) (l : AL) (d : Option Tmp) (v : Value) : AL :=
  match d with
  | some t => match Nat.blt t n with
    | true => (t, v) :: l
    | false => l
  | none => l
noncomputable def expB (n : Nat) (e0 : Env) (l : AL) : Env := (List.range n).map (lkB e0 l)

theorem lkB_nil (e0 : Env) (t : Nat) : lkB e0 [] t = e0.getD t undef := rfl
theorem lkB_cons (e0 : Env) (p : Nat × Value) (l : AL) (t : Nat) : lkB e0 (p :: l) t = if p.1 = t then p.2 else lkB e0 l t := by
  show Bool.rec (motive := fun _ => Value) (lkB e0 l t) p.2 (Nat.beq p.1 t) = _
  cases hb : Nat.beq p.1 t with
  | true => rw [if_pos (Nat.eq_of_beq_eq_true hb)]
  | false => rw [if_neg (Nat.ne_of_beq_eq_false hb)]

theorem getElem?_expB (n : Nat) (e0 : Env) (l : AL) (t : Nat) : (expB n e0 l)[t]? = if t < n then some (lkB e0 l t) else none := by
  unfold expB
  rw [List.getElem?_map]
  by_cases h : t < n
  · rw [if_pos h, List.getElem?_range h]; rfl
  · rw [if_neg h, List.getElem?_eq_none (by simpa using h)]; rfl

theorem expB_nil (e0 : Env) : expB e0.length e0 [] = e0 := by
  apply List.ext_getElem?
  intro i
  rw [getElem?_expB]
  by_cases h : i < e0.length
  · rw [if_pos h, lkB_nil, List.getD_eq_getElem?_getD, List.getElem?_eq_getElem h]; rfl
  · rw [if_neg h, List.getElem?_eq_none (by omega)]

theorem expB_put (n : Nat) (e0 : Env) (l : AL) (d : Option Tmp) (v : Value) : expB n e0 (putB n l d v) = putD (expB n e0 l) d v := by
  cases d with
  | none => rfl
  | some t =>
    apply List.ext_getElem?
    intro i
    unfold putD putB
    simp only
    rw [List.getElem?_set, getElem?_expB]
    have hlen : (expB n e0 l).length = n := by simp [expB]
    rw [hlen]
    cases hb : Nat.blt t n with
    | true =>
      have ht : t < n := by simpa using hb
      simp only [getElem?_expB, lkB_cons, ht, if_true]
      by_cases e : t = i
      · subst e; simp [ht]
      · simp [e]
    | false =>
      have ht : ¬ t < n := by
        intro h
        rw [show Nat.blt t n = true by simpa using h] at hb; cases hb
      simp only [getElem?_expB, ht, if_false]
      by_cases e : t = i
      · subst e; simp [ht]
      · simp [e]

noncomputable def evB (n : Nat) (e0 : Env) (l : AL) : Operand → Value
  | .tmp t => match Nat.blt t n with
    | true => lkB e0 l t
    | false => undef
  | .const v => v
  | .global g => ptr g 0
  | .func f => .func (.func f) #[] #[]

theorem evB_eq (n : Nat) (e0 : Env) (l : AL) : ev (expB n e0 l) = evB n e0 l := by
  funext x
  cases x with
  | tmp t =>
    simp only [ev, evB, List.getD_eq_getElem?_getD, getElem?_expB]
    cases hb : Nat.blt t n with
    | true => have ht : t < n := by simpa using hb
              simp [ht]
    | false =>
      have ht : ¬ t < n := by
        intro h
        rw [show Nat.blt t n = true by simpa using h] at hb; cases hb
      simp [ht]
  | _ => rfl

noncomputable def yieldB (n : Nat) (e0 : Env) (ops : Array Oper) (l : AL) (j : Nat) : Option Bool :=
  match (ops[j]?).bind (·.dst) with
  | some t => match Nat.blt t n with
    | true => bOf (lkB e0 l t)
    | false => none
  | none => none

theorem yieldB_eq (n : Nat) (e0 : Env) (ops : Array Oper) (l : AL) (j : Nat) : yieldA ops (expB n e0 l) j = yieldB n e0 ops l j := by
  unfold yieldA yieldB
  cases (ops[j]?).bind (·.dst) with
  | none => rfl
  | some t =>
    simp only [Option.bind_some, getElem?_expB]
    cases hb : Nat.blt t n with
    | true =>
      have ht : t < n := by simpa using hb
      simp only [ht, if_true]
      cases lkB e0 l t <;> rfl
    | false =>
      have ht : ¬ t < n := by
        intro h
        rw [show Nat.blt t n = true by simpa using h] at hb; cases hb
      simp [ht]

section
variable {α : Type} (P : Program) (C : CallF) (n : Nat) (e0 : Env)

noncomputable def opsB (ops : Array Oper) (os : List Oper) : AL → Heap → (AL → Heap → Option α) → Option α :=
  List.rec (motive := fun _ => AL → Heap → (AL → Heap → Option α) → Option α) (fun l h k => k l h)
    (fun o _ ih l h k =>
      match o.guard with
      | none => thenV (opA P C o (evB n e0 l) h) fun v h' => ih (putB n l o.dst v) h' k
      | some (j, want) => thenV (guardK (yieldB n e0 ops l j == some want) (opA P C o (evB n e0 l) h) h) fun v h' => ih (putB n l o.dst v) h' k) os

theorem opsB_eq (ops : Array Oper) : ∀ (os : List Oper) (l : AL) (h : Heap) (k : AL → Heap → Option α) (kk : Env → Heap → Option α), (∀ l h, k l h = kk (expB n e0 l) h) →
    opsB P C n e0 ops os l h k = opsK P C ops os (expB n e0 l) h kk
  | [], l, h, k, kk, hk => hk l h
  | o :: rest, l, h, k, kk, hk => by
    have ih : ∀ l h, List.rec (motive := fun _ => AL → Heap → (AL → Heap → Option α) → Option α) (fun l h k => k l h)
        (fun o _ ih l h k =>
          match o.guard with
          | none => thenV (opA P C o (evB n e0 l) h) fun v h' => ih (putB n l o.dst v) h' k
          | some (j, want) => thenV (guardK (yieldB n e0 ops l j == some want) (opA P C o (evB n e0 l) h) h) fun v h' => ih (putB n l o.dst v) h' k) rest l h k = opsK P C ops rest (expB n e0 l) h kk := fun l h => opsB_eq ops rest l h k kk hk
    unfold opsB opsK
    simp only [evB_eq, yieldB_eq]
    cases hg : o.guard with
    | none =>
      simp only
      congr 1
      funext v h'
      rw [ih, expB_put]
    | some g =>
      obtain ⟨j, want⟩ := g
      simp only
      congr 1
      funext v h'
      rw [ih, expB_put]

structure Tb where
  l : AL
  h : Heap
  v : Value
  ran : Bool
noncomputable def chkB (os : List (Nat × Oper)) (tr : List Tb) (hs : List Heap) (x : Nat × Nat) : Bool :=
  match os[x.1]?, tr[x.1]?, hs[if x.2 < x.1 then x.2 else x.2 + 1]? with
  | some y, some t, some h => chkR t.ran (opA P C y.2 (evB n e0 t.l) h) t.v
  | some _, some t, none => !t.ran
  | _, _, _ => false
noncomputable def dynB (ops : Array Oper) (os : List (Nat × Oper)) (tr : List Tb) (hEnd : Heap) : Bool :=
  (dynPairs P ops os).foldr (fun x acc => chkB P C n e0 os tr (tr.map (·.h) ++ [hEnd]) x && acc) true
noncomputable def Tb.up (n : Nat) (e0 : Env) (t : Tb) : Tr1 := ⟨expB n e0 t.l, t.h, t.v, t.ran⟩
theorem dynB_eq (ops : Array Oper) (os : List (Nat × Oper)) (tr : List Tb) (hEnd : Heap) : dynB P C n e0 ops os tr hEnd = dynChk P C ops os (tr.map (Tb.up n e0)) hEnd := by
  unfold dynB dynChk
  congr 1
  funext x acc
  congr 1
  unfold chkB chkAt
  have h1 : (tr.map (Tb.up n e0)).map (·.h) = tr.map (·.h) := by simp [List.map_map, Function.comp_def, Tb.up]
  rw [h1, List.getElem?_map]
  cases os[x.1]? with
  | none => rfl
  | some y =>
    cases tr[x.1]? with
    | none => rfl
    | some t =>
      cases (List.map (fun x => x.h) tr ++ [hEnd])[if x.2 < x.1 then x.2 else x.2 + 1]? with
      | none => rfl
      | some h => simp [Tb.up, evB_eq]

noncomputable def traceB (ops : Array Oper) (os : List (Nat × Oper)) : AL → Heap → (List Tb → AL → Heap → Option α) → Option α :=
  List.rec (motive := fun _ => AL → Heap → (List Tb → AL → Heap → Option α) → Option α) (fun l h k => k [] l h)
    (fun x _ ih l h k =>
      match x.2.guard with
      | none => thenV (opA P C x.2 (evB n e0 l) h) fun v h' => ih (putB n l x.2.dst v) h' fun tr => k (⟨l, h, v, true⟩ :: tr)
      | some (j, want) => thenV (guardK (yieldB n e0 ops l j == some want) (opA P C x.2 (evB n e0 l) h) h) fun v h' => ih (putB n l x.2.dst v) h' fun tr => k (⟨l, h, v, yieldB n e0 ops l j == some want⟩ :: tr)) os

theorem traceB_eq (ops : Array Oper) : ∀ (os : List (Nat × Oper)) (l : AL) (h : Heap) (k : List Tb → AL → Heap → Option α) (kk : List Tr1 → Env → Heap → Option α), (∀ tr l h, k tr l h = kk (tr.map (Tb.up n e0)) (expB n e0 l) h) →
    traceB P C n e0 ops os l h k = traceK P C ops os (expB n e0 l) h kk
  | [], l, h, k, kk, hk => hk [] l h
  | x :: rest, l, h, k, kk, hk => by
    show (match x.2.guard with
      | none => thenV (opA P C x.2 (evB n e0 l) h) fun v h' => traceB P C n e0 ops rest (putB n l x.2.dst v) h' fun tr => k (⟨l, h, v, true⟩ :: tr)
      | some (j, want) => thenV (guardK (yieldB n e0 ops l j == some want) (opA P C x.2 (evB n e0 l) h) h) fun v h' => traceB P C n e0 ops rest (putB n l x.2.dst v) h' fun tr => k (⟨l, h, v, yieldB n e0 ops l j == some want⟩ :: tr)) = _
    unfold traceK
    simp only [evB_eq, yieldB_eq]
    cases hg : x.2.guard with
    | none =>
      simp only
      congr 1
      funext v h'
      rw [traceB_eq ops rest (putB n l x.2.dst v) h' _ (fun tr => kk (⟨expB n e0 l, h, v, true⟩ :: tr)) (fun tr l h => by rw [hk]; rfl), expB_put]
    | some g =>
      obtain ⟨j, want⟩ := g
      simp only
      congr 1
      funext v h'
      rw [traceB_eq ops rest (putB n l x.2.dst v) h' _ (fun tr => kk (⟨expB n e0 l, h, v, yieldB n e0 ops l j == some want⟩ :: tr)) (fun tr l h => by rw [hk]; rfl), expB_put]

noncomputable def regionB (ops : Array Oper) (draw : Bool) (l : AL) (h : Heap) (k : AL → Heap → Option α) : Option α :=
  match draw with
  | false => opsB P C n e0 ops ops.toList l h k
  | true =>
    match lateOk P ops with
    | true => opsB P C n e0 ops ((late P ops).map (·.2)) l h k
    | false => match statOk P ops (late P ops) with
      | true => traceB P C n e0 ops (late P ops) l h fun tr l' h' => match dynB P C n e0 ops (late P ops) tr h' with
        | true => k l' h'
        | false => none
      | false => none

theorem regionB_eq (ops : Array Oper) (draw : Bool) (l : AL) (h : Heap) (k : AL → Heap → Option α) (kk : Env → Heap → Option α) (hk : ∀ l h, k l h = kk (expB n e0 l) h) :
    regionB P C n e0 ops draw l h k = regionK P C ops draw (expB n e0 l) h kk := by
  unfold regionB regionK
  cases draw with
  | false => exact opsB_eq P C n e0 ops _ l h k kk hk
  | true =>
    simp only
    cases lateOk P ops with
    | true => exact opsB_eq P C n e0 ops _ l h k kk hk
    | false =>
      simp only
      cases statOk P ops (late P ops) with
      | false => rfl
      | true =>
        refine traceB_eq P C n e0 ops _ l h _ _ ?_
        intro tr l h
        rw [dynB_eq]
        cases dynChk P C ops (late P ops) (tr.map (Tb.up n e0)) h with
        | true => exact hk l h
        | false => rfl

/-- Code, by its bare recursor: what comes behind is told twice, over the two kinds of environments. -/
noncomputable def codeB (c : Code) : AL → Heap → (AL → Heap → Option α) → (Env → Heap → Option α) → (AL → Heap → Option α) → (Env → Heap → Option α) → (Nat → AL → Heap → Option α) → (Nat → Env → Heap → Option α) → Option α :=
  Code.rec (motive := fun _ => AL → Heap → (AL → Heap → Option α) → (Env → Heap → Option α) → (AL → Heap → Option α) → (Env → Heap → Option α) → (Nat → AL → Heap → Option α) → (Nat → Env → Heap → Option α) → Option α)
    (fun l h k _ _ _ _ _ => k l h)
    (fun _ ops draw l h k _ _ _ _ _ => regionB P C n e0 ops draw l h k)
    (fun _ b ia ib l h k kE r rE x xE => ia l h (fun l' h' => ib l' h' k kE r rE x xE) (fun e' h' => codeK P C b e' h' kE rE xE) r rE x xE)
    (fun q _ _ ia ib l h k kE r rE x xE => match evB n e0 l q with
      | .bool true => ia l h k kE r rE x xE
      | .bool false => ib l h k kE r rE x xE
      | _ => none)
    (fun id _ ib l h k kE r rE x xE => ib l h k kE r rE (fun i l' h' => if i = id then k l' h' else x i l' h') (fun i e' h' => if i = id then kE e' h' else xE i e' h'))
    (fun b _ l h _ _ _ rE _ xE => endL (iter (codeA P C b) rounds (expB n e0 l) h) rE xE)
    (fun _ _ _ _ _ _ _ _ _ _ _ _ _ _ => none)
    (fun i l h _ _ _ _ x _ => x i l h)
    (fun _ ib l h k kE r rE x xE => ib l h k kE r rE x xE)
    (fun _ l h k _ _ _ _ _ => k l h)
    (fun _ _ _ _ _ _ _ _ _ => none)
    (fun l h _ _ r _ _ _ => r l h)
    (fun _ _ _ _ _ _ _ _ _ => none) c

theorem codeB_eq : ∀ (c : Code) (l : AL) (h : Heap) (k : AL → Heap → Option α) (kE : Env → Heap → Option α) (r : AL → Heap → Option α) (rE : Env → Heap → Option α) (x : Nat → AL → Heap → Option α) (xE : Nat → Env → Heap → Option α),
    (∀ l h, k l h = kE (expB n e0 l) h) → (∀ l h, r l h = rE (expB n e0 l) h) → (∀ i l h, x i l h = xE i (expB n e0 l) h) →
    codeB P C n e0 c l h k kE r rE x xE = codeK P C c (expB n e0 l) h kE rE xE
  | .skip, l, h, k, kE, r, rE, x, xE, hk, hr, hx => hk l h
  | .region _ ops d, l, h, k, kE, r, rE, x, xE, hk, hr, hx => regionB_eq P C n e0 ops d l h k kE hk
  | .seq a b, l, h, k, kE, r, rE, x, xE, hk, hr, hx => by
    show codeB P C n e0 a l h (fun l' h' => codeB P C n e0 b l' h' k kE r rE x xE) (fun e' h' => codeK P C b e' h' kE rE xE) r rE x xE = _
    exact codeB_eq a l h _ _ r rE x xE (fun l h => codeB_eq b l h k kE r rE x xE hk hr hx) hr hx
  | .cond q a b, l, h, k, kE, r, rE, x, xE, hk, hr, hx => by
    show (match evB n e0 l q with
      | .bool true => codeB P C n e0 a l h k kE r rE x xE
      | .bool false => codeB P C n e0 b l h k kE r rE x xE
      | _ => none) = _
    unfold codeK
    rw [evB_eq, codeB_eq a l h k kE r rE x xE hk hr hx, codeB_eq b l h k kE r rE x xE hk hr hx]
    rfl
  | .block id b, l, h, k, kE, r, rE, x, xE, hk, hr, hx => by
    show codeB P C n e0 b l h k kE r rE (fun i l' h' => if i = id then k l' h' else x i l' h') (fun i e' h' => if i = id then kE e' h' else xE i e' h') = _
    exact codeB_eq b l h k kE r rE _ _ hk hr (fun i l h => by simp only [hk, hx])
  | .loop b, l, h, k, kE, r, rE, x, xE, hk, hr, hx => rfl
  | .exit i, l, h, k, kE, r, rE, x, xE, hk, hr, hx => hx i l h
  | .scope b, l, h, k, kE, r, rE, x, xE, hk, hr, hx => codeB_eq b l h k kE r rE x xE hk hr hx
  | .label _, l, h, k, kE, r, rE, x, xE, hk, hr, hx => hk l h
  | .ret, l, h, k, kE, r, rE, x, xE, hk, hr, hx => hr l h
  | .goto _, l, h, k, kE, r, rE, x, xE, hk, hr, hx => rfl
  | .rangeFunc .., l, h, k, kE, r, rE, x, xE, hk, hr, hx => rfl
  | .refuse _, l, h, k, kE, r, rE, x, xE, hk, hr, hx => rfl

/-- Code from a given environment. -/
noncomputable def startB (c : Code) (h : Heap) (kE rE : Env → Heap → Option α) (xE : Nat → Env → Heap → Option α) : Option α :=
  codeB P C n e0 c [] h (fun l h => kE (expB n e0 l) h) kE (fun l h => rE (expB n e0 l) h) rE (fun i l h => xE i (expB n e0 l) h) xE
theorem startB_eq (hn : Nat.beq e0.length n = true) (c : Code) (h : Heap) (kE rE : Env → Heap → Option α) (xE : Nat → Env → Heap → Option α) :
    codeK P C c e0 h kE rE xE = startB P C n e0 c h kE rE xE := by
  unfold startB
  rw [codeB_eq P C n e0 c [] h (fun l h => kE (expB n e0 l) h) kE (fun l h => rE (expB n e0 l) h) rE (fun i l h => xE i (expB n e0 l) h) xE (fun _ _ => rfl) (fun _ _ => rfl) (fun _ _ _ => rfl)]
  obtain rfl := Nat.eq_of_beq_eq_true hn
  rw [expB_nil]
end

noncomputable def bodyB (P : Program) (C : CallF) (fn : Func) (args : List Value) (h : Heap) : Out :=
  match fn.body with
  | none => none
  | some c => startB P C fn.ntmps (args ++ List.replicate (fn.ntmps - args.length) undef) c h (resultsA P fn.results.toList) (resultsA P fn.results.toList) (fun _ _ _ => none)
theorem bodyB_eq (P : Program) (C : CallF) (fn : Func) (args : List Value) (h : Heap) (hn : Nat.ble args.length fn.ntmps = true) : bodyK P C fn args h = bodyB P C fn args h := by
  unfold bodyK bodyB
  cases fn.body with
  | none => rfl
  | some c =>
    refine startB_eq P C _ _ ?_ c h _ _ _
    have := Nat.le_of_ble_eq_true hn
    have h2 : (args ++ List.replicate (fn.ntmps - args.length) undef).length = fn.ntmps := by simp; omega
    rw [h2]
    exact Nat.beq_refl _
noncomputable def roundB (P : Program) (C : CallF) (n : Nat) (b : Code) (e : Env) (h : Heap) : Option (Ex × Env × Heap) :=
  startB P C n e b h (fun e h => some (.normal, e, h)) (fun e h => some (.ret, e, h)) (fun i e h => some (.exit i, e, h))
theorem roundB_eq (P : Program) (C : CallF) (n : Nat) (b : Code) (e : Env) (h : Heap) (hn : Nat.beq e.length n = true) : roundK P C b e h = roundB P C n b e h :=
  startB_eq P C n e hn b h _ _ _

end Go.Abs
