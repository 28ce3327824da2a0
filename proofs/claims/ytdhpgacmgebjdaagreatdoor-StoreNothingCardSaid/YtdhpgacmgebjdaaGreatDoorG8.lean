/-
  The abstract machine: contracts of functions that answer and leave nothing.
  Conditions: as each theorem states.
  The abstract machine: environments as functions with few entries written anew: how loops' rounds and what comes behind them are told.
  Conditions: none (lemmas).
  The abstract machine: bit operations on natural numbers.
  Conditions: as each theorem states.
  The abstract machine: what is kept of a heap; stores at known places.
  Conditions: as each theorem states.
  The abstract machine: environments as functions; how loops' rounds and what comes behind them are told; loops by what stands before each round.
  Conditions: as each theorem states.
  The abstract machine: a function's text, statement by statement.
  Conditions: as each theorem states.
  The abstract machine: calls of functions by fuel, each by its own body; a run without arguments from an empty heap tells what the function answers in every heap.
  Conditions: as each theorem states.
  The abstract machine, as the kernel runs it: operations by a bare recursor whose cases are closed terms, so that little is copied.
  Conditions: as each theorem states.
  The abstract machine, as the kernel runs it: environments as trees, code by its bare recursor in passing style, loops and calls by fuel.
  Conditions: as each theorem states.
  The abstract machine: loops inside loops: what a round, and what a loop, comes to.
  Conditions: as each theorem states.
  The abstract machine where a step has more than one outcome (the next entry of a map): code as a transformer of what is asked behind it.
  Conditions: as each theorem states.
  Summaries of calls as a tree of choices.
  Conditions: as each theorem states.
-/
import Derived.Test.YtdhpgacmgebjdaaGreatDoorG7
namespace Go.Abs
noncomputable section

/-- All that a function is, as far as a contract asks. -/
structure IsFn (P : Program) (f : FuncId) (fn : Func) : Prop where
  at_ : P.funcs[f]? = some fn
  name : (fn.name == "runtime.NumGoroutine") = false
  some_ : fn.body.isSome = true
  ok : codeOk P (partOf fn []) = true

theorem IsFn.body {P : Program} {f : FuncId} {fn : Func} (i : IsFn P f fn) : fn.body = some (partOf fn []) := by
  have := i.some_
  unfold partOf
  cases h : fn.body with
  | none => rw [h] at this; cases this
  | some c => simp [codeAt]

theorem Contract.mk' {P : Program} {C : CallF} (hC : CSound P C) (hm : P.follows .mixedOrders = true) {f : FuncId} {fn : Func} (i : IsFn P f fn) {s : List Value → Heap → Out}
    (told : ∀ args h v h', s args h = some (v, h') → Grow h h' ∧ (bdL h.next args = true → HeapBd h → bdV h'.next v = true ∧ HeapBd h'))
    (body : ∀ args h v h', s args h = some (v, h') → bdL h.next args = true → HeapBd h → ∃ v1 h1 r, bodyK P C fn args h = some (v1, h1) ∧ Gc h v h' v1 h1 r) : Contract P f s :=
  .of_body hC hm i.at_ i.name i.body i.ok (fun a h v h' e => (told a h v h' e).1) (fun a h v h' e => (told a h v h' e).2) (fun a h v h' e h1 h2 _ => body a h v h' e h1 h2)

/-- A function that answers a value without memory, and leaves nothing. -/
theorem Contract.quiet {P : Program} {C : CallF} (hC : CSound P C) (hm : P.follows .mixedOrders = true) {f : FuncId} {fn : Func} (i : IsFn P f fn) {s : List Value → Heap → Out}
    (told : ∀ args h v h', s args h = some (v, h') → h' = h ∧ ∀ n, bdV n v = true)
    (body : ∀ args h v h', s args h = some (v, h') → bdL h.next args = true → HeapBd h → ∃ h1, bodyK P C fn args h = some (v, h1) ∧ ∀ b k, h.getB b = some k → h1.getB b = some k) : Contract P f s := by
  refine .mk' hC hm i ?_ ?_
  · intro args h v h' e
    obtain ⟨rfl, h2⟩ := told _ _ _ _ e
    exact ⟨Grow.refl _, fun _ h3 => ⟨h2 _, h3⟩⟩
  · intro args h v h' e h1 h2
    obtain ⟨rfl, h3⟩ := told _ _ _ _ e
    obtain ⟨g, h4, h5⟩ := body _ _ _ _ e h1 h2
    exact ⟨v, g, id, h4, .none (h3 _) h2 (fun b k _ h6 => h5 b k h6)⟩

end
end Go.Abs

namespace Go.Abs
noncomputable section

noncomputable def lkF (x : Nat → Value) (l : AL) (t : Nat) : Value :=
  List.rec (motive := fun _ => Value) (x t) (fun p _ ih => Bool.rec (motive := fun _ => Value) ih p.2 (Nat.beq p.1 t)) l
noncomputable def mkE (n : Nat) (x : Nat → Value) (l : AL) : Env := (List.range n).map (lkF x l)
def bs (l : List Value) : Nat → Value := fun i => l.getD i undef

@[simp] theorem lkF_nil (x : Nat → Value) (t : Nat) : lkF x [] t = x t := rfl
theorem lkF_cons (x : Nat → Value) (p : Nat × Value) (l : AL) (t : Nat) : lkF x (p :: l) t = if p.1 = t then p.2 else lkF x l t := by
  show Bool.rec (motive := fun _ => Value) (lkF x l t) p.2 (Nat.beq p.1 t) = _
  cases hb : Nat.beq p.1 t with
  | true => rw [if_pos (Nat.eq_of_beq_eq_true hb)]
  | false => rw [if_neg (Nat.ne_of_beq_eq_false hb)]
@[simp] theorem mkE_length (n : Nat) (x : Nat → Value) (l : AL) : (mkE n x l).length = n := by simp [mkE]
end
end Go.Abs

namespace Go.Abs
noncomputable section

theorem ofInt_natCast (w n : Nat) : BitVec.ofInt w (n : Int) = BitVec.ofNat w n := by simp

section
variable (P : Program) (t : TypeId)
theorem bits_u {k : IntKind} (hk : k.signed = false) (n : Nat) (hn : n < 2 ^ k.bits) : IntKind.wrap k (n : Int) = n := by
  unfold IntKind.wrap
  simp only [hk, Bool.false_and, Bool.false_eq_true, if_false]
  have : ((2 : Int) ^ k.bits) = ((2 ^ k.bits : Nat) : Int) := by simp
  rw [this, ← Int.natCast_emod, Nat.mod_eq_of_lt hn]

theorem bin_xor_nat {k : IntKind} (hk : k.signed = false) {a b : Nat} (ha : a < 2 ^ k.bits) (hb : b < 2 ^ k.bits) : bin P .xor t (.int k a) (.int k b) = some (.int k ((a ^^^ b : Nat) : Int)) := by
  rw [bin_int]
  simp only [binI, ne_eq, not_true, if_false, bitsA, ofInt_natCast, BitVec.toNat_xor, BitVec.toNat_ofNat, Nat.mod_eq_of_lt ha, Nat.mod_eq_of_lt hb]
  rw [bits_u hk _ (Nat.xor_lt_two_pow ha hb)]
theorem bin_and_nat {k : IntKind} (hk : k.signed = false) {a b : Nat} (ha : a < 2 ^ k.bits) (hb : b < 2 ^ k.bits) : bin P .and t (.int k a) (.int k b) = some (.int k ((a &&& b : Nat) : Int)) := by
  rw [bin_int]
  simp only [binI, ne_eq, not_true, if_false, bitsA, ofInt_natCast, BitVec.toNat_and, BitVec.toNat_ofNat, Nat.mod_eq_of_lt ha, Nat.mod_eq_of_lt hb]
  rw [bits_u hk _ (Nat.and_lt_two_pow a hb)]
theorem bin_or_nat {k : IntKind} (hk : k.signed = false) {a b : Nat} (ha : a < 2 ^ k.bits) (hb : b < 2 ^ k.bits) : bin P .or t (.int k a) (.int k b) = some (.int k ((a ||| b : Nat) : Int)) := by
  rw [bin_int]
  simp only [binI, ne_eq, not_true, if_false, bitsA, ofInt_natCast, BitVec.toNat_or, BitVec.toNat_ofNat, Nat.mod_eq_of_lt ha, Nat.mod_eq_of_lt hb]
  rw [bits_u hk _ (Nat.or_lt_two_pow ha hb)]
theorem bin_shr_nat {k k' : IntKind} {a b : Nat} (hb : b ≤ k.bits) : bin P .shr t (.int k a) (.int k' b) = some (.int k ((a / 2 ^ b : Nat) : Int)) := by
  rw [bin_int]
  have h1 : ¬ ((b : Int) < 0) := by omega
  simp only [binI, h1, if_false, Int.toNat_natCast, Nat.min_eq_left hb]
  have : ((2 : Int) ^ b) = ((2 ^ b : Nat) : Int) := by simp
  rw [this, Int.fdiv_eq_ediv_of_nonneg _ (Int.natCast_nonneg _)]
  rfl
end
end
end Go.Abs

namespace Go.Abs
noncomputable section

/-- All blocks but some are as they were. -/
structure Kept (h h' : Heap) (B : Nat → Prop) : Prop where
  n0 : h'.n0 = h.n0
  next : h.next ≤ h'.next
  getB : ∀ c, c < h.next → ¬ B c → h'.getB c = h.getB c

theorem Kept.get {h h' : Heap} {B : Nat → Prop} (x : Kept h h' B) (c : Nat) (hc : c < h.next) (hB : ¬ B c) : h'.get c = h.get c := by
  unfold Heap.get
  rw [x.getB c hc hB]
theorem Kept.obj {h h' : Heap} {B : Nat → Prop} (x : Kept h h' B) {c : Nat} {o : MObj} (g : h.getB c = some (.obj o)) (hB : ¬ B c) : h'.getB c = some (.obj o) := (x.getB c (h.lt_of_getB g) hB).trans g
theorem Kept.refl (h : Heap) (B : Nat → Prop) : Kept h h B := ⟨rfl, Nat.le_refl _, fun _ _ _ => rfl⟩
theorem Kept.trans {a b c : Heap} {B : Nat → Prop} (x : Kept a b B) (y : Kept b c B) : Kept a c B :=
  ⟨y.n0.trans x.n0, Nat.le_trans x.next y.next, fun d hd hb => (y.getB d (Nat.lt_of_lt_of_le hd x.next) hb).trans (x.getB d hd hb)⟩
theorem Kept.mono {a b : Heap} {B B' : Nat → Prop} (x : Kept a b B) (hB : ∀ c, c < a.next → B c → B' c) : Kept a b B' :=
  ⟨x.n0, x.next, fun d hd hb => x.getB d hd (fun h => hb (hB d hd h))⟩
theorem Kept.alloc (h : Heap) (k : Blk) (B : Nat → Prop) : Kept h (h.alloc k) B :=
  ⟨rfl, by simp, fun c hc _ => by rw [Heap.getB_alloc, if_neg (by omega)]⟩
theorem Kept.set {h : Heap} {b : Nat} {k k' : Blk} {B : Nat → Prop} (hb : h.n0 ≤ b) (hg : h.get b = some k) (hB : h.next ≤ b ∨ B b) : Kept h (h.set b k') B :=
  ⟨rfl, by simp, fun c hc hn => by
    by_cases e : c = b
    · subst e; rcases hB with h1 | h1
      · omega
      · exact absurd h1 hn
    · exact Heap.getB_set_other hb (h.lt_of_get hg) _ e⟩

theorem splice_one (k : List Value) (o : Nat) (v : Value) (ho : o < k.length) : splice k o [v] = k.set o v := by
  unfold splice
  rw [List.set_eq_take_append_cons_drop, if_pos ho]
  simp
theorem stN1_at {h : Heap} {b o : Nat} {k : Blk} {v : Value} (hg : h.get b = some k) (ho : o < k.length) (hn : h.n0 ≤ b) (hc : v.cells = #[v]) (hv : v.oneCell' = true) :
    stN 1 (ptr b o) v h = some (undef, h.set b (k.set o v)) := by
  unfold stN ptr
  simp only [hc, List.size_toArray, List.length_cons, List.length_nil, Nat.zero_add, if_true]
  unfold stL
  simp only [hg, List.length_cons, List.length_nil, Nat.zero_add]
  rw [if_pos (by simp [hn, oneCells, hv]; omega), splice_one k o v ho]
  rfl
end
end Go.Abs

namespace Go.Abs
noncomputable section

noncomputable def mkF (n : Nat) (x : Nat → Value) : Env := (List.range n).map x
noncomputable def up (x : Nat → Value) (l : AL) : Nat → Value := lkF x l
@[simp] theorem up_nil (x : Nat → Value) (t : Nat) : up x [] t = x t := rfl
theorem up_cons (x : Nat → Value) (s : Nat) (v : Value) (l : AL) (t : Nat) : up x ((s, v) :: l) t = if s = t then v else up x l t := lkF_cons ..
@[simp] theorem mkF_length (n : Nat) (x : Nat → Value) : (mkF n x).length = n := by simp [mkF]

theorem link_roundF {P : Program} {C : CallF} {n : Nat} {b : Code} {T : (Nat → Value) → Heap → Option (Ex × Env × Heap)} (hT : ∀ x h, roundB P C n b (mkF n x) h = T x h) (x : Nat → Value) (h : Heap) :
    codeA P C b (mkF n x) h = T x h := by
  rw [← roundK_eq, roundB_eq P C n b _ h (by rw [mkF_length]; exact Nat.beq_refl n), ← hT]
theorem link_partF {α : Type} {P : Program} {C : CallF} {n : Nat} {b : Code} {kE rE : Env → Heap → Option α} {xE : Nat → Env → Heap → Option α} {T : (Nat → Value) → Heap → Option α}
    (hT : ∀ x h, startB P C n (mkF n x) b h kE rE xE = T x h) (x : Nat → Value) (h : Heap) :
    codeK P C b (mkF n x) h kE rE xE = T x h := by
  rw [startB_eq P C n (mkF n x) (by rw [mkF_length]; exact Nat.beq_refl n), ← hT]

/-- A loop by what stands before each round: at most k rounds are still to come. -/
theorem loop_inv {P : Program} {C : CallF} {n : Nat} {b : Code} {T : (Nat → Value) → Heap → Option (Ex × Env × Heap)} (hT : ∀ x h, codeA P C b (mkF n x) h = T x h)
    {Inv : Nat → (Nat → Value) → Heap → Prop} {fin : Ex → (Nat → Value) → Heap → Prop}
    (hs : ∀ k x h, Inv k x h → ∃ ex x' h', T x h = some (ex, mkF n x', h') ∧ ((ex = .normal ∧ ∃ j, j < k ∧ Inv j x' h') ∨ (ex ≠ .normal ∧ fin ex x' h')))
    {k : Nat} {x : Nat → Value} {h : Heap} (hk : k < rounds) (hi : Inv k x h) :
    ∃ ex x' h', iter (codeA P C b) rounds (mkF n x) h = some (ex, mkF n x', h') ∧ fin ex x' h' := by
  obtain ⟨ex, e', h', h1, x', rfl, h2⟩ := iter_inv (step := codeA P C b) (Inv := fun k e h => ∃ x, e = mkF n x ∧ Inv k x h) (fin := fun ex e h => ∃ x, e = mkF n x ∧ fin ex x h)
    (by
      rintro k _ h ⟨x, rfl, hi⟩
      obtain ⟨ex, x', h', h1, h2⟩ := hs k x h hi
      refine ⟨ex, mkF n x', h', (hT x h).trans h1, ?_⟩
      rcases h2 with ⟨h2, j, hj, h3⟩ | ⟨h2, h3⟩
      · exact .inl ⟨h2, j, hj, x', rfl, h3⟩
      · exact .inr ⟨h2, x', rfl, h3⟩)
    k rounds (mkF n x) h hk ⟨x, rfl, hi⟩
  exact ⟨ex, x', h', h1, h2⟩

end
end Go.Abs

namespace Go.Abs
noncomputable section
end
end Go.Abs

namespace Go.Abs
noncomputable section

def fnOk (P : Program) (fn : Func) : Bool := !(fn.name == "runtime.NumGoroutine") && match fn.body with | some c => codeOk P c | none => false

section
variable {P : Program} {C : CallF}

theorem ld_bd {t : TypeId} {x v : Value} {h h' : Heap} (hb : HeapBd h) (hx : bdV h.next x = true) (e : ld P t x h = some (v, h')) : bdV h.next v = true := by
  have hC : CSound P (fun _ _ _ => none) := ⟨by simp, by simp, by simp, by simp⟩
  have := opA_bd (P := P) (C := fun _ _ _ => none) (o := { dst := none, type := 0, op := .load t (.const x), after := #[], guard := none, pos := default }) (ρ := fun o => match o with | .const v => v | _ => undef) hC hb
    (by
      intro y hy
      have : y = .const x := by simpa [Op.operands] using hy
      subst this; exact hx) (v := v) (h' := h') e
  have hh : h' = h := by
    unfold ld at e
    split at e
    · unfold ldN at e; split at e
      · split at e
        · split at e
          · cases e; rfl
          · cases e
        · cases e
      · cases e
    · unfold ld1 at e
      repeat' split at e
      all_goals first
        | (cases e; done)
        | (simp only [Option.some.injEq, Prod.mk.injEq] at e; exact e.2.symm)
    · cases e
  subst hh; exact this.1

theorem resultA_bd {r : ResultVar} {e : Env} {h : Heap} {v : Value} (hb : HeapBd h) (he : bdL h.next e = true) (x : resultA P r e h = some v) : bdV h.next v = true := by
  have key : ∀ t, bdV h.next (e.getD t undef) = true := by
    intro t
    rw [List.getD_eq_getElem?_getD]
    cases ht : e[t]? with
    | none => rfl
    | some y => exact bdL_iff.1 he y (List.mem_of_getElem? ht)
  cases r with
  | tmp t => simp only [resultA, Option.some.injEq] at x; subst x; exact key t
  | cell a t =>
    simp only [resultA, Option.map_eq_some_iff] at x
    obtain ⟨⟨y, h'⟩, h1, rfl⟩ := x
    exact ld_bd hb (key a) h1

theorem resultsA_bd {rs : List ResultVar} {e : Env} {h h' : Heap} {v : Value} (hb : HeapBd h) (he : bdL h.next e = true) (x : resultsA P rs e h = some (v, h')) : bdV h'.next v = true ∧ HeapBd h' := by
  have hh := resultsA_grow x
  subst hh
  refine ⟨?_, hb⟩
  unfold resultsA at x
  split at x
  · simp only [Option.map_eq_some_iff, Prod.mk.injEq] at x
    obtain ⟨v1, hv1, rfl, _⟩ := x
    exact resultA_bd hb he hv1
  · simp only [Option.map_eq_some_iff, Prod.mk.injEq] at x
    obtain ⟨vs, hvs, rfl, _⟩ := x
    show bdL _ vs = true
    rw [bdL_iff]
    intro y hy
    have : ∀ (rs : List ResultVar) (vs : List Value), rs.mapM (fun r => resultA P r e h') = some vs → ∀ y ∈ vs, bdV h'.next y = true := by
      intro rs
      induction rs with
      | nil => intro vs hvs y hy; simp at hvs; subst hvs; cases hy
      | cons r rs ih =>
        intro vs hvs y hy
        simp only [List.mapM_cons, Option.bind_eq_bind, Option.bind_eq_some_iff, Option.pure_def, Option.some.injEq] at hvs
        obtain ⟨a, ha, b, hb2, rfl⟩ := hvs
        rcases List.mem_cons.1 hy with rfl | hy
        · exact resultA_bd hb he ha
        · exact ih b hb2 y hy
    exact this _ _ hvs y hy

theorem bodyA_grow (hC : CSound P C) {fn : Func} {args : List Value} {h h' : Heap} {v : Value} (he : bodyA P C fn args h = some (v, h')) : Grow h h' := by
  unfold bodyA at he
  split at he
  · cases he
  · rename_i c hb
    cases hc : codeA P C c (args ++ List.replicate (fn.ntmps - args.length) undef) h with
    | none => rw [hc] at he; cases he
    | some y =>
      obtain ⟨ex, e1, h2⟩ := y
      rw [hc] at he
      have hgrow : resultsA P fn.results.toList e1 h2 = some (v, h') := by
        cases ex with
        | normal => exact he
        | ret => exact he
        | exit i => cases he
      rw [resultsA_grow hgrow]
      exact codeA_grow hC c hc

theorem bodyA_bd (hC : CSound P C) {fn : Func} {args : List Value} {h h' : Heap} {v : Value} (hok : fnOk P fn = true) (hg : P.globals.size ≤ h.n0) (he : bodyA P C fn args h = some (v, h')) (hba : bdL h.next args = true) (hbh : HeapBd h) :
    bdV h'.next v = true ∧ HeapBd h' := by
  unfold bodyA at he
  split at he
  · cases he
  · rename_i c hb
    have hco : codeOk P c = true := by
      unfold fnOk at hok
      rw [hb] at hok
      simp only [Bool.and_eq_true] at hok
      exact hok.2
    cases hc : codeA P C c (args ++ List.replicate (fn.ntmps - args.length) undef) h with
    | none => rw [hc] at he; cases he
    | some y =>
      obtain ⟨ex, e1, h2⟩ := y
      rw [hc] at he
      have hr : resultsA P fn.results.toList e1 h2 = some (v, h') := by
        cases ex with
        | normal => exact he
        | ret => exact he
        | exit i => cases he
      obtain ⟨h3, h4⟩ := codeA_bd hC c hco hg (bdL_append hba (bdL_iff.2 fun x hx => by rw [List.eq_of_mem_replicate hx]; rfl)) hbh hc
      exact resultsA_bd h4 h3 hr
end

/-- The heap of a run that begins with nothing. -/
def bare (P : Program) : Heap := ⟨P.globals.size, fun _ => none, .nil, 0⟩
theorem bare_getB (P : Program) (b : Nat) : (bare P).getB b = none := by
  simp only [Heap.getB_eq]; unfold bare
  simp only [Nat.add_zero]
  split
  · rfl
  · rfl
theorem bare_get (P : Program) (b : Nat) : (bare P).get b = none := by
  unfold Heap.get
  rw [bare_getB]; rfl
theorem bare_bd (P : Program) : HeapBd (bare P) := ⟨(fun b k hk => by rw [bare_get] at hk; cases hk), (fun b k hk => by rw [bare_getB] at hk; cases hk)⟩

/-- What a function without arguments answers in the empty heap it answers in every heap, and leaves that as it was. -/
theorem Contract.closed {P : Program} {C : CallF} (hC : CSound P C) {f : FuncId} {v : Value} (hv : flat v = true) (hfs : f < P.funcs.size) (hr : ∃ h1, C f [] (bare P) = some (v, h1)) :
    Contract P f fun args h => match args with | [] => some (v, h) | _ => none := by
  obtain ⟨h1, hr⟩ := hr
  have hbd : ∀ n, bdV n v = true := fun n => bdV_flat hv
  refine ⟨hfs, ?_, ?_, ?_⟩
  · intro args h v' h' e
    cases args with
    | nil => cases e; exact Grow.refl _
    | cons => cases e
  · intro args h v' h' e _ hb
    cases args with
    | nil => cases e; exact ⟨hbd _, hb⟩
    | cons => cases e
  · intro args h v' h' e _ hbh hg μ w args' S hfr r
    cases args with
    | cons => cases e
    | nil =>
      cases e
      have ha : args' = [] := List.length_eq_zero_iff.1 r.1.symm
      subst ha
      have S0 : Sim (μ.cut P.globals.size) (bare P) w := by
        refine ⟨?_, ?_, ?_, ?_, Nat.le_trans hg S.size, ?_⟩
        · intro b cs _ hc; cases hc
        · intro b k _ hk; rw [bare_get] at hk; cases hk
        · intro b k _ hk; rw [bare_getB] at hk; cases hk
        · intro b b' k k' L L' _ _ _ hk; rw [bare_getB] at hk; cases hk
        · intro b hb
          obtain ⟨L, h2, h3⟩ := S.low b (Nat.lt_of_lt_of_le hb hg)
          exact ⟨L, Mu.cut_some h2 hb, h3⟩
      have hno : ∀ B, ¬ Own (μ.cut P.globals.size) (bare P) B := by
        rintro B ⟨b, k, L, _, hk, _⟩
        rw [bare_getB] at hk; cases hk
      refine (hC.run _ _ _ _ _ hr hfs rfl (bare_bd P) (Nat.le_refl _) (μ.cut P.globals.size) w [] S0
        (fun b hb _ => by
          have : ¬ b < P.globals.size := Nat.not_lt.2 hb
          simp [Mu.cut, this]) (LRel.nil _)).mono ?_
      rintro e w' ⟨μ1, v1, rfl, S1, St, hv1⟩
      have same : ∀ (B : Nat) (x : Obj), w.heap[B]? = some x → w'.heap[B]? = some x := by
        intro B x hx
        rw [St.same B (Array.getElem?_eq_some_iff.1 hx).1 (hno B)]; exact hx
      refine ⟨μ, v1, rfl, ⟨?_, ?_, ?_, S.inj, Nat.le_trans S.size St.size, S.low⟩, ⟨fun _ _ => rfl, rfl, rfl, Nat.le_refl _, St.os, St.tape, St.output, St.size, fun B hB _ => St.same B hB (hno B), fun B hB => .inl hB, St.loops, St.drawn⟩, ?_⟩
      · intro b cs hb hc
        obtain ⟨L, arr, T, fr, h2, h3, h4, h5, h6⟩ := S.old b cs hb hc
        exact ⟨L, arr, T, fr, h2, h3, h4, same _ _ h5, h6⟩
      · intro b k hb hk
        obtain ⟨L, arr, T, fr, h2, h3, h4, h5⟩ := S.new b k hb hk
        exact ⟨L, arr, T, fr, h2, h3, same _ _ h4, h5⟩
      · intro b o hb hk
        obtain ⟨L, ob, h2, h3, h4⟩ := S.obj b o hb hk
        exact ⟨L, ob, h2, same _ _ h3, h4⟩
      · rw [hv1.flat_eq hv]; exact .flat hv

end
end Go.Abs

namespace Go.Abs
noncomputable section
def puK (v : Option Value) (h : Heap) : Out := v.map fun v => (v, h)
def pickK (c a b : Value) (h : Heap) : Out :=
  match c with
  | .bool t => some (if t then a else b, h)
  | _ => none
def funcK (f : Fn) (first captured : Array Value) (h : Heap) : Out :=
  match f with
  | .yield _ => none
  | f => some (.func f first captured, h)
def callK (P : Program) (C : CallF) (c : Call) (ρ : Operand → Value) (h : Heap) : Out :=
  match c.callee with
  | .builtin b => builtinA P b c.argTypes.toList (c.args.toList.map ρ) h
  | .value f => callA P C (ρ f) (c.args.toList.map ρ) h
  | .invoke _ _ => none
def binIK (op : BinOp) : IntKind → IntKind → Int → Int → Option Value :=
  BinOp.rec (motive := fun _ => IntKind → IntKind → Int → Int → Option Value)
    (fun k k' a b => if k ≠ k' then none else some (.int k (k.wrap (a + b))))
    (fun k k' a b => if k ≠ k' then none else some (.int k (k.wrap (a - b))))
    (fun k k' a b => if k ≠ k' then none else some (.int k (k.wrap (a * b))))
    (fun k k' a b => binI .quo k k' a b)
    (fun k k' a b => binI .rem k k' a b)
    (fun k k' a b => binI .and k k' a b)
    (fun k k' a b => binI .or k k' a b)
    (fun k k' a b => binI .xor k k' a b)
    (fun k k' a b => binI .shl k k' a b)
    (fun k k' a b => binI .shr k k' a b)
    (fun k k' a b => binI .andNot k k' a b)
    (fun k k' a b => if k ≠ k' then none else some (.bool (a == b)))
    (fun k k' a b => if k ≠ k' then none else some (.bool (a != b)))
    (fun k k' a b => if k ≠ k' then none else some (.bool (a < b)))
    (fun k k' a b => if k ≠ k' then none else some (.bool (a ≤ b)))
    (fun k k' a b => if k ≠ k' then none else some (.bool (a > b)))
    (fun k k' a b => if k ≠ k' then none else some (.bool (a ≥ b)))
    op
theorem binIK_eq (op : BinOp) (k k' : IntKind) (a b : Int) : binIK op k k' a b = binI op k k' a b := by cases op <;> rfl
def binK (P : Program) (op : BinOp) (t : TypeId) (x y : Value) : Option Value :=
  match x with
  | .int k a => match y with
    | .int k' b => binIK op k k' a b
    | y => bin P op t (.int k a) y
  | x => bin P op t x y
theorem binK_eq (P : Program) (op : BinOp) (t : TypeId) (x y : Value) : binK P op t x y = bin P op t x y := by
  unfold binK
  split
  · split
    · rw [binIK_eq, bin_int]
    · rfl
  · rfl
/-- An operation. -/
def opK (op : Op) : Program → CallF → (Operand → Value) → Heap → Out :=
  Op.rec (motive := fun _ => Program → CallF → (Operand → Value) → Heap → Out)
    (fun x _P _C ρ h => some (ρ x, h))
    (fun x _P _C ρ h => some (ρ x, h))
    (fun c a b _P _C ρ h => pickK (ρ c) (ρ a) (ρ b) h)
    (fun t P _C _ρ h => zero P t h)
    (fun _t x _P _C ρ h => box (ρ x) h)
    (fun t parts P _C ρ h => puK (buildA P t (parts.toList.map fun (i, x) => (i, ρ x))) h)
    (fun t len parts P _C ρ h => buildSliceA P t len (parts.toList.map fun (i, x) => (i, ρ x)) h)
    (fun t m k v P _C ρ h => mapUpdateA P t (ρ m) (ρ k) (ρ v) h)
    (fun t x P _C ρ h => ld P t (ρ x) h)
    (fun t x v P _C ρ h => st P t (ρ x) (ρ v) h)
    (fun _g _P _C _ρ _h => none)
    (fun _g _P _C _ρ _h => none)
    (fun x _P _C ρ h => puK (nilCheckA (ρ x)) h)
    (fun op t x y _t P _C ρ h => puK (binK P op t (ρ x) (ρ y)) h)
    (fun op _t x _P _C ρ h => puK (unA op (ρ x)) h)
    (fun s d x P _C ρ h => convA P s d (ρ x) h)
    (fun _t _x _P _C _ρ _h => none)
    (fun t x P _C ρ h => puK (ifaceA P t (ρ x)) h)
    (fun f first captured _P _C ρ h => funcK f (first.map ρ) (captured.map ρ) h)
    (fun t r P _C ρ h => makeMapA (r.map ρ) P t h)
    (fun _t _x _P _C _ρ _h => none)
    (fun t l c P _C ρ h => makeA P t (ρ l) (ρ c) h)
    (fun t x lo hi mx P _C ρ h => puK (sliceA P t (ρ x) (lo.map ρ) (hi.map ρ) (mx.map ρ)) h)
    (fun t x i P _C ρ h => puK (fieldAtA P t (ρ x) i) h)
    (fun t x i P _C ρ h => puK (fieldA P t (ρ x) i) h)
    (fun t x i P _C ρ h => puK (indexAtA P t (ρ x) (ρ i)) h)
    (fun t x i P _C ρ h => puK (indexA P t (ρ x) (ρ i)) h)
    (fun t x k ok P _C ρ h => lookupA P t (ρ x) (ρ k) ok h)
    (fun t m k v P _C ρ h => mapUpdateA P t (ρ m) (ρ k) (ρ v) h)
    (fun t m k P _C ρ h => mapEntryA P t (ρ m) (ρ k) h)
    (fun _t m s v _P _C ρ h => entryStoreA (ρ m) (ρ s) (ρ v) h)
    (fun t x P _C ρ h => rangeA P t (ρ x) h)
    (fun it str _P _C ρ h => nextA (ρ it) str h)
    (fun it _P _C ρ h => entryA (ρ it) h)
    (fun x _t t ok P _C ρ h => puK (assertA P t ok (ρ x)) h)
    (fun t i _P _C ρ h => puK (extractA (ρ t) i) h)
    (fun c P C ρ h => callK P C c ρ h)
    (fun _c _P _C _ρ _h => none)
    (fun _c _P _C _ρ _h => none)
    (fun _x _P _C _ρ _h => none)
    (fun _a _b _P _C _ρ _h => none)
    (fun _t _c _b _P _C _ρ _h => none)
    (fun _a _b _P _C _ρ _h => none)
    op
theorem opK_eq (P : Program) (C : CallF) (o : Oper) (ρ : Operand → Value) (h : Heap) : opK o.op P C ρ h = opA P C o ρ h := by
  obtain ⟨dst, op, type, pos, after, guard⟩ := o
  cases op
  case binOp op t x y z =>
    show puK (binK P op t (ρ x) (ρ y)) h = _
    rw [binK_eq]; rfl
  case makeFunc f first captured => cases f <;> rfl
  case call c =>
    cases c with
    | mk callee => cases callee <;> rfl
  all_goals rfl
end
end Go.Abs

namespace Go.Abs
noncomputable section

/-- An environment: a tree by the bits of the number. -/
inductive VT where
  | nil
  | node (l : VT) (v : Value) (r : VT)

noncomputable def VT.get (t : VT) : Nat → Value :=
  VT.rec (motive := fun _ => Nat → Value) (fun _ => undef) (fun _ v _ il ir n => Nat.rec (motive := fun _ => Value) v (fun m _ => Bool.rec (motive := fun _ => Value) (il (Nat.div m 2)) (ir (Nat.div m 2)) (Nat.beq (Nat.mod m 2) 1)) n) t
noncomputable def VT.set (t : VT) : Nat → Value → VT :=
  VT.rec (motive := fun _ => Nat → Value → VT) (fun _ _ => .nil) (fun l x r il ir n v => Nat.rec (motive := fun _ => VT) (.node l v r) (fun m _ => Bool.rec (motive := fun _ => VT) (.node (il (Nat.div m 2) v) x r) (.node l x (ir (Nat.div m 2) v)) (Nat.beq (Nat.mod m 2) 1)) n) t
noncomputable def VT.of (d : Nat) : (Nat → Value) → VT :=
  Nat.rec (motive := fun _ => (Nat → Value) → VT) (fun _ => .nil) (fun _ ih f => .node (ih fun i => f (2 * i + 1)) (f 0) (ih fun i => f (2 * i + 2))) d

def VT.has : VT → Nat → Prop
  | .nil, _ => False
  | .node l _ r, n => if n = 0 then True else if n % 2 = 1 then l.has (n / 2) else r.has (n / 2 - 1)

theorem VT.get_node (l : VT) (v : Value) (r : VT) (n : Nat) : (VT.node l v r).get n = if n = 0 then v else if n % 2 = 1 then l.get (n / 2) else r.get (n / 2 - 1) := by
  cases n with
  | zero => rfl
  | succ m =>
    show Bool.rec (motive := fun _ => Value) (l.get (m / 2)) (r.get (m / 2)) (Nat.beq (m % 2) 1) = _
    rw [if_neg (by omega)]
    by_cases h : m % 2 = 1
    · rw [h, if_neg (by omega), show (m + 1) / 2 - 1 = m / 2 by omega]; rfl
    · rw [show m % 2 = 0 by omega, if_pos (by omega), show (m + 1) / 2 = m / 2 by omega]; rfl
theorem VT.set_node (l : VT) (x : Value) (r : VT) (n : Nat) (v : Value) : (VT.node l x r).set n v = if n = 0 then .node l v r else if n % 2 = 1 then .node (l.set (n / 2) v) x r else .node l x (r.set (n / 2 - 1) v) := by
  cases n with
  | zero => rfl
  | succ m =>
    show Bool.rec (motive := fun _ => VT) (.node (l.set (m / 2) v) x r) (.node l x (r.set (m / 2) v)) (Nat.beq (m % 2) 1) = _
    rw [if_neg (by omega)]
    by_cases h : m % 2 = 1
    · rw [h, if_neg (by omega), show (m + 1) / 2 - 1 = m / 2 by omega]; rfl
    · rw [show m % 2 = 0 by omega, if_pos (by omega), show (m + 1) / 2 = m / 2 by omega]; rfl
theorem VT.of_succ (d : Nat) (f : Nat → Value) : VT.of (d + 1) f = .node (VT.of d fun i => f (2 * i + 1)) (f 0) (VT.of d fun i => f (2 * i + 2)) := rfl

theorem VT.get_set : ∀ (t : VT) (n : Nat) (v : Value) (m : Nat), t.has n → (t.set n v).get m = if m = n then v else t.get m
  | .nil, n, v, m, h => h.elim
  | .node l x r, n, v, m, h => by
    rw [VT.set_node]
    simp only [VT.has] at h
    by_cases h0 : n = 0
    · subst h0
      rw [if_pos rfl, VT.get_node, VT.get_node]
      by_cases hm : m = 0
      · simp [hm]
      · simp [hm]
    · rw [if_neg h0] at h ⊢
      by_cases h1 : n % 2 = 1
      · rw [if_pos h1] at h ⊢
        rw [VT.get_node, VT.get_node]
        by_cases hm : m = 0
        · subst hm; rw [if_pos rfl, if_pos rfl, if_neg (fun h => h0 h.symm)]
        · rw [if_neg hm, if_neg hm]
          by_cases hm1 : m % 2 = 1
          · rw [if_pos hm1, if_pos hm1, VT.get_set l _ v _ h]
            by_cases e : m = n
            · subst e; simp
            · rw [if_neg e, if_neg (by omega)]
          · rw [if_neg hm1, if_neg hm1, if_neg (by omega)]
      · rw [if_neg h1] at h ⊢
        rw [VT.get_node, VT.get_node]
        by_cases hm : m = 0
        · subst hm; rw [if_pos rfl, if_pos rfl, if_neg (fun h => h0 h.symm)]
        · rw [if_neg hm, if_neg hm]
          by_cases hm1 : m % 2 = 1
          · rw [if_pos hm1, if_pos hm1, if_neg (by omega)]
          · rw [if_neg hm1, if_neg hm1, VT.get_set r _ v _ h]
            by_cases e : m = n
            · subst e; simp
            · rw [if_neg e, if_neg (by omega)]

theorem VT.has_set : ∀ (t : VT) (n : Nat) (v : Value) (m : Nat), (t.set n v).has m ↔ t.has m
  | .nil, n, v, m => Iff.rfl
  | .node l x r, n, v, m => by
    rw [VT.set_node]
    by_cases h0 : n = 0
    · rw [if_pos h0]; exact Iff.rfl
    · rw [if_neg h0]
      by_cases h1 : n % 2 = 1
      · rw [if_pos h1]
        simp only [VT.has]
        by_cases hm : m = 0
        · simp [hm]
        · rw [if_neg hm, if_neg hm]
          split
          · exact VT.has_set l ..
          · exact Iff.rfl
      · rw [if_neg h1]
        simp only [VT.has]
        by_cases hm : m = 0
        · simp [hm]
        · rw [if_neg hm, if_neg hm]
          split
          · exact Iff.rfl
          · exact VT.has_set r ..

theorem VT.of_spec : ∀ (d : Nat) (f : Nat → Value) (i : Nat), i + 1 < 2 ^ d → (VT.of d f).has i ∧ (VT.of d f).get i = f i
  | 0, f, i, h => by simp at h
  | d + 1, f, i, h => by
    rw [VT.of_succ, VT.get_node]
    simp only [VT.has]
    by_cases h0 : i = 0
    · subst h0; simp
    · rw [if_neg h0, if_neg h0]
      have h2 : 2 ^ (d + 1) = 2 * 2 ^ d := by rw [Nat.pow_succ]; omega
      by_cases h1 : i % 2 = 1
      · rw [if_pos h1, if_pos h1]
        obtain ⟨a, b⟩ := VT.of_spec d (fun i => f (2 * i + 1)) (i / 2) (by omega)
        exact ⟨a, by rw [b]; congr 1; omega⟩
      · rw [if_neg h1, if_neg h1]
        obtain ⟨a, b⟩ := VT.of_spec d (fun i => f (2 * i + 2)) (i / 2 - 1) (by omega)
        exact ⟨a, by rw [b]; congr 1; omega⟩

/-- The tree stands for the list. -/
structure Rep (n : Nat) (t : VT) (e : Env) : Prop where
  len : e.length = n
  at_ : ∀ i, i < n → t.has i ∧ t.get i = e.getD i undef

noncomputable def treeOf (n : Nat) (e : List Value) : VT := VT.of (Nat.log2 n + 2) fun i => e.getD i undef
theorem rep_of (e : Env) : Rep e.length (treeOf e.length e) e := by
  refine ⟨rfl, fun i hi => VT.of_spec _ _ _ ?_⟩
  have h1 : e.length < 2 ^ (Nat.log2 e.length + 1) := Nat.lt_log2_self
  rw [Nat.pow_succ]
  omega
theorem rep_args (n : Nat) (args : List Value) (h : args.length ≤ n) : Rep n (treeOf n args) (args ++ List.replicate (n - args.length) undef) := by
  refine ⟨by simp; omega, fun i hi => ?_⟩
  have h1 : n < 2 ^ (Nat.log2 n + 1) := Nat.lt_log2_self
  obtain ⟨a, b⟩ := VT.of_spec (Nat.log2 n + 2) (fun i => args.getD i undef) i (by rw [Nat.pow_succ]; omega)
  refine ⟨a, ?_⟩
  unfold treeOf
  rw [b]
  rw [List.getD_eq_getElem?_getD, List.getD_eq_getElem?_getD]
  by_cases hl : i < args.length
  · rw [List.getElem?_append_left hl]
  · rw [List.getElem?_append_right (by omega), List.getElem?_eq_none (by omega), List.getElem?_replicate]
    split <;> rfl

noncomputable def toL (n : Nat) (t : VT) : Env := (List.range n).map t.get
theorem Rep.toL {n : Nat} {t : VT} {e : Env} (r : Rep n t e) : toL n t = e := by
  apply List.ext_getElem?
  intro i
  unfold Abs.toL
  rw [List.getElem?_map]
  by_cases hi : i < n
  · rw [List.getElem?_range hi, Option.map_some, (r.at_ i hi).2]
    have : i < e.length := by rw [r.len]; exact hi
    simp [List.getElem?_eq_getElem this]
  · have : ¬ i < e.length := by rw [r.len]; exact hi
    rw [List.getElem?_eq_none (by simpa using hi), List.getElem?_eq_none (by omega)]; rfl

noncomputable def setT (n : Nat) (t : VT) (d : Option Tmp) (v : Value) : VT :=
  match d with
  | some i => match Nat.blt i n with
    | true => t.set i v
    | false => t
  | none => t

theorem Rep.put {n : Nat} {t : VT} {e : Env} (r : Rep n t e) (d : Option Tmp) (v : Value) : Rep n (setT n t d v) (putD e d v) := by
  cases d with
  | none => exact r
  | some i =>
    unfold setT putD
    simp only
    cases hb : Nat.blt i n with
    | true =>
      have hi : i < n := by simpa using hb
      refine ⟨by simp [r.len], fun j hj => ⟨(VT.has_set ..).2 (r.at_ j hj).1, ?_⟩⟩
      simp only
      rw [VT.get_set _ _ _ _ (r.at_ i hi).1, (r.at_ j hj).2, List.getD_eq_getElem?_getD, List.getD_eq_getElem?_getD, List.getElem?_set]
      by_cases e : j = i
      · subst e; simp [r.len, hj]
      · rw [if_neg e, if_neg (fun h => e h.symm)]
    | false =>
      have hi : ¬ i < n := by
        intro h
        rw [show Nat.blt i n = true by simpa using h] at hb; cases hb
      have : e.set i v = e := List.set_eq_of_length_le (by rw [r.len]; exact Nat.le_of_not_lt hi)
      rw [this]; exact r

noncomputable def evT (n : Nat) (t : VT) : Operand → Value
  | .tmp i => match Nat.blt i n with
    | true => t.get i
    | false => undef
  | .const v => v
  | .global g => ptr g 0
  | .func f => .func (.func f) #[] #[]

theorem Rep.ev {n : Nat} {t : VT} {e : Env} (r : Rep n t e) : ev e = evT n t := by
  funext x
  cases x with
  | tmp i =>
    simp only [Abs.ev, evT]
    cases hb : Nat.blt i n with
    | true =>
      have hi : i < n := by simpa using hb
      exact ((r.at_ i hi).2).symm
    | false =>
      have hi : ¬ i < n := by
        intro h
        rw [show Nat.blt i n = true by simpa using h] at hb; cases hb
      rw [List.getD_eq_getElem?_getD, List.getElem?_eq_none (by rw [r.len]; exact Nat.le_of_not_lt hi)]; rfl
  | _ => rfl

noncomputable def yieldT (n : Nat) (ops : Array Oper) (t : VT) (j : Nat) : Option Bool :=
  match (ops[j]?).bind (·.dst) with
  | some i => match Nat.blt i n with
    | true => bOf (t.get i)
    | false => none
  | none => none

theorem Rep.yield {n : Nat} {t : VT} {e : Env} (r : Rep n t e) (ops : Array Oper) (j : Nat) : yieldA ops e j = yieldT n ops t j := by
  unfold yieldA yieldT
  cases (ops[j]?).bind (·.dst) with
  | none => rfl
  | some i =>
    simp only [Option.bind_some]
    cases hb : Nat.blt i n with
    | true =>
      have hi : i < n := by simpa using hb
      have : i < e.length := by rw [r.len]; exact hi
      rw [(r.at_ i hi).2, List.getD_eq_getElem?_getD, List.getElem?_eq_getElem this]
      simp only [Option.getD_some]
      cases e[i] <;> rfl
    | false =>
      have hi : ¬ i < n := by
        intro h
        rw [show Nat.blt i n = true by simpa using h] at hb; cases hb
      rw [List.getElem?_eq_none (by rw [r.len]; exact Nat.le_of_not_lt hi)]

section
variable {α : Type} (P : Program) (C : CallF) (n : Nat)

noncomputable def opsF (ops : Array Oper) (os : List Oper) : VT → Heap → (VT → Heap → Option α) → Option α :=
  List.rec (motive := fun _ => VT → Heap → (VT → Heap → Option α) → Option α) (fun t h k => k t h)
    (fun o _ ih t h k =>
      match o.guard with
      | none => thenV (opK o.op P C (evT n t) h) fun v h' => ih (setT n t o.dst v) h' k
      | some (j, want) => thenV (guardK (yieldT n ops t j == some want) (opK o.op P C (evT n t) h) h) fun v h' => ih (setT n t o.dst v) h' k) os

theorem opsF_sound (ops : Array Oper) : ∀ (os : List Oper) {t : VT} {e : Env} {h : Heap} {k : VT → Heap → Option α} {a : α}, Rep n t e → opsF P C n ops os t h k = some a →
    ∃ e' h' t', opsA P C ops os e h = some (e', h') ∧ Rep n t' e' ∧ k t' h' = some a
  | [], t, e, h, k, a, r, he => ⟨e, h, t, rfl, r, he⟩
  | o :: os, t, e, h, k, a, r, he => by
    have ih := @opsF_sound ops os
    have he : (match o.guard with
      | none => thenV (opK o.op P C (evT n t) h) fun v h' => opsF P C n ops os (setT n t o.dst v) h' k
      | some (j, want) => thenV (guardK (yieldT n ops t j == some want) (opK o.op P C (evT n t) h) h) fun v h' => opsF P C n ops os (setT n t o.dst v) h' k) = some a := he
    simp only [opK_eq] at he
    unfold opsA stepA wantA
    cases hg : o.guard with
    | none =>
      rw [hg] at he
      simp only [if_true] at he ⊢
      rw [r.ev]
      cases ho : opA P C o (evT n t) h with
      | none => rw [ho] at he; cases he
      | some x =>
        obtain ⟨v, h'⟩ := x
        rw [ho] at he
        obtain ⟨e', h2, t', h3, h4, h5⟩ := ih (r.put o.dst v) he
        exact ⟨e', h2, t', h3, h4, h5⟩
    | some g =>
      obtain ⟨j, want⟩ := g
      rw [hg] at he
      simp only at he ⊢
      rw [← r.yield] at he
      by_cases hy : (yieldA ops e j == some want) = true
      · rw [hy] at he
        rw [if_pos hy, r.ev]
        simp only [guardK] at he
        cases ho : opA P C o (evT n t) h with
        | none => rw [ho] at he; cases he
        | some x =>
          obtain ⟨v, h'⟩ := x
          rw [ho] at he
          obtain ⟨e', h2, t', h3, h4, h5⟩ := ih (r.put o.dst v) he
          exact ⟨e', h2, t', h3, h4, h5⟩
      · rw [if_neg hy]
        rw [Bool.not_eq_true] at hy
        rw [hy] at he
        simp only [guardK, thenV] at he
        obtain ⟨e', h2, t', h3, h4, h5⟩ := ih (r.put o.dst undef) he
        exact ⟨e', h2, t', h3, h4, h5⟩

noncomputable def regionF (ops : Array Oper) (draw : Bool) (t : VT) (h : Heap) (k : VT → Heap → Option α) : Option α :=
  match draw with
  | false => opsF P C n ops ops.toList t h k
  | true => match lateOk P ops with
    | true => opsF P C n ops ((late P ops).map (·.2)) t h k
    | false => match regionA P C ops true (toL n t) h with
      | some (e', h') => k (treeOf n e') h'
      | none => none

theorem regionF_sound (ops : Array Oper) (draw : Bool) {t : VT} {e : Env} {h : Heap} {k : VT → Heap → Option α} {a : α} (r : Rep n t e) (he : regionF P C n ops draw t h k = some a) :
    ∃ e' h' t', regionA P C ops draw e h = some (e', h') ∧ Rep n t' e' ∧ k t' h' = some a := by
  unfold regionF at he
  cases draw with
  | false => exact opsF_sound P C n ops _ r he
  | true =>
    simp only at he
    cases hl : lateOk P ops with
    | true =>
      rw [hl] at he
      obtain ⟨e', h', t', h1, h2, h3⟩ := opsF_sound P C n ops _ r he
      refine ⟨e', h', t', ?_, h2, h3⟩
      unfold regionA
      have hl2 := hl
      unfold lateOk at hl
      rw [Bool.and_eq_true] at hl
      rw [if_pos rfl, if_pos hl.1]
      rw [← trace_ops] at h1
      cases ht : traceA P C ops (late P ops) e h with
      | none => rw [ht] at h1; cases h1
      | some x =>
        obtain ⟨tr, e2, h4⟩ := x
        rw [ht] at h1
        cases h1
        simp only
        rw [if_pos (dynTriv_ok hl.2 tr h')]
    | false =>
      rw [hl] at he
      simp only at he
      rw [r.toL] at he
      cases hr : regionA P C ops true e h with
      | none => rw [hr] at he; cases he
      | some x =>
        obtain ⟨e', h'⟩ := x
        rw [hr] at he
        have hlen : e'.length = n := by
          rw [← r.len]
          unfold regionA at hr
          rw [if_pos rfl] at hr
          split at hr
          · split at hr
            · rename_i tr e2 h2 ht
              split at hr
              · cases hr
                have h1 : opsA P C ops ((late P ops).map (·.2)) e h = some (e', h') := by rw [← trace_ops, ht]; rfl
                have : ∀ (os : List Oper) (e : Env) (h : Heap) (e' : Env) (h' : Heap), opsA P C ops os e h = some (e', h') → e'.length = e.length := by
                  intro os
                  induction os with
                  | nil => intro e h e' h' he; simp only [opsA, Option.some.injEq, Prod.mk.injEq] at he; rw [he.1]
                  | cons o os ih =>
                    intro e h e' h' he
                    simp only [opsA] at he
                    split at he
                    · rename_i e1 h1 hs
                      have h2 := ih _ _ _ _ he
                      rw [h2]
                      unfold stepA at hs
                      split at hs
                      · split at hs
                        · cases hs; exact length_putD ..
                        · cases hs
                      · cases hs; exact length_putD ..
                    · cases he
                exact this _ _ _ _ _ h1
              · cases hr
            · cases hr
          · cases hr
        refine ⟨e', h', treeOf n e', rfl, ?_, he⟩
        subst hlen; exact rep_of e'

noncomputable def condF (v : Value) (a b : Option α) : Option α :=
  match v with
  | .bool true => a
  | .bool false => b
  | _ => none
noncomputable def leave (id i : Nat) (k x : Option α) : Option α := Bool.rec (motive := fun _ => Option α) x k (Nat.beq i id)
noncomputable def loopF (b : VT → Heap → (VT → Heap → Option α) → Option α) (fuel : Nat) : VT → Heap → Option α :=
  Nat.rec (motive := fun _ => VT → Heap → Option α) (fun _ _ => none) (fun _ ih t h => b t h ih) fuel

/-- Behind a loop over a function: the frame's values are what they were. -/
noncomputable def cameF (o : Option (Ex × Env × Heap)) (t : VT) (k r : VT → Heap → Option α) (x : Nat → VT → Heap → Option α) : Option α :=
  match o with
  | some (.normal, _, h) => k t h
  | some (.ret, _, h) => r t h
  | some (.exit i, _, h) => x i t h
  | none => none
theorem range_env {P : Program} {C : CallF} {g : Operand} {ps : Array Tmp} {as b : Code} {e e' : Env} {h h' : Heap} {x : Ex} (he : codeA P C (.rangeFunc g ps as b) e h = some (x, e', h')) : e' = e := by
  obtain ⟨_, _, _, _, _, _, _, _, hl⟩ := rangeA_some he
  obtain ⟨_, _, _, _, _, _, _, _, _, h2, _⟩ := endLoopA_some hl
  exact h2

noncomputable def codeF (fuel : Nat) (c : Code) : VT → Heap → (VT → Heap → Option α) → (VT → Heap → Option α) → (Nat → VT → Heap → Option α) → Option α :=
  Code.rec (motive := fun _ => VT → Heap → (VT → Heap → Option α) → (VT → Heap → Option α) → (Nat → VT → Heap → Option α) → Option α)
    (fun t h k _ _ => k t h)
    (fun _ ops draw t h k _ _ => regionF P C n ops draw t h k)
    (fun _ _ ia ib t h k r x => ia t h (fun t' h' => ib t' h' k r x) r x)
    (fun q _ _ ia ib t h k r x => condF (evT n t q) (ia t h k r x) (ib t h k r x))
    (fun id _ ib t h k r x => ib t h k r (fun i t' h' => leave id i (k t' h') (x i t' h')))
    (fun _ ib t h _ r x => loopF (fun t h k => ib t h k r x) fuel t h)
    (fun g ps a b _ _ t h k r x => cameF (codeA P C (.rangeFunc g ps a b) (toL n t) h) t k r x)
    (fun i t h _ _ x => x i t h)
    (fun _ ib t h k r x => ib t h k r x)
    (fun _ t h k _ _ => k t h)
    (fun _ _ _ _ _ _ => none)
    (fun t h _ r _ => r t h)
    (fun _ _ _ _ _ _ => none) c

/-- Where a piece of code has come to. -/
def Came (a : α) (k r : VT → Heap → Option α) (x : Nat → VT → Heap → Option α) (ex : Ex) (t : VT) (h : Heap) : Prop :=
  match ex with
  | .normal => k t h = some a
  | .ret => r t h = some a
  | .exit i => x i t h = some a

theorem codeF_sound (fuel : Nat) (hfuel : fuel ≤ rounds) : ∀ (c : Code) {t : VT} {e : Env} {h : Heap} {k r : VT → Heap → Option α} {x : Nat → VT → Heap → Option α} {a : α}, Rep n t e → codeF P C n fuel c t h k r x = some a →
    ∃ ex e' h' t', codeA P C c e h = some (ex, e', h') ∧ Rep n t' e' ∧ Came a k r x ex t' h'
  | .skip, t, e, h, k, r, x, a, hr, he => ⟨.normal, e, h, t, rfl, hr, he⟩
  | .region _ ops d, t, e, h, k, r, x, a, hr, he => by
    obtain ⟨e', h', t', h1, h2, h3⟩ := regionF_sound P C n ops d hr he
    exact ⟨.normal, e', h', t', by simp only [codeA, h1], h2, h3⟩
  | .seq c d, t, e, h, k, r, x, a, hr, he => by
    obtain ⟨ex, e', h', t', h1, h2, h3⟩ := codeF_sound fuel hfuel c (k := fun t' h' => codeF P C n fuel d t' h' k r x) hr he
    cases ex with
    | normal =>
      obtain ⟨ex2, e2, h4, t2, h5, h6, h7⟩ := codeF_sound fuel hfuel d h2 h3
      exact ⟨ex2, e2, h4, t2, by simp only [codeA, h1]; exact h5, h6, h7⟩
    | ret => exact ⟨.ret, e', h', t', by simp only [codeA, h1], h2, h3⟩
    | exit i => exact ⟨.exit i, e', h', t', by simp only [codeA, h1], h2, h3⟩
  | .cond q c d, t, e, h, k, r, x, a, hr, he => by
    have he : condF (evT n t q) (codeF P C n fuel c t h k r x) (codeF P C n fuel d t h k r x) = some a := he
    unfold condF at he
    unfold codeA
    rw [hr.ev]
    split at he
    · rename_i hv; rw [hv]; exact codeF_sound fuel hfuel c hr he
    · rename_i hv; rw [hv]; exact codeF_sound fuel hfuel d hr he
    · cases he
  | .block id b, t, e, h, k, r, x, a, hr, he => by
    obtain ⟨ex, e', h', t', h1, h2, h3⟩ := codeF_sound fuel hfuel b (x := fun i t' h' => leave id i (k t' h') (x i t' h')) hr he
    cases ex with
    | normal => exact ⟨.normal, e', h', t', by simp only [codeA, h1], h2, h3⟩
    | ret => exact ⟨.ret, e', h', t', by simp only [codeA, h1], h2, h3⟩
    | exit i =>
      simp only [Came, leave] at h3
      cases hb : Nat.beq i id with
      | true =>
        rw [hb] at h3
        exact ⟨.normal, e', h', t', by simp only [codeA, h1]; rw [if_pos (Nat.eq_of_beq_eq_true hb)], h2, h3⟩
      | false =>
        rw [hb] at h3
        exact ⟨.exit i, e', h', t', by simp only [codeA, h1]; rw [if_neg (Nat.ne_of_beq_eq_false hb)], h2, h3⟩
  | .loop b, t, e, h, k, r, x, a, hr, he => by
    have he : loopF (fun t h k => codeF P C n fuel b t h k r x) fuel t h = some a := he
    have main : ∀ (f m : Nat) (t : VT) (e : Env) (h : Heap), f ≤ m → Rep n t e → loopF (fun t h k => codeF P C n fuel b t h k r x) f t h = some a →
        ∃ ex e' h' t', iter (codeA P C b) m e h = some (ex, e', h') ∧ Rep n t' e' ∧ ex ≠ .normal ∧ Came a k r x ex t' h' := by
      intro f
      induction f with
      | zero => intro m t e h _ _ he; cases he
      | succ f ih =>
        intro m t e h hm hr he
        obtain ⟨m, rfl⟩ : ∃ m', m = m' + 1 := ⟨m - 1, by omega⟩
        obtain ⟨ex, e', h', t', h1, h2, h3⟩ := codeF_sound fuel hfuel b (k := fun t h => loopF (fun t h k => codeF P C n fuel b t h k r x) f t h) hr he
        cases ex with
        | normal =>
          obtain ⟨ex2, e2, h4, t2, h5, h6, h7⟩ := ih m t' e' h' (by omega) h2 h3
          exact ⟨ex2, e2, h4, t2, by simp only [iter, h1]; exact h5, h6, h7⟩
        | ret => exact ⟨.ret, e', h', t', by simp only [iter, h1], h2, by simp, h3⟩
        | exit i => exact ⟨.exit i, e', h', t', by simp only [iter, h1], h2, by simp, h3⟩
    obtain ⟨ex, e', h', t', h1, h2, h3, h4⟩ := main fuel rounds t e h hfuel hr he
    refine ⟨ex, e', h', t', h1, h2, h4⟩
  | .exit i, t, e, h, k, r, x, a, hr, he => ⟨.exit i, e, h, t, rfl, hr, he⟩
  | .scope b, t, e, h, k, r, x, a, hr, he => by
    have := codeF_sound fuel hfuel b hr he
    exact this
  | .label _, t, e, h, k, r, x, a, hr, he => ⟨.normal, e, h, t, rfl, hr, he⟩
  | .ret, t, e, h, k, r, x, a, hr, he => ⟨.ret, e, h, t, rfl, hr, he⟩
  | .goto _, t, e, h, k, r, x, a, hr, he => by cases he
  | .rangeFunc g ps as b, t, e, h, k, r, x, a, hr, he => by
    have he : cameF (codeA P C (.rangeFunc g ps as b) (toL n t) h) t k r x = some a := he
    rw [hr.toL] at he
    unfold cameF at he
    cases hc : codeA P C (.rangeFunc g ps as b) e h with
    | none => rw [hc] at he; cases he
    | some y =>
      obtain ⟨ex, e', h'⟩ := y
      rw [hc] at he
      have he' := range_env hc
      subst he'
      refine ⟨ex, e', h', t, rfl, hr, ?_⟩
      cases ex <;> exact he
  | .refuse _, t, e, h, k, r, x, a, hr, he => by cases he
end

noncomputable def resT (P : Program) (n : Nat) (rs : List ResultVar) (t : VT) (h : Heap) : Out := resultsA P rs (toL n t) h

noncomputable def bodyF (P : Program) (C : CallF) (fuel : Nat) (fn : Func) (args : List Value) (h : Heap) : Out :=
  match fn.body with
  | none => none
  | some c => match Nat.ble args.length fn.ntmps with
    | true => codeF P C fn.ntmps fuel c (treeOf fn.ntmps args) h (resT P fn.ntmps fn.results.toList) (resT P fn.ntmps fn.results.toList) (fun _ _ _ => none)
    | false => none

theorem bodyF_sound (P : Program) (C : CallF) (fuel : Nat) (hfuel : fuel ≤ rounds) {fn : Func} {args : List Value} {h : Heap} {a : Value × Heap} (he : bodyF P C fuel fn args h = some a) : bodyA P C fn args h = some a := by
  unfold bodyF at he
  unfold bodyA
  cases hb : fn.body with
  | none => rw [hb] at he; cases he
  | some c =>
    rw [hb] at he
    simp only at he ⊢
    cases hn : Nat.ble args.length fn.ntmps with
    | false => rw [hn] at he; cases he
    | true =>
      rw [hn] at he
      obtain ⟨ex, e', h', t', h1, h2, h3⟩ := codeF_sound P C fn.ntmps fuel hfuel c (rep_args _ args (Nat.le_of_ble_eq_true hn)) he
      rw [h1]
      cases ex with
      | normal => simp only [Came, resT] at h3; rw [h2.toL] at h3; exact h3
      | ret => simp only [Came, resT] at h3; rw [h2.toL] at h3; exact h3
      | exit i => cases h3

/-- A round of a loop over a function, as the kernel runs it. -/
noncomputable def roundF (P : Program) (C : CallF) (fuel : Nat) (l : Nat) (args : List Value) (h : Heap) : Out :=
  match h.getB l with
  | some (.obj (.loop _ _ tmps params assign body)) =>
    match Nat.beq args.length params.length && (codeOk P assign && codeOk P body) with
    | true => codeF P C tmps.length fuel assign (treeOf tmps.length (putAll tmps (params.zip args))) h
        (fun t h1 => match h1.getB l with
          | some (.obj (.loop .ready p1 t1 q1 a1 b1)) => codeF P C tmps.length fuel body t (h1.setO l (.loop .busy p1 t1 q1 a1 b1)) (fun _ h2 => endRoundA l .normal h2) (fun _ h2 => endRoundA l .ret h2) (fun i _ h2 => endRoundA l (.exit i) h2)
          | _ => none) (fun _ _ => none) (fun _ _ _ => none)
    | false => none
  | _ => none
theorem length_putAll : ∀ {e : Env} (l : List (Tmp × Value)), (putAll e l).length = e.length
  | e, [] => rfl
  | e, (t, v) :: l => by simp only [putAll]; rw [length_putAll l]; simp
theorem roundF_sound (P : Program) (C : CallF) (fuel : Nat) (hfuel : fuel ≤ rounds) {l : Nat} {args : List Value} {h : Heap} {a : Value × Heap} (he : roundF P C fuel l args h = some a) : roundA P C l args h = some a := by
  unfold roundF at he
  unfold roundA
  split at he
  · rename_i st p0 tmps params assign body hg
    rw [hg]
    simp only
    split at he
    · rename_i hb
      rw [Bool.and_eq_true, Bool.and_eq_true] at hb
      rw [if_pos ⟨Nat.eq_of_beq_eq_true hb.1, hb.2.1, hb.2.2⟩]
      have hrep : Rep tmps.length (treeOf tmps.length (putAll tmps (params.zip args))) (putAll tmps (params.zip args)) := by
        have := rep_of (putAll tmps (params.zip args))
        rw [length_putAll] at this
        exact this
      obtain ⟨ex, e1, h1, t1, hc1, r1, c1⟩ := codeF_sound P C _ fuel hfuel assign hrep he
      rw [hc1]
      cases ex with
      | ret => cases c1
      | exit i => cases c1
      | normal =>
        simp only [Came] at c1
        simp only
        split at c1
        · rename_i p1 t1' q1 a1 b1 hg1
          rw [hg1]
          simp only
          obtain ⟨ex2, e2, h2, t2, hc2, r2, c2⟩ := codeF_sound P C _ fuel hfuel body r1 c1
          rw [hc2]
          cases ex2 <;> exact c2
        · cases c1
    · cases he
  · cases he

/-- Calls by fuel, as the kernel runs them; a function with a summary is called by it. -/
noncomputable def callF (P : Program) (ok : FuncId → Bool) (X : CallF) (sm : FuncId → Bool) (fuel : Nat) (k : Nat) : CallF :=
  Nat.rec (motive := fun _ => CallF) (fun _ _ _ => none)
    (fun _ ih f args h =>
      match sm f with
      | true => X f args h
      | false => match ok f with
        | true => match Nat.ble P.globals.size h.n0 with
          | true => match P.funcs[f]? with
            | some fn => bodyF P ih fuel fn args h
            | none => none
          | false => none
        | false => match Nat.ble P.funcs.size f && Nat.ble P.globals.size h.n0 with
          | true => roundF P ih fuel (f - P.funcs.size) args h
          | false => none) k

theorem callF_sound {P : Program} {ok : FuncId → Bool} {X : CallF} {sm : FuncId → Bool} {fuel : Nat} (hX : CSound P X) (hfuel : fuel ≤ rounds) (hm : P.follows .mixedOrders = true) (hok : ∀ f fn, ok f = true → P.funcs[f]? = some fn → fnOk P fn = true) :
    ∀ k, CSound P (callF P ok X sm fuel k)
  | 0 => ⟨(by intro f args h v h' e; cases e), (by intro f args h v h' e; cases e), (by intro f args h v h' e; cases e), (by intro f args h v h' e; cases e)⟩
  | k + 1 => by
    have ih := callF_sound (sm := sm) hX hfuel hm hok k
    have key : ∀ {f args h v h'}, callF P ok X sm fuel (k + 1) f args h = some (v, h') → X f args h = some (v, h') ∨ (∃ fn, P.funcs[f]? = some fn ∧ fnOk P fn = true ∧ P.globals.size ≤ h.n0 ∧ bodyA P (callF P ok X sm fuel k) fn args h = some (v, h')) ∨
        (P.funcs.size ≤ f ∧ P.globals.size ≤ h.n0 ∧ roundA P (callF P ok X sm fuel k) (f - P.funcs.size) args h = some (v, h')) := by
      intro f args h v h' he
      have he : (match sm f with
      | true => X f args h
      | false => match ok f with
        | true => match Nat.ble P.globals.size h.n0 with
          | true => match P.funcs[f]? with
            | some fn => bodyF P (callF P ok X sm fuel k) fuel fn args h
            | none => none
          | false => none
        | false => match Nat.ble P.funcs.size f && Nat.ble P.globals.size h.n0 with
          | true => roundF P (callF P ok X sm fuel k) fuel (f - P.funcs.size) args h
          | false => none) = some (v, h') := he
      cases h0 : sm f with
      | true => rw [h0] at he; exact .inl he
      | false =>
        rw [h0] at he
        cases h1 : ok f with
        | false =>
          rw [h1] at he
          cases h2 : (Nat.ble P.funcs.size f && Nat.ble P.globals.size h.n0) with
          | false => rw [h2] at he; cases he
          | true =>
            rw [h2] at he
            rw [Bool.and_eq_true] at h2
            exact .inr (.inr ⟨Nat.le_of_ble_eq_true h2.1, Nat.le_of_ble_eq_true h2.2, roundF_sound P _ fuel hfuel he⟩)
        | true =>
          rw [h1] at he
          cases h2 : Nat.ble P.globals.size h.n0 with
          | false => rw [h2] at he; cases he
          | true =>
            rw [h2] at he
            cases h3 : P.funcs[f]? with
            | none => simp only [h3] at he; cases he
            | some fn =>
              simp only [h3] at he
              exact .inr (.inl ⟨fn, rfl, hok f fn h1 h3, Nat.le_of_ble_eq_true h2, bodyF_sound P _ fuel hfuel he⟩)
    refine ⟨?_, ?_, ?_, ?_⟩
    · intro f args h v h' he
      rcases key he with h0 | ⟨fn, h1, h2, h3, h4⟩ | ⟨h1, h2, h3⟩
      · exact hX.grow _ _ _ _ _ h0
      · exact bodyA_grow ih h4
      · exact roundA_grow ih h3
    · intro f args h v h' he hba hbh
      rcases key he with h0 | ⟨fn, h1, h2, h3, h4⟩ | ⟨h1, h2, h3⟩
      · exact hX.bd _ _ _ _ _ h0 hba hbh
      · exact bodyA_bd ih h2 h3 h4 hba hbh
      · exact roundA_bd ih h3 h2 hba hbh
    · intro f args h v h' he hf hba hbh hg μ w args' S hfr r
      rcases key he with h0 | ⟨fn, h1, h2, h3, h4⟩ | ⟨h1, _⟩
      · exact hX.run _ _ _ _ _ h0 hf hba hbh hg μ w args' S hfr r
      · cases hb : fn.body with
        | none => unfold bodyA at h4; rw [hb] at h4; cases h4
        | some c =>
          have hco : codeOk P c = true := by
            unfold fnOk at h2
            rw [hb] at h2
            simp only [Bool.and_eq_true] at h2
            exact h2.2
          have h2' := h2
          unfold fnOk at h2'
          rw [Bool.and_eq_true, Bool.not_eq_true'] at h2'
          exact .inl ⟨fn, h1, h2'.1, by rw [hb]; rfl, body_sound ih hm h1 hb hco h4 hg hba hbh S hfr r⟩
      · exact absurd hf (Nat.not_lt.2 h1)
    · intro l args h v h' he hba hbh hg μ w args' L S hfr r hL
      rcases key he with h0 | ⟨fn, h1, _⟩ | ⟨_, _, h2⟩
      · exact hX.round _ _ _ _ _ h0 hba hbh hg μ w args' L S hfr r hL
      · exact absurd (Array.getElem?_eq_some_iff.1 h1).1 (Nat.not_lt.2 (Nat.le_add_right _ _))
      · rw [show yid P l - P.funcs.size = l from Nat.add_sub_cancel_left _ _] at h2
        exact round_sound ih hm h2 hg hba hbh S hfr r hL

end
end Go.Abs

namespace Go.Abs
noncomputable section

/-- A round goes on with fewer rounds to come, or ends the loop. -/
def Rnd (n : Nat) (Inv : Nat → (Nat → Value) → Heap → Prop) (fin : Ex → (Nat → Value) → Heap → Prop) (k : Nat) (o : Option (Ex × Env × Heap)) : Prop :=
  ∃ ex x' h', o = some (ex, mkF n x', h') ∧ ((ex = .normal ∧ ∃ j, j < k ∧ Inv j x' h') ∨ (ex ≠ .normal ∧ fin ex x' h'))
/-- What a loop comes to. -/
def Fin (n : Nat) (fin : Ex → (Nat → Value) → Heap → Prop) (o : Option (Ex × Env × Heap)) : Prop := ∃ ex x' h', o = some (ex, mkF n x', h') ∧ fin ex x' h'

section
variable {n : Nat} {Inv : Nat → (Nat → Value) → Heap → Prop} {fin : Ex → (Nat → Value) → Heap → Prop} {k : Nat}
theorem Rnd.next {x' : Nat → Value} {h' : Heap} (j : Nat) (hj : j < k) (hi : Inv j x' h') : Rnd n Inv fin k (some (.normal, mkF n x', h')) := ⟨_, _, _, rfl, .inl ⟨rfl, j, hj, hi⟩⟩
theorem Rnd.out {x' : Nat → Value} {h' : Heap} (i : Nat) (hi : fin (.exit i) x' h') : Rnd n Inv fin k (some (.exit i, mkF n x', h')) := ⟨_, _, _, rfl, .inr ⟨by simp, hi⟩⟩
theorem Rnd.ret {x' : Nat → Value} {h' : Heap} (hi : fin .ret x' h') : Rnd n Inv fin k (some (.ret, mkF n x', h')) := ⟨_, _, _, rfl, .inr ⟨by simp, hi⟩⟩

theorem loop_fin {P : Program} {C : CallF} {b : Code} {T : (Nat → Value) → Heap → Option (Ex × Env × Heap)} (hT : ∀ x h, codeA P C b (mkF n x) h = T x h)
    (hs : ∀ k x h, Inv k x h → Rnd n Inv fin k (T x h)) {x : Nat → Value} {h : Heap} (k : Nat) (hk : k < rounds) (hi : Inv k x h) : Fin n fin (iter (codeA P C b) rounds (mkF n x) h) :=
  loop_inv hT hs hk hi

theorem endL_fin {α : Type} {Q : Option α → Prop} {o : Option (Ex × Env × Heap)} {r : Env → Heap → Option α} {x : Nat → Env → Heap → Option α} (f : Fin n fin o)
    (h : ∀ ex x' h', fin ex x' h' → Q (endL (some (ex, mkF n x', h')) r x)) : Q (endL o r x) := by
  obtain ⟨ex, x', h', rfl, hf⟩ := f
  exact h ex x' h' hf
end

theorem res_one {P : Program} {rs : List ResultVar} {n t : Nat} (hr : rs = [.tmp t]) (ht : t < n) (x : Nat → Value) (h : Heap) : resultsA P rs (mkF n x) h = some (x t, h) := by
  subst hr
  have : (mkF n x).getD t undef = x t := by
    unfold mkF
    rw [List.getD_eq_getElem?_getD, List.getElem?_map, List.getElem?_range ht]; rfl
  simp only [resultsA, resultA, Option.map_some, this]

end
end Go.Abs

namespace Go.Abs
noncomputable section

/-- No number is given that a run might give. -/
def Top (μ : Mu) (h : Heap) : Prop := ∀ b, h.next ≤ b → μ b = none
theorem Top.free {μ : Mu} {h h' : Heap} (t : Top μ h) : Free μ h h' := fun b h1 _ => t b h1
theorem Top.step {μ μ' : Mu} {h h' : Heap} {w w' : World} (t : Top μ h) (st : Step μ h w μ' h' w') : Top μ' h' := fun b hb => by
  rw [st.ext b (.inr hb)]
  exact t b (Nat.le_trans st.next hb)

abbrev CallW := FuncId → List Value → Heap → (Value → Heap → Prop) → Prop
/-- Calls with one outcome. -/
def ofC (C : CallF) : CallW := fun f args h K => ∃ v h', C f args h = some (v, h') ∧ K v h'

/-- What is shown of a call: one of the outcomes that are told. -/
def AfterW (μ : Mu) (h : Heap) (w : World) (K : Value → Heap → Prop) (e : Ending) (w' : World) : Prop :=
  ∃ v h', K v h' ∧ Grow h h' ∧ bdV h'.next v = true ∧ HeapBd h' ∧ After μ h w v h' e w'

structure WSound (P : Program) (W : CallW) : Prop where
  run : ∀ f args h K, W f args h K → f < P.funcs.size → bdL h.next args = true → HeapBd h → P.globals.size ≤ h.n0 → ∀ μ w args', Sim μ h w → Top μ h → LRel μ args args' → Runs P f args'.toArray w (AfterW μ h w K)
  round : ∀ l args h K, W (yid P l) args h K → bdL h.next args = true → HeapBd h → P.globals.size ≤ h.n0 → ∀ μ w args' L, Sim μ h w → Top μ h → LRel μ args args' → μ l = some L →
    ∃ fn tmps assign body, (Instr.yield L.blk args'.toArray).run P w = .ok (.round L.blk fn tmps assign body) w ∧ ∀ n, RoundIn (Fr none) n P L.blk fn tmps assign body w (AfterW μ h w K)

theorem ofC_sound {P : Program} {C : CallF} (hC : CSound P C) : WSound P (ofC C) := by
  have up : ∀ {f args h v h'} {K : Value → Heap → Prop} {μ w}, C f args h = some (v, h') → K v h' → bdL h.next args = true → HeapBd h → ∀ e w', After μ h w v h' e w' → AfterW μ h w K e w' := by
    intro f args h v h' K μ w he hk hb hh e w' ha
    obtain ⟨h1, h2⟩ := hC.bd _ _ _ _ _ he hb hh
    exact ⟨v, h', hk, hC.grow _ _ _ _ _ he, h1, h2, ha⟩
  refine ⟨?_, ?_⟩
  · rintro f args h K ⟨v, h', he, hk⟩ hf hb hh hg μ w args' S t r
    exact (hC.run _ _ _ _ _ he hf hb hh hg μ w args' S t.free r).mono (up he hk hb hh)
  · rintro l args h K ⟨v, h', he, hk⟩ hb hh hg μ w args' L S t r hL
    obtain ⟨fn, tmps, assign, body, h1, h2⟩ := hC.round _ _ _ _ _ he hb hh hg μ w args' L S t.free r hL
    exact ⟨fn, tmps, assign, body, h1, fun n => (h2 n).mono (up he hk hb hh)⟩

def callAW (P : Program) (W : CallW) (f : Value) (args : List Value) (h : Heap) (K : Value → Heap → Prop) : Prop :=
  match f with
  | .func (.func i) first captured => i < P.funcs.size ∧ W i (first.toList ++ args ++ captured.toList) h K
  | .func (.yield l) first _ => W (yid P l) (first.toList ++ args) h K
  | _ => False

def noC : CallF := fun _ _ _ => none
theorem noC_sound (P : Program) : CSound P noC := ⟨by simp [noC], by simp [noC], by simp [noC], by simp [noC]⟩

/-- One operation. -/
def opW (P : Program) (W : CallW) (o : Oper) (ρ : Operand → Value) (h : Heap) (K : Value → Heap → Prop) : Prop :=
  match o.op with
  | .next it false => ∃ l, nextsA (ρ it) h = some l ∧ ∀ r ∈ l, K r.1 r.2
  | .call { callee := .value f, args, .. } => callAW P W (ρ f) (args.toList.map ρ) h K
  | _ => ∃ v h', opA P noC o ρ h = some (v, h') ∧ K v h'

def opsW (P : Program) (W : CallW) (ops : Array Oper) : List Oper → Env → Heap → (Env → Heap → Prop) → Prop
  | [], e, h, K => K e h
  | o :: rest, e, h, K => if wantA ops o e = true then opW P W o (ev e) h fun v h' => opsW P W ops rest (putD e o.dst v) h' K else opsW P W ops rest (putD e o.dst undef) h K

def iterW (step : Env → Heap → (Ex → Env → Heap → Prop) → Prop) : Nat → Env → Heap → (Ex → Env → Heap → Prop) → Prop
  | 0, _, _, _ => False
  | n + 1, e, h, K => step e h fun x e' h' => match x with
    | .normal => iterW step n e' h' K
    | x => K x e' h'

/-- A piece of code. -/
def codeW (P : Program) (C : CallF) (W : CallW) : Code → Env → Heap → (Ex → Env → Heap → Prop) → Prop
  | .skip, e, h, K => K .normal e h
  | .region _ ops draw, e, h, K => match draw with
    | true => ∃ e' h', regionA P C ops true e h = some (e', h') ∧ K .normal e' h'
    | false => opsW P W ops ops.toList e h (K .normal)
  | .seq a b, e, h, K => codeW P C W a e h fun x e' h' => match x with
    | .normal => codeW P C W b e' h' K
    | x => K x e' h'
  | .cond c a b, e, h, K => match ev e c with
    | .bool true => codeW P C W a e h K
    | .bool false => codeW P C W b e h K
    | _ => False
  | .block id b, e, h, K => codeW P C W b e h fun x e' h' => match x with
    | .exit i => K (if i = id then .normal else .exit i) e' h'
    | x => K x e' h'
  | .loop b, e, h, K => iterW (codeW P C W b) rounds e h K
  | .exit i, e, h, K => K (.exit i) e h
  | .scope b, e, h, K => codeW P C W b e h K
  | .label _, e, h, K => K .normal e h
  | .ret, e, h, K => K .ret e h
  | .rangeFunc g ps a b, e, h, K => match ev e g with
    | .func (.func i) first captured => hasBody P i = true ∧ W i (first.toList ++ [.func (.yield h.next) #[] #[]] ++ captured.toList) (h.allocB (.obj (.loop .ready none e ps.toList a b)))
        fun _ h2 => ∃ x e' h', endLoopA h.next e h2 = some (x, e', h') ∧ K x e' h'
    | _ => False
  | .goto _, _, _, _ => False
  | .refuse _, _, _, _ => False

/-- A function's body. -/
def bodyW (P : Program) (C : CallF) (W : CallW) (fn : Func) (args : List Value) (h : Heap) (K : Value → Heap → Prop) : Prop :=
  match fn.body with
  | none => False
  | some c => codeW P C W c (args ++ List.replicate (fn.ntmps - args.length) undef) h fun x e h' => match x with
    | .exit _ => False
    | _ => ∃ v h2, resultsA P fn.results.toList e h' = some (v, h2) ∧ K v h2

section
variable {P : Program} {C : CallF} {W : CallW}

/-- What is shown behind one operation. -/
def GoodW (P : Program) (o : Oper) (a : Act) (μ : Mu) (h : Heap) (w : World) (K : Value → Heap → Prop) : Prop :=
  ∀ (r : Option Nat) (n : Nat) (K' : Act → World → Prop) (Q : Exit → Act → World → Prop),
    (∀ v h' μ' v' w', K v h' → Grow h h' → bdV h'.next v = true → HeapBd h' → Sim μ' h' w' → Step μ h w μ' h' w' → VRel μ' v v' → K' (a.put o.dst v') w') → o.wpIn (Fr r) n P a w K' Q

theorem opW_det {o : Oper} {a : Act} {μ : Mu} {h : Heap} {w : World} {ρ : Operand → Value} {K : Value → Heap → Prop} (S : Sim μ h w) (t : Top μ h) (hρ : ∀ x ∈ o.op.operands.toList, VRel μ (ρ x) (a.eval x)) (hg : P.globals.size ≤ h.n0)
    (hbo : ∀ x ∈ o.op.operands.toList, bdV h.next (ρ x) = true) (hbh : HeapBd h) (e : ∃ v h', opA P noC o ρ h = some (v, h') ∧ K v h') : GoodW P o a μ h w K := by
  obtain ⟨v, h', ho, hk⟩ := e
  intro r n K' Q hK
  obtain ⟨h1, h2⟩ := opA_bd (noC_sound P) hbh hbo ho
  exact opA_sound (noC_sound P) S t.free hρ hg (fun _ _ _ _ => ⟨hbo, hbh⟩) ho r n K' Q (fun μ' v' w' hS hSt hv => hK v h' μ' v' w' hk (opA_grow (noC_sound P) ho) h1 h2 hS hSt hv)

theorem opW_sound (hW : WSound P W) {o : Oper} {a : Act} {μ : Mu} {h : Heap} {w : World} {ρ : Operand → Value} {K : Value → Heap → Prop} (S : Sim μ h w) (t : Top μ h) (hρ : ∀ x ∈ o.op.operands.toList, VRel μ (ρ x) (a.eval x)) (hg : P.globals.size ≤ h.n0)
    (hbo : ∀ x ∈ o.op.operands.toList, bdV h.next (ρ x) = true) (hbh : HeapBd h) (e : opW P W o ρ h K) : GoodW P o a μ h w K := by
  unfold opW at e
  split at e
  · rename_i it heq
    rw [heq] at hρ hbo
    obtain ⟨l, hl, hk⟩ := e
    intro r n K' Q hK
    obtain ⟨p, hp, v', w', hrun, hS, hSt, hv⟩ := nexts_sound (P := P) (ty := o.type) S (hρ it (by simp [Op.operands])) hl
    obtain ⟨hb1, hb2⟩ := bd_nexts hbh hl p hp
    refine ⟨fun _ _ => trivial, ?_⟩
    rw [semAt_run (x := .value v') (w' := w') (by unfold execOp; rw [heq]; simp only [Sem.run_bind, hrun, Result.andThen_ok, Sem.run_pure]) (by intro d hd; cases hd)]
    exact hK p.1 p.2 μ v' w' (hk p hp) (grow_nexts hl p hp) hb1 hb2 hS hSt hv
  · rename_i f args tys heq
    rw [heq] at hρ hbo
    have hfv := hρ f (by simp [Op.operands, Call.operands])
    have hff := hbo f (by simp [Op.operands, Call.operands])
    have hargs : ∀ x ∈ args.toList, VRel μ (ρ x) (a.eval x) := fun x hx => hρ x (by
      simp only [Op.operands, Call.operands, Array.toList_append, List.mem_append]; exact .inr hx)
    have hargb : bdL h.next (args.toList.map ρ) = true := by
      rw [bdL_iff]
      intro y hy
      obtain ⟨x, hx, rfl⟩ := List.mem_map.1 hy
      exact hbo x (by simp only [Op.operands, Call.operands, Array.toList_append, List.mem_append]; exact .inr hx)
    unfold callAW at e
    split at e
    · rename_i i first captured hfe
      obtain ⟨hi, e⟩ := e
      rw [hfe] at hfv
      obtain ⟨g, first', captured', hfe', hg', h1, h2⟩ := hfv.func_iff
      cases hg'
      have hall := (h1.append (list_rel hargs)).append h2
      have hba : bdL h.next (first.toList ++ args.toList.map ρ ++ captured.toList) = true := by
        rw [hfe] at hff
        obtain ⟨lf⟩ := first
        obtain ⟨lc⟩ := captured
        simp only [bdV, Bool.and_eq_true] at hff
        exact bdL_append (bdL_append hff.2.1 hargb) hff.2.2
      have hcalls := hW.run _ _ _ _ e hi hba hbh hg μ w _ S t hall
      intro r n K' Q hK
      refine ⟨fun _ _ => trivial, ?_⟩
      have hres : (execOp a.eval o).run P w = (callFunc i ((first'.toList ++ args.toList.map a.eval ++ captured'.toList).toArray)).run P w := by
        unfold execOp
        rw [heq]
        simp only
        unfold resolve
        simp only [hfe', Deferred.ofValue, Sem.run_bind, Sem.run_pure, Result.andThen_ok, invoke]
        congr 2
        apply Array.ext'
        simp
      rcases hcalls with ⟨fn, hfn, hname, hbody, hcalls⟩ | ⟨v', w', hrun, v0, h0, hk, hgr, hb1, hb2, μ', v1, hv1, hS, hSt, hv⟩
      · rw [semAt_run (x := .enter i ((first'.toList ++ args.toList.map a.eval ++ captured'.toList).toArray)) (w' := w) (by
          rw [hres]
          unfold callFunc
          simp only [Sem.run_bind, run_program, Result.andThen_ok, hfn, hname, hbody, Bool.false_eq_true, if_false, Sem.run_pure]) (by intro d hd; cases hd)]
        refine ⟨(fun h => by cases h), ?_⟩
        refine (calls_fr hcalls).mono ?_
        rintro e w' ⟨v0, h0, hk, hgr, hb1, hb2, μ', v', rfl, hS, hSt, hv⟩
        exact hK v0 h0 μ' v' w' hk hgr hb1 hb2 hS hSt hv
      · cases hv1
        rw [semAt_run (x := .value v') (w' := w') (by rw [hres]; exact hrun) (by intro d hd; cases hd)]
        exact hK v0 h0 μ' v' w' hk hgr hb1 hb2 hS hSt hv
    · rename_i l first captured hfe
      rw [hfe] at hfv
      obtain ⟨g, first', captured', hfe', hg', h1, h2⟩ := hfv.func_iff
      obtain ⟨L, hL, rfl⟩ := hg'
      have hall := h1.append (list_rel hargs)
      have hba : bdL h.next (first.toList ++ args.toList.map ρ) = true := by
        rw [hfe] at hff
        obtain ⟨lf⟩ := first
        obtain ⟨lc⟩ := captured
        simp only [bdV, Bool.and_eq_true] at hff
        exact bdL_append hff.2.1 hargb
      obtain ⟨fn, tmps, assign, body, hy, hround⟩ := hW.round _ _ _ _ e hba hbh hg μ w _ L S t hall hL
      intro r n K' Q hK
      refine ⟨fun _ _ => trivial, ?_⟩
      have hres : (execOp a.eval o).run P w = .ok (.round L.blk fn tmps assign body) w := by
        unfold execOp
        rw [heq]
        simp only
        unfold resolve
        simp only [hfe', Deferred.ofValue, Sem.run_bind, Sem.run_pure, Result.andThen_ok, invoke]
        have : first' ++ args.map a.eval = (first'.toList ++ args.toList.map a.eval).toArray := by
          apply Array.ext'
          simp
        rw [this]
        exact hy
      rw [semAt_run hres (by intro d hd; cases hd)]
      refine ⟨(fun h => by cases h), ?_⟩
      refine RoundIn.mono (F := Fr r) (hround (n - 1)) ?_
      rintro e w' ⟨v0, h0, hk, hgr, hb1, hb2, μ', v', rfl, hS, hSt, hv⟩
      exact hK v0 h0 μ' v' w' hk hgr hb1 hb2 hS hSt hv
    · exact e.elim
  · exact opW_det S t hρ hg hbo hbh e

/-- What is shown behind a piece of code: an outcome that is told, and the world as the machine has it. -/
def QW (s : Nat) (μ : Mu) (h : Heap) (w : World) (K : Ex → Env → Heap → Prop) (Q : Exit → Act → World → Prop) : Prop :=
  ∀ x e' h' a' w', K x e' h' → Grow h h' → bdL h'.next e' = true → HeapBd h' → (∃ μ' rs, Sim μ' h' w' ∧ Step μ h w μ' h' w' ∧ ERel (marksOf rs) μ' e' a' ∧ Marks s μ' h' w' rs) → Q (exOf x) a' w'

def CodeGoodW (P : Program) (C : CallF) (W : CallW) (c : Code) : Prop :=
  ∀ (ro : Option Nat) (nd s : Nat) (rs : List Nat) (e : Env) (h : Heap) (K : Ex → Env → Heap → Prop) (μ : Mu) (a : Act) (w : World) (Q : Exit → Act → World → Prop), codeW P C W c e h K → P.globals.size ≤ h.n0 → bdL h.next e = true → HeapBd h → Sim μ h w → Top μ h →
    ERel (marksOf rs) μ e a → Marks s μ h w rs → s ≤ w.heap.size → RoOk ro w → QW s μ h w K Q → c.wpIn (Fr ro) nd P Q a w

theorem opsW_sound (hW : WSound P W) {ro : Option Nat} {nd s : Nat} {rs : List Nat} {ops : Array Oper} {Q : Exit → Act → World → Prop} : ∀ (l : List Oper) (k : Nat) {μ : Mu} {e : Env} {h : Heap} {K : Env → Heap → Prop} {a : Act} {w : World}, ops.toList.drop k = l → l.all (operOk P) = true →
    opsW P W ops l e h K → P.globals.size ≤ h.n0 → bdL h.next e = true → HeapBd h → Sim μ h w → Top μ h → ERel (marksOf rs) μ e a → Marks s μ h w rs →
    (∀ e' h' a' w', K e' h' → Grow h h' → bdL h'.next e' = true → HeapBd h' → (∃ μ' rs, Sim μ' h' w' ∧ Step μ h w μ' h' w' ∧ ERel (marksOf rs) μ' e' a' ∧ Marks s μ' h' w' rs) → Q .normal a' w') → wpOpsIn (Fr ro) nd P ops Q (List.range' k l.length) a w
  | [], k, μ, e, h, K, a, w, _, _, he, _, hbe, hbh, S, t, r, m, hQ => by
    simp only [List.length_nil, List.range'_zero, wpOpsIn]
    exact hQ e h a w he (Grow.refl _) hbe hbh ⟨μ, rs, S, .same_world, r, m⟩
  | o :: l, k, μ, e, h, K, a, w, hd, hok, he, hg, hbe, hbh, S, t, r, m, hQ => by
    simp only [opsW] at he
    simp only [List.all_cons, Bool.and_eq_true] at hok
    have hko : ops[k]? = some o := by
      have : ops.toList[k]? = some o := by
        have := congrArg (fun l => l[0]?) hd
        simpa using this
      simpa using this
    have hd' : ops.toList.drop (k + 1) = l := by
      have := congrArg (List.drop 1) hd
      rw [List.drop_drop] at this
      simpa [Nat.add_comm] using this
    simp only [List.length_cons, List.range'_succ, wpOpsIn, hko, want_rel (ops := ops) r] at he ⊢
    by_cases hw : Region.wanted o (yielded ops a.tmps) = true
    · rw [if_pos hw] at he ⊢
      have hbo : ∀ x ∈ o.op.operands.toList, bdV h.next (ev e x) = true := fun x hx => bd_ev hg hbe (List.all_eq_true.1 hok.1 x hx)
      refine opW_sound hW (ρ := ev e) S t (fun x hx => ev_rel S hg r (List.all_eq_true.1 hok.1 x hx)) hg hbo hbh he _ _ _ _ ?_
      intro v h1 μ1 v' w1 hk hgr hb1 hb2 hS hSt hv
      refine opsW_sound hW l (k + 1) hd' hok.2 hk (by rw [hgr.2.1]; exact hg) (bd_putD (bdL_mono hgr.1 hbe) hb1) hb2 hS (t.step hSt) ((r.mono (hSt.mono t.free)).put o.dst hv) (m.step hSt) ?_
      rintro e' h' a' w' hk' hgr' hb1' hb2' ⟨μ2, rs2, hS2, hSt2, r2, m2⟩
      exact hQ e' h' a' w' hk' (hgr.trans hgr') hb1' hb2' ⟨μ2, rs2, hS2, hSt.trans hSt2, r2, m2⟩
    · rw [if_neg hw] at he ⊢
      exact ⟨fun _ _ => trivial, opsW_sound hW l (k + 1) hd' hok.2 he hg (bd_putD hbe rfl) hbh S t (r.put o.dst undef_rel) m hQ⟩

theorem QW.trans {s : Nat} {μ μ1 : Mu} {h h1 : Heap} {w w1 : World} {K : Ex → Env → Heap → Prop} {Q : Exit → Act → World → Prop} (q : QW s μ h w K Q) (hgr : Grow h h1) (st : Step μ h w μ1 h1 w1) : QW s μ1 h1 w1 K Q := by
  rintro x e' h' a' w' hk hg hb1 hb2 ⟨μ', rs, S, St, r, m⟩
  exact q x e' h' a' w' hk (hgr.trans hg) hb1 hb2 ⟨μ', rs, S, st.trans St, r, m⟩

theorem iterW_good {b : Code} (hb : CodeGoodW P C W b) : ∀ (n : Nat) {e : Env} {h : Heap} {K : Ex → Env → Heap → Prop} {ro : Option Nat} {nd s : Nat} {rs : List Nat} {μ : Mu} {a : Act} {w : World} {Q : Exit → Act → World → Prop}, iterW (codeW P C W b) n e h K →
    P.globals.size ≤ h.n0 → bdL h.next e = true → HeapBd h → Sim μ h w → Top μ h → ERel (marksOf rs) μ e a → Marks s μ h w rs → s ≤ w.heap.size → RoOk ro w → QW s μ h w K Q → Code.roundsIn (Fr ro) nd P b Q n a w
  | 0, _, _, _, _, _, _, _, _, _, _, _, he, _, _, _, _, _, _, _, _, _, _ => he.elim
  | n + 1, e, h, K, ro, nd, s, rs, μ, a, w, Q, he, hg, hbe, hbh, S, t, r, hmk, hsz, hro, hQ => by
    rw [roundsIn_succ']
    simp only [iterW] at he
    refine hb _ _ s rs _ _ _ _ _ _ _ he hg hbe hbh S t r hmk hsz hro ?_
    rintro x e' h' a' w' hk hgr hb1 hb2 ⟨μ1, rs1, hS, hSt, hr, hmk1⟩
    cases x with
    | normal => exact iterW_good hb n hk (by rw [hgr.2.1]; exact hg) hb1 hb2 hS (t.step hSt) hr hmk1 (Nat.le_trans hsz hSt.size) (hro.step hSt) (hQ.trans hgr hSt)
    | ret => exact hQ _ e' h' a' w' hk hgr hb1 hb2 ⟨μ1, rs1, hS, hSt, hr, hmk1⟩
    | exit i => exact hQ _ e' h' a' w' hk hgr hb1 hb2 ⟨μ1, rs1, hS, hSt, hr, hmk1⟩

end
end
end Go.Abs

namespace Go.Abs
noncomputable section
inductive SumT where
  | leaf (n : Nat) (s : List Value → Heap → Out)
  | node (k : Nat) (l r : SumT)
def SumT.run (t : SumT) : CallF :=
  SumT.rec (motive := fun _ => CallF) (fun n s f args h => Bool.rec (motive := fun _ => Out) none (s args h) (Nat.beq f n)) (fun k _ _ il ir f args h => Bool.rec (motive := fun _ => Out) (ir f args h) (il f args h) (Nat.blt f k)) t
def SumT.has (t : SumT) : Nat → Bool :=
  SumT.rec (motive := fun _ => Nat → Bool) (fun n _ f => Nat.beq f n) (fun k _ _ il ir f => Bool.rec (motive := fun _ => Bool) (ir f) (il f) (Nat.blt f k)) t
def SumT.Ok (P : Program) : SumT → Prop
  | .leaf n s => Contract P n s
  | .node _ l r => l.Ok P ∧ r.Ok P
theorem SumT.mem {P : Program} : ∀ (t : SumT), t.Ok P → ∀ {f : FuncId} {args : List Value} {h : Heap} {r : Value × Heap}, t.run f args h = some r → ∃ s, Contract P f s ∧ s args h = some r
  | .leaf n s, ok, f, args, h, r, e => by
    have e' : Bool.rec (motive := fun _ => Out) none (s args h) (Nat.beq f n) = some r := e
    clear e
    cases hb : Nat.beq f n with
    | false => rw [hb] at e'; cases e'
    | true =>
      rw [hb] at e'
      have := Nat.eq_of_beq_eq_true hb
      subst this
      exact ⟨s, ok, e'⟩
  | .node k a b, ok, f, args, h, r, e => by
    have e : Bool.rec (motive := fun _ => Out) (b.run f args h) (a.run f args h) (Nat.blt f k) = some r := e
    cases hb : Nat.blt f k with
    | false => rw [hb] at e; exact SumT.mem b ok.2 e
    | true => rw [hb] at e; exact SumT.mem a ok.1 e
theorem SumT.sound {P : Program} {t : SumT} (ok : t.Ok P) : CSound P t.run := by
  refine ⟨?_, ?_, ?_, ?_⟩
  · intro f args h v h' he
    obtain ⟨s, hp, he'⟩ := t.mem ok he
    exact hp.grow args h v h' he'
  · intro f args h v h' he
    obtain ⟨s, hp, he'⟩ := t.mem ok he
    exact hp.bd args h v h' he'
  · intro f args h v h' he _
    obtain ⟨s, hp, he'⟩ := t.mem ok he
    exact hp.run args h v h' he'
  · intro l' args h v h' he
    obtain ⟨s, hp, _⟩ := t.mem ok he
    exact absurd hp.fn (Nat.not_lt.2 (Nat.le_add_right _ _))
end
end Go.Abs

