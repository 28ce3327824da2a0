/-
  The abstract machine: operations one behind the other; what grows.
  Conditions: the calls' summaries are sound (CSound).
  The abstract machine: frames of heaps; heaps out of functions; what is before what in a region.
  Conditions: none (lemmas).
  The abstract machine: a region whose order the tape draws.
  Conditions: the calls' summaries are sound (CSound).
  The abstract machine: a region whose order the tape draws does what one order does.
  Conditions: the calls' summaries are sound (CSound).
  The abstract machine: the invariant of a region whose order the tape draws.
  Conditions: the calls' summaries are sound (CSound).
  The abstract machine: one step of a region whose order the tape draws.
  Conditions: the calls' summaries are sound (CSound).
  The abstract machine: a region whose order the tape draws, whole.
  Conditions: the calls' summaries are sound (CSound).
  The abstract machine: regions, code and bodies do what the evaluator says.
  Conditions: the calls' summaries are sound (CSound); the program follows the mixed orders.
  The abstract machine: code and bodies do what the evaluator says.
  Conditions: the calls' summaries are sound (CSound); the program follows the mixed orders.
  The abstract machine in passing style: the code with what comes behind it, as the walk's texts are printed; it says what codeA says.
  Conditions: none (definitions and lemmas).
  The abstract machine: a function's body run is the function called; contracts; what a run leaves behind unseen is dropped and what is left is numbered anew.
  Conditions: as each theorem states.
  The abstract machine: contracts of functions, and how one is shown of a function's body.
  Conditions: as each theorem states.
  The abstract machine's operations with their types resolved: the words of the printed texts.
  Conditions: none (definitions).
  The abstract machine in passing style once more, over environments that only grow, and by bare recursors: the form that the kernel reduces well.
  Conditions: none (definitions and lemmas).
  The abstract machine: rules for reading the printed texts.
  Conditions: none (lemmas).
  The abstract machine: contracts of functions that answer and leave nothing.
  Conditions: as each theorem states.
  The abstract machine: environments as functions with few entries written anew: how loops' rounds and what comes behind them are told.
  Conditions: none (lemmas).
  The abstract machine: bit operations on natural numbers.
  Conditions: as each theorem states.
  The abstract machine: what is kept of a heap; stores at known places.
  Conditions: as each theorem states.
  The abstract machine: environments as functions; how loops' rounds and what comes behind them are told; loops by what stands before each round.
  Conditions: as each theorem states.
  The abstract machine: calls of functions by fuel, each by its own body; a run without arguments from an empty heap tells what the function answers in every heap.
  Conditions: as each theorem states.
-/
import Derived.Test.YtcmfgmhadeeieaaG1
import Derived.LoopN
namespace Go.Abs

/-- Nothing that was there has gone from the heap's count. -/
def Grow (h h' : Heap) : Prop := h.next ≤ h'.next ∧ h'.n0 = h.n0 ∧ h'.old = h.old
theorem Grow.refl (h : Heap) : Grow h h := ⟨Nat.le_refl _, rfl, rfl⟩
theorem Grow.trans {a b c : Heap} (x : Grow a b) (y : Grow b c) : Grow a c := ⟨Nat.le_trans x.1 y.1, y.2.1.trans x.2.1, y.2.2.trans x.2.2⟩
theorem Grow.alloc (h : Heap) (k : Blk) : Grow h (h.alloc k) := ⟨by simp, rfl, rfl⟩
theorem Grow.kill_alloc (h : Heap) (b : Nat) (k : Blk) : Grow h ((h.kill b).alloc k) := ⟨by simp, rfl, rfl⟩
theorem Grow.of_stL {b off : Nat} {xs : List Value} {h h' : Heap} (e : stL b off xs h = some h') : Grow h h' := by
  unfold stL at e
  split at e
  · split at e
    · cases e; exact ⟨Nat.le_refl _, rfl, rfl⟩
    · cases e
  · cases e

section ops
variable {P : Program} {C : CallF} {h h' : Heap} {v : Value}

theorem grow_append {size by_ : Nat} {s x : Value} (e : appendA size by_ s x h = some (v, h')) : Grow h h' := by
  unfold appendA at e
  repeat' split at e
  all_goals first
    | (cases e; done)
    | (simp only [Option.some.injEq, Prod.mk.injEq] at e; obtain ⟨_, rfl⟩ := e; first | exact Grow.refl _ | exact Grow.alloc _ _ | exact Grow.kill_alloc _ _ _)
    | (simp only [Option.map_eq_some_iff, Prod.mk.injEq] at e; obtain ⟨h1, hs, _, rfl⟩ := e; exact Grow.of_stL hs)

theorem grow_copy {size : Nat} {s x : Value} (e : copyA size s x h = some (v, h')) : Grow h h' := by
  unfold copyA at e
  simp only at e
  repeat' split at e
  all_goals first
    | (cases e; done)
    | (simp only [Option.some.injEq, Prod.mk.injEq] at e; obtain ⟨_, rfl⟩ := e; exact Grow.refl _)
    | (simp only [Option.map_eq_some_iff, Prod.mk.injEq] at e; obtain ⟨h1, hs, _, rfl⟩ := e; exact Grow.of_stL hs)
theorem grow_clear {size : Nat} {t : TypeId} {s : Value} (e : clearA P t size s h = some (v, h')) : Grow h h' := by
  unfold clearA at e
  repeat' split at e
  all_goals first
    | (cases e; done)
    | (simp only [Option.some.injEq, Prod.mk.injEq] at e; obtain ⟨_, rfl⟩ := e; exact Grow.refl _)
    | (simp only [Option.map_eq_some_iff, Prod.mk.injEq] at e; obtain ⟨h1, hs, _, rfl⟩ := e; exact Grow.of_stL hs)
theorem grow_builtin {b : Builtin} {ts : List TypeId} {args : List Value} (e : builtinA P b ts args h = some (v, h')) : Grow h h' := by
  unfold builtinA at e
  split at e
  · repeat' split at e
    all_goals first
      | (cases e; done)
      | exact grow_append e
  · split at e
    · simp only [Option.bind_eq_some_iff] at e; obtain ⟨n, _, e⟩ := e; exact grow_copy e
    · cases e
  · split at e
    · simp only [Option.bind_eq_some_iff] at e; obtain ⟨n, _, e⟩ := e; exact grow_clear e
    · cases e
  · simp only [Option.map_eq_some_iff, Prod.mk.injEq] at e; obtain ⟨_, _, _, rfl⟩ := e; exact Grow.refl _
  · simp only [Option.map_eq_some_iff, Prod.mk.injEq] at e; obtain ⟨_, _, _, rfl⟩ := e; exact Grow.refl _
  · simp only [Option.map_eq_some_iff, Prod.mk.injEq] at e; obtain ⟨_, _, _, rfl⟩ := e; exact Grow.refl _
  · cases e

theorem opA_grow (hC : CSound P C) {o : Oper} {ρ : Operand → Value} (e : opA P C o ρ h = some (v, h')) : Grow h h' := by
  have pure_of : ∀ {r : Option Value}, r.map (fun v => (v, h)) = some (v, h') → Grow h h' := by
    intro r e
    simp only [Option.map_eq_some_iff, Prod.mk.injEq] at e
    obtain ⟨x, _, _, rfl⟩ := e
    exact Grow.refl _
  unfold opA at e
  simp only at e
  split at e
  · cases e; exact Grow.refl _
  · cases e; exact Grow.refl _
  · split at e
    · cases e; exact Grow.refl _
    · cases e
  · unfold zero at e
    repeat' split at e
    all_goals first
      | (cases e; done)
      | (simp only [newRow, Option.some.injEq, Prod.mk.injEq] at e; obtain ⟨_, rfl⟩ := e; exact Grow.alloc _ _)
  · unfold box at e
    split at e
    · simp only [newRow, Option.some.injEq, Prod.mk.injEq] at e; obtain ⟨_, rfl⟩ := e; exact Grow.alloc _ _
    · cases e
  · exact pure_of e
  · unfold buildSliceA at e
    repeat' split at e
    all_goals first
      | (cases e; done)
      | (simp only [Option.some.injEq, Prod.mk.injEq] at e; obtain ⟨_, rfl⟩ := e; exact Grow.alloc _ _)
  · unfold ld at e
    split at e
    · unfold ldN at e
      repeat' split at e
      all_goals first
        | (cases e; done)
        | (simp only [Option.some.injEq, Prod.mk.injEq] at e; obtain ⟨_, rfl⟩ := e; exact Grow.refl _)
    · unfold ld1 at e
      repeat' split at e
      all_goals first
        | (cases e; done)
        | (simp only [Option.some.injEq, Prod.mk.injEq] at e; obtain ⟨_, rfl⟩ := e; exact Grow.refl _)
    · cases e
  · unfold st at e
    split at e
    · unfold stN at e
      split at e
      · split at e
        · simp only [Option.map_eq_some_iff, Prod.mk.injEq] at e; obtain ⟨h1, hs, _, rfl⟩ := e; exact Grow.of_stL hs
        · cases e
      · cases e
    · cases e
  · exact pure_of e
  · exact pure_of e
  · exact pure_of e
  · unfold convA at e
    split at e
    · cases e; exact Grow.refl _
    · cases e; exact Grow.refl _
    · repeat' split at e
      all_goals first
        | (cases e; done)
        | (simp only [Option.some.injEq, Prod.mk.injEq] at e; obtain ⟨_, rfl⟩ := e; exact Grow.alloc _ _)
    · repeat' split at e
      all_goals first
        | (cases e; done)
        | (cases e; exact Grow.refl _)
    · repeat' split at e
      all_goals first
        | (cases e; done)
        | (cases e; exact Grow.refl _)
    · cases e
  · unfold makeA at e
    repeat' split at e
    all_goals first
      | (cases e; done)
      | (simp only [Option.some.injEq, Prod.mk.injEq] at e; obtain ⟨_, rfl⟩ := e; exact Grow.alloc _ _)
  · exact pure_of e
  · exact pure_of e
  · exact pure_of e
  · exact pure_of e
  · exact pure_of e
  · exact pure_of e
  · split at e
    · exact grow_builtin e
    · unfold callA at e
      split at e
      · exact hC.grow _ _ _ _ _ e
      · cases e
    · cases e
  · cases e

theorem opA_bd (hC : CSound P C) {o : Oper} {ρ : Operand → Value} (hb : HeapBd h) (hρ : ∀ x ∈ o.op.operands.toList, bdV h.next (ρ x) = true) (e : opA P C o ρ h = some (v, h')) : bdV h'.next v = true ∧ HeapBd h' := by
  have pure_of : ∀ {r : Option Value}, (∀ v, r = some v → bdV h.next v = true) → r.map (fun v => (v, h)) = some (v, h') → bdV h'.next v = true ∧ HeapBd h' := by
    intro r hr e
    simp only [Option.map_eq_some_iff, Prod.mk.injEq] at e
    obtain ⟨x, rfl, rfl, rfl⟩ := e
    exact ⟨hr x rfl, hb⟩
  have hop : ∀ op, o.op = op → (∀ x ∈ op.operands.toList, bdV h.next (ρ x) = true) := fun op h => h ▸ hρ
  have hparts : ∀ {parts : Array (Nat × Operand)}, (∀ x ∈ parts.toList.map (·.2), bdV h.next (ρ x) = true) → ∀ p ∈ parts.toList.map (fun (i, x) => (i, ρ x)), bdV h.next p.2 = true := by
    intro parts hp p hm
    obtain ⟨q, hq, rfl⟩ := List.mem_map.1 hm
    exact hp q.2 (List.mem_map.2 ⟨q, hq, rfl⟩)
  unfold opA at e
  simp only at e
  split at e
  · rename_i x heq; cases e; exact ⟨hop _ heq x (by simp [Op.operands]), hb⟩
  · rename_i x heq; cases e; exact ⟨hop _ heq x (by simp [Op.operands]), hb⟩
  · rename_i c x y heq
    split at e
    · rename_i t _
      cases e
      refine ⟨?_, hb⟩
      cases t
      · exact hop _ heq y (by simp [Op.operands])
      · exact hop _ heq x (by simp [Op.operands])
    · cases e
  · unfold zero at e
    split at e
    · split at e
      · rename_i hf
        simp only [newRow, Option.some.injEq, Prod.mk.injEq] at e
        obtain ⟨rfl, rfl⟩ := e
        exact ⟨by simp [bdV, ptr], hb.alloc (bdL_flat hf)⟩
      · cases e
    · cases e
  · rename_i t x heq
    unfold box at e
    split at e
    · simp only [newRow, Option.some.injEq, Prod.mk.injEq] at e
      obtain ⟨rfl, rfl⟩ := e
      exact ⟨by simp [bdV, ptr], hb.alloc (bdL_mono (Nat.le_succ _) (bdL_cells (hop _ heq x (by simp [Op.operands]))))⟩
    · cases e
  · rename_i t parts heq
    exact pure_of (fun v hv => bd_build (hparts fun x hx => hop _ heq x (by simpa [Op.operands] using hx)) hv) e
  · rename_i t len parts heq
    exact bd_buildSlice hb (hparts fun x hx => hop _ heq x (by simpa [Op.operands] using hx)) e
  · exact bd_ld hb e
  · rename_i t x y heq
    exact bd_st hb (hop _ heq y (by simp [Op.operands])) e
  · rename_i x heq
    exact pure_of (fun v hv => bd_nil (hop _ heq x (by simp [Op.operands])) hv) e
  · exact pure_of (fun v hv => bdV_flat (bin_flat hv)) e
  · exact pure_of (fun v hv => bdV_flat (un_flat hv)) e
  · rename_i s d x heq
    exact bd_conv hb (hop _ heq x (by simp [Op.operands])) e
  · exact bd_make hb e
  · rename_i t x lo hi mx heq
    exact pure_of (fun v hv => bd_slice (hop _ heq x (by simp [Op.operands])) hv) e
  · rename_i t x i heq
    exact pure_of (fun v hv => bd_fieldAt (hop _ heq x (by simp [Op.operands])) hv) e
  · rename_i t x i heq
    exact pure_of (fun v hv => bd_field (hop _ heq x (by simp [Op.operands])) hv) e
  · rename_i t x i heq
    exact pure_of (fun v hv => bd_indexAt (hop _ heq x (by simp [Op.operands])) hv) e
  · rename_i t x i heq
    exact pure_of (fun v hv => bd_index (hop _ heq x (by simp [Op.operands])) hv) e
  · rename_i x i heq
    exact pure_of (fun v hv => bd_extract (hop _ heq x (by simp [Op.operands])) hv) e
  · rename_i c heq
    have hargs : bdL h.next (c.args.toList.map ρ) = true := by
      rw [bdL_iff]
      intro y hy
      obtain ⟨x, hx, rfl⟩ := List.mem_map.1 hy
      exact hop _ heq x (by simp only [Op.operands, Call.operands, Array.toList_append, List.mem_append]; exact .inr hx)
    split at e
    · exact bd_builtin hb hargs e
    · rename_i f hcv
      unfold callA at e
      split at e
      · rename_i i first captured hfe
        have hff := hop _ heq f (by simp [Op.operands, Call.operands, hcv])
        rw [hfe] at hff
        obtain ⟨lf⟩ := first
        obtain ⟨lc⟩ := captured
        simp only [bdV, Bool.and_eq_true] at hff
        exact hC.bd _ _ _ _ _ e (bdL_append (bdL_append hff.1 hargs) hff.2) hb
      · cases e
    · cases e
  · cases e

theorem bd_putD {n : Nat} {e : Env} {d : Option Tmp} {v : Value} (he : bdL n e = true) (hv : bdV n v = true) : bdL n (putD e d v) = true := by
  cases d with
  | none => exact he
  | some t => exact bdL_set he hv
theorem bd_ev {e : Env} {x : Operand} {h : Heap} (hg : P.globals.size ≤ h.n0) (he : bdL h.next e = true) (hx : opdOk P x = true) : bdV h.next (ev e x) = true := by
  cases x with
  | tmp t => exact bdL_getD he
  | const v => exact bdV_flat hx
  | global g =>
    have hlt : g < P.globals.size := by simpa [opdOk] using hx
    have := h.n0_le_next
    simp only [ev, ptr, bdV, decide_eq_true_eq]
    omega
  | func f => rfl

/-- The frame's values on both sides. -/
def ERel (μ : Mu) (e : Env) (a : Act) : Prop := LRel μ e a.tmps.toList ∧ a.defers = []

theorem ERel.mono {μ μ' : Mu} {e : Env} {a : Act} (r : ERel μ e a) (hm : ∀ b L, μ b = some L → μ' b = some L) : ERel μ' e a := ⟨r.1.mono hm, r.2⟩

theorem ERel.put {μ : Mu} {e : Env} {a : Act} (r : ERel μ e a) (d : Option Tmp) {x y : Value} (hv : VRel μ x y) : ERel μ (putD e d x) (a.put d y) := by
  cases d with
  | none => exact r
  | some t =>
    refine ⟨?_, r.2⟩
    simp only [putD, Act.put]
    rw [Array.toList_setIfInBounds]
    exact r.1.set t hv

theorem ev_rel {μ : Mu} {h : Heap} {w : World} {e : Env} {a : Act} (S : Sim μ h w) (hg : P.globals.size ≤ h.n0) (r : ERel μ e a) {x : Operand} (hx : opdOk P x = true) : VRel μ (ev e x) (a.eval x) := by
  cases x with
  | tmp t =>
    have := r.1.getD t
    simpa [ev, Act.eval] using this
  | const v => exact .flat hx
  | global g =>
    have hlt : g < P.globals.size := by simpa [opdOk] using hx
    obtain ⟨L, hL, hB, hO⟩ := S.low g (by omega)
    have := VRel.ptr (off := 0) hL
    rw [hB, hO] at this
    exact this
  | func f => exact .flat rfl

theorem yield_rel {μ : Mu} {ops : Array Oper} {e : Env} {a : Act} (r : ERel μ e a) (j : Nat) : yieldA ops e j = yielded ops a.tmps j := by
  unfold yieldA yielded
  cases hd : (ops[j]?).bind (·.dst) with
  | none => rfl
  | some t =>
    simp only [Option.bind_some]
    cases hx : e[t]? with
    | none =>
      have : a.tmps[t]? = none := by
        have h1 := r.1.1
        have h2 : a.tmps.toList.length = a.tmps.size := Array.length_toList
        rw [List.getElem?_eq_none_iff] at hx
        rw [Array.getElem?_eq_none_iff]
        omega
      rw [this]
    | some x =>
      obtain ⟨y, hy, hv⟩ := r.1.get hx
      have hy' : a.tmps[t]? = some y := by simpa using hy
      rw [hy']
      cases hv with
      | flat h => rfl
      | _ => rfl

theorem want_rel {μ : Mu} {ops : Array Oper} {o : Oper} {e : Env} {a : Act} (r : ERel μ e a) : wantA ops o e = Region.wanted o (yielded ops a.tmps) := by
  unfold wantA Region.wanted
  cases o.guard with
  | none => rfl
  | some p => obtain ⟨j, b⟩ := p; simp only; rw [yield_rel r j]

/-- What is shown behind a piece of a run. -/
def Behind (μ : Mu) (h : Heap) (w : World) (e' : Env) (h' : Heap) (a' : Act) (w' : World) : Prop :=
  ∃ μ', Sim μ' h' w' ∧ Step μ h w μ' h' w' ∧ ERel μ' e' a'

theorem opsA_sound (hC : CSound P C) {ops : Array Oper} {Q : Exit → Act → World → Prop} : ∀ (l : List Oper) (k : Nat) {μ : Mu} {e e' : Env} {h h' : Heap} {a : Act} {w : World}, ops.toList.drop k = l → l.all (operOk P) = true →
    opsA P C ops l e h = some (e', h') → P.globals.size ≤ h.n0 → bdL h.next e = true → HeapBd h → Sim μ h w → Free μ h h' → ERel μ e a → (∀ a' w', Behind μ h w e' h' a' w' → Q .normal a' w') → wpOps P ops Q (List.range' k l.length) a w
  | [], k, μ, e, e', h, h', a, w, _, _, he, _, _, _, S, _, r, hQ => by
    simp only [opsA, Option.some.injEq, Prod.mk.injEq] at he
    obtain ⟨rfl, rfl⟩ := he
    simp only [List.length_nil, List.range'_zero, wpOps]
    exact hQ a w ⟨μ, S, .same_world, r⟩
  | o :: l, k, μ, e, e', h, h', a, w, hd, hok, he, hg, hbe, hbh, S, hf, r, hQ => by
    simp only [opsA] at he
    simp only [List.all_cons, Bool.and_eq_true] at hok
    have hko : ops[k]? = some o := by
      have : ops.toList[k]? = some o := by
        have := congrArg (fun l => l[0]?) hd
        simpa using this
      simpa using this
    have hd' : ops.toList.drop (k + 1) = l := by
      have := congrArg (List.drop 1) hd
      rw [List.drop_drop] at this
      simpa [Nat.add_comm] using this
    split at he
    · rename_i e1 h1 hs
      unfold stepA at hs
      simp only [List.length_cons, List.range'_succ, wpOps, hko, want_rel (ops := ops) r] at hs ⊢
      by_cases hw : Region.wanted o (yielded ops a.tmps) = true
      · rw [if_pos hw] at hs ⊢
        split at hs
        · rename_i v h1' hop
          simp only [Option.some.injEq, Prod.mk.injEq] at hs
          obtain ⟨rfl, rfl⟩ := hs
          have hgr := opA_grow hC hop
          have hgr2 : ∀ (l : List Oper) {e e' : Env} {h h' : Heap}, opsA P C ops l e h = some (e', h') → Grow h h' := by
            intro l
            induction l with
            | nil => intro e e' h h' he; simp only [opsA, Option.some.injEq, Prod.mk.injEq] at he; obtain ⟨_, rfl⟩ := he; exact Grow.refl _
            | cons o l ih =>
              intro e e' h h' he
              simp only [opsA] at he
              split at he
              · rename_i e1 h1 hs
                unfold stepA at hs
                split at hs
                · split at hs
                  · rename_i v hv hop; cases hs; exact (opA_grow hC hop).trans (ih he)
                  · cases hs
                · cases hs; exact ih he
              · cases he
          have hgr3 := hgr2 _ he
          have hbo : ∀ x ∈ o.op.operands.toList, bdV h.next (ev e x) = true := fun x hx => bd_ev hg hbe (List.all_eq_true.1 hok.1 x hx)
          obtain ⟨hbv, hbh1⟩ := opA_bd hC hbh hbo hop
          refine .inl (opA_sound hC (ρ := ev e) S (hf.first hgr3.1) (fun x hx => ev_rel S hg r (List.all_eq_true.1 hok.1 x hx)) hg (fun _ _ _ _ => ⟨hbo, hbh⟩) hop _ _ ?_)
          intro μ1 v' w1 hS hSt hv
          refine opsA_sound hC l (k + 1) hd' hok.2 he (by rw [hgr.2.1]; exact hg) (bd_putD (bdL_mono hgr.1 hbe) hbv) hbh1 hS (hf.second hSt) ((r.mono (hSt.mono (hf.first hgr3.1))).put o.dst hv) ?_
          rintro a' w' ⟨μ2, hS2, hSt2, r2⟩
          exact hQ a' w' ⟨μ2, hS2, hSt.trans hSt2, r2⟩
        · cases hs
      · rw [if_neg hw] at hs ⊢
        simp only [Option.some.injEq, Prod.mk.injEq] at hs
        obtain ⟨rfl, rfl⟩ := hs
        exact opsA_sound hC l (k + 1) hd' hok.2 he hg (bd_putD hbe rfl) hbh S hf (r.put o.dst undef_rel) hQ
    · cases he

theorem region_seq_sound (hC : CSound P C) {id : Nat} {ops : Array Oper} {Q : Exit → Act → World → Prop} {μ : Mu} {e e' : Env} {h h' : Heap} {a : Act} {w : World} (hok : ops.toList.all (operOk P) = true)
    (he : opsA P C ops ops.toList e h = some (e', h')) (hg : P.globals.size ≤ h.n0) (hbe : bdL h.next e = true) (hbh : HeapBd h) (S : Sim μ h w) (hf : Free μ h h') (r : ERel μ e a) (hQ : ∀ a' w', Behind μ h w e' h' a' w' → Q .normal a' w') :
    (Code.region id ops false).wp P Q a w := by
  refine wp_region ?_
  have := opsA_sound hC (ops := ops) (Q := Q) ops.toList 0 rfl hok he hg hbe hbh S hf r hQ
  rwa [Array.length_toList, ← List.range_eq_range'] at this

end ops
end Go.Abs

namespace Go.Abs

/-- Fewer blocks. -/
def Sub (h G : Heap) : Prop := h.n0 = G.n0 ∧ h.old = G.old ∧ ∀ b k, h.n0 ≤ b → h.get b = some k → G.get b = some k

theorem Sim.sub {μ : Mu} {h G : Heap} {w : World} (s : Sim μ G w) (hs : Sub h G) : Sim μ h w := by
  obtain ⟨h1, h2, h3⟩ := hs
  refine ⟨?_, ?_, ?_, ?_, ?_⟩
  · rw [h1, h2]; exact s.old
  · intro b k hb hg
    have := s.new b k (h1 ▸ hb) (h3 b k hb hg)
    rw [h1]; exact this
  · intro b b' k k' L L' hb hb' hne hg hg'
    exact s.inj b b' k k' L L' (h1 ▸ hb) (h1 ▸ hb') hne (h3 _ _ hb hg) (h3 _ _ hb' hg')
  · rw [h1]; exact s.size
  · rw [h1]; exact s.low

theorem Own.sub {μ : Mu} {h G : Heap} {B : Nat} (o : Own μ h B) (hs : Sub h G) : Own μ G B := by
  obtain ⟨b, k, L, h1, h2, h3, h4⟩ := o
  exact ⟨b, k, L, hs.1 ▸ h1, hs.2.2 b k h1 h2, h3, h4⟩

/-- The heap behind a run on fewer blocks: the run's own blocks, and the others as they were. -/
structure Framed (G h h1 G' : Heap) : Prop where
  n0 : G'.n0 = G.n0
  old : G'.old = G.old
  get : ∀ b k, G'.n0 ≤ b → G'.get b = some k → h1.get b = some k ∨ (G.get b = some k ∧ h.get b = none ∧ (b < h.next ∨ h1.next ≤ b))

theorem Sim.frame {μ μ1 : Mu} {G h h1 G' : Heap} {w w1 : World} (s : Sim μ G w) (hs : Sub h G) (st : Step μ h w μ1 h1 w1) (s1 : Sim μ1 h1 w1) (hf : Free μ h h1) (fr : Framed G h h1 G') : Sim μ1 G' w1 := by
  have hm := st.mono hf
  have hn0 : h1.n0 = G.n0 := st.n0.trans hs.1
  -- a block that the run did not see
  have key : ∀ b k, G.n0 ≤ b → G.get b = some k → h.get b = none → (b < h.next ∨ h1.next ≤ b) → ∃ L, μ b = some L ∧ μ1 b = some L ∧ ¬ Own μ h L.blk ∧ L.blk < w.heap.size ∧ Holds μ1 w1 G.n0 b k := by
    intro b k hb hg hn hr
    obtain ⟨L, arr, T, f, h2, h3, h4, h5, h6, h7, h8, h9⟩ := s.new b k hb hg
    have hno : ¬ Own μ h L.blk := by
      rintro ⟨c, kc, Lc, c1, c2, c3, c4⟩
      refine s.inj b c k kc L Lc hb (hs.1 ▸ c1) ?_ hg (hs.2.2 c kc c1 c2) h2 c3 c4.symm
      rintro rfl
      rw [hn] at c2; cases c2
    have hlt : L.blk < w.heap.size := (Array.getElem?_eq_some_iff.1 h4).1
    have hμ : μ1 b = some L := by rw [st.ext b hr]; exact h2
    exact ⟨L, h2, hμ, hno, hlt, L, arr, T, f, hμ, h3, by rw [st.same _ hlt hno]; exact h4, h5, h6, h7, h8, h9.mono hm⟩
  refine ⟨?_, ?_, ?_, ?_, ?_⟩
  · intro b cs hb hc
    rw [fr.n0] at hb
    rw [fr.old] at hc
    exact s1.old b cs (hn0 ▸ hb) (by rw [st.old, hs.2.1]; exact hc)
  · intro b k hb hg
    rcases fr.get b k hb hg with h2 | ⟨h2, h3, h4⟩
    · have := s1.new b k (by rw [hn0, ← fr.n0]; exact hb) h2
      rw [fr.n0, ← hn0]; exact this
    · obtain ⟨_, _, _, _, _, hh⟩ := key b k (fr.n0 ▸ hb) h2 h3 h4
      rw [fr.n0]; exact hh
  · intro b b' k k' L L' hb hb' hne hg hg' hL hL'
    have hb0 : G.n0 ≤ b := fr.n0 ▸ hb
    have hb0' : G.n0 ≤ b' := fr.n0 ▸ hb'
    have cross : ∀ {b b' : Nat} {k k' : Blk} {L L' : Loc}, G.n0 ≤ b → G.n0 ≤ b' → h1.get b = some k → μ1 b = some L → G.get b' = some k' → h.get b' = none → (b' < h.next ∨ h1.next ≤ b') → μ1 b' = some L' → L.blk ≠ L'.blk := by
      intro b b' k k' L L' c0 c0' c1 c2 c3 c4 c5 c6 heq
      obtain ⟨L2, g1, g2, g3, g4, _⟩ := key b' k' c0' c3 c4 c5
      rw [g2] at c6; cases c6
      rcases st.own L.blk ⟨b, k, L, by rw [hn0]; exact c0, c1, c2, rfl⟩ with h6 | h6
      · exact g3 (heq ▸ h6)
      · omega
    rcases fr.get b k hb hg with h2 | ⟨h2, h3, h4⟩
    · rcases fr.get b' k' hb' hg' with h2' | ⟨h2', h3', h4'⟩
      · exact s1.inj b b' k k' L L' (by rw [hn0]; exact hb0) (by rw [hn0]; exact hb0') hne h2 h2' hL hL'
      · exact cross hb0 hb0' h2 hL h2' h3' h4' hL'
    · rcases fr.get b' k' hb' hg' with h2' | ⟨h2', h3', h4'⟩
      · exact (cross hb0' hb0 h2' hL' h2 h3 h4 hL).symm
      · rw [st.ext b h4] at hL
        rw [st.ext b' h4'] at hL'
        exact s.inj b b' k k' L L' hb0 hb0' hne h2 h2' hL hL'
  · rw [fr.n0, ← hn0]; exact s1.size
  · rw [fr.n0, ← hn0]; exact s1.low

theorem Step.frame {μ0 μ μ1 : Mu} {h0 G h h1 G' : Heap} {w0 w w1 : World} (st0 : Step μ0 h0 w0 μ G w) (hs : Sub h G) (st : Step μ h w μ1 h1 w1) (fr : Framed G h h1 G') (hn : G'.next = G.next)
    (hlo : h0.next ≤ h.next) (hhi : h1.next ≤ G.next) : Step μ0 h0 w0 μ1 G' w1 where
  ext b hb := by
    rw [hn] at hb
    rw [st.ext b (by omega), st0.ext b hb]
  n0 := fr.n0.trans st0.n0
  old := fr.old.trans st0.old
  next := by rw [hn]; exact st0.next
  os := st.os.trans st0.os
  tape := st.tape.trans st0.tape
  output := st.output.trans st0.output
  size := Nat.le_trans st0.size st.size
  same B hB hO := by
    rw [st.same B (Nat.lt_of_lt_of_le hB st0.size) (fun ho => (st0.own B (ho.sub hs)).elim hO (fun h2 => by omega))]
    exact st0.same B hB hO
  own := by
    rintro B ⟨b, k, L, hb, hg, hL, rfl⟩
    rcases fr.get b k hb hg with h2 | ⟨h2, h3, h4⟩
    · rcases st.own L.blk ⟨b, k, L, by rw [st.n0, hs.1, ← fr.n0]; exact hb, h2, hL, rfl⟩ with h5 | h5
      · exact st0.own _ (h5.sub hs)
      · exact .inr (Nat.le_trans st0.size h5)
    · rw [st.ext b h4] at hL
      exact st0.own _ ⟨b, k, L, fr.n0 ▸ hb, h2, hL, rfl⟩

/-- A heap with given new blocks. -/
def heapOf (n0 : Nat) (old : Nat → Option (List Value)) (g : Nat → Option Blk) : Nat → Heap
  | 0 => ⟨n0, old, .nil, 0⟩
  | i + 1 => match g (n0 + i) with
    | some k => (heapOf n0 old g i).alloc k
    | none => ((heapOf n0 old g i).alloc []).kill (n0 + i)

theorem heapOf_spec (n0 : Nat) (old : Nat → Option (List Value)) (g : Nat → Option Blk) : ∀ i, (heapOf n0 old g i).n0 = n0 ∧ (heapOf n0 old g i).old = old ∧ (heapOf n0 old g i).next = n0 + i ∧
    ∀ b, n0 ≤ b → (heapOf n0 old g i).get b = if b < n0 + i then g b else none
  | 0 => by
    refine ⟨rfl, rfl, rfl, fun b hb => ?_⟩
    simp [heapOf, Heap.get, Nat.not_lt.2 hb]
  | i + 1 => by
    obtain ⟨h1, h2, h3, h4⟩ := heapOf_spec n0 old g i
    unfold heapOf
    cases hg : g (n0 + i) with
    | some k =>
      refine ⟨h1, h2, by simp [h3]; omega, fun b hb => ?_⟩
      simp only
      rw [Heap.get_alloc, h3]
      by_cases e : b = n0 + i
      · subst e; simp [hg]
      · rw [if_neg e, h4 b hb]
        by_cases e2 : b < n0 + i
        · rw [if_pos e2, if_pos (by omega)]
        · rw [if_neg e2, if_neg (by omega)]
    | none =>
      refine ⟨h1, h2, by simp [h3]; omega, fun b hb => ?_⟩
      simp only
      unfold Heap.kill
      rw [Heap.get_put _ (by simp [h1]) (by simp [h3]), Heap.get_alloc, h3]
      by_cases e : b = n0 + i
      · subst e; simp [hg]
      · rw [if_neg e, if_neg e, h4 b hb]
        by_cases e2 : b < n0 + i
        · rw [if_pos e2, if_pos (by omega)]
        · rw [if_neg e2, if_neg (by omega)]

/-! What is before what. -/

def befStep (acc : Array Nat) (o : Oper) : Nat := o.after.foldl (fun s e => if Region.binds .any e then s ||| 2 ^ e.on ||| acc.getD e.on 0 else s) 0

theorem befStep_bit {acc : Array Nat} {o : Oper} {j : Nat} (h : (befStep acc o).testBit j = true) : ∃ e ∈ o.after.toList, Region.binds .any e = true ∧ (e.on = j ∨ (acc.getD e.on 0).testBit j = true) := by
  unfold befStep at h
  rw [← Array.foldl_toList] at h
  have key : ∀ (l : List Edge) (s : Nat), (l.foldl (fun s e => if Region.binds .any e then s ||| 2 ^ e.on ||| acc.getD e.on 0 else s) s).testBit j = true →
      s.testBit j = true ∨ ∃ e ∈ l, Region.binds .any e = true ∧ (e.on = j ∨ (acc.getD e.on 0).testBit j = true) := by
    intro l
    induction l with
    | nil => intro s h; exact .inl h
    | cons x l ih =>
      intro s h
      rw [List.foldl_cons] at h
      rcases ih _ h with h1 | ⟨e, he, h1⟩
      · split at h1
        · rename_i hb
          rw [Nat.testBit_or, Nat.testBit_or, Nat.testBit_two_pow] at h1
          simp only [Bool.or_eq_true, decide_eq_true_eq] at h1
          rcases h1 with (h1 | h1) | h1
          · exact .inl h1
          · exact .inr ⟨x, by simp, hb, .inl h1⟩
          · exact .inr ⟨x, by simp, hb, .inr h1⟩
        · exact .inl h1
      · exact .inr ⟨e, by simp [he], h1⟩
  rcases key _ _ h with h | h
  · simp at h
  · exact h

theorem before_foldl : ∀ (l : List Oper) (acc : Array Nat), ∃ r : Array Nat, l.foldl (fun acc o => acc.push (befStep acc o)) acc = r ∧ r.size = acc.size + l.length ∧ (∀ i, i < acc.size → r.getD i 0 = acc.getD i 0) ∧
    ∀ i o, l[i]? = some o → ∃ acc' : Array Nat, acc'.size = acc.size + i ∧ (∀ k, k < acc'.size → acc'.getD k 0 = r.getD k 0) ∧ r.getD (acc.size + i) 0 = befStep acc' o
  | [], acc => ⟨acc, rfl, rfl, fun _ _ => rfl, by simp⟩
  | o :: l, acc => by
    obtain ⟨r, h1, h2, h3, h4⟩ := before_foldl l (acc.push (befStep acc o))
    have hp : ∀ i, i < acc.size → (acc.push (befStep acc o)).getD i 0 = acc.getD i 0 := by
      intro i hi
      simp [Array.getElem?_push, Nat.ne_of_lt hi]
    have hp2 : (acc.push (befStep acc o)).getD acc.size 0 = befStep acc o := by simp
    refine ⟨r, by rw [List.foldl_cons]; exact h1, by rw [h2]; simp; omega, fun i hi => by rw [h3 i (by simp; omega), hp i hi], ?_⟩
    intro i u hu
    cases i with
    | zero =>
      simp only [List.getElem?_cons_zero, Option.some.injEq] at hu
      subst hu
      refine ⟨acc, rfl, fun k hk => ?_, ?_⟩
      · rw [h3 k (by simp; omega), hp k hk]
      · rw [Nat.add_zero, h3 _ (by simp), hp2]
    | succ i =>
      obtain ⟨acc', g1, g2, g3⟩ := h4 i u (by simpa using hu)
      refine ⟨acc', by rw [g1]; simp; omega, g2, ?_⟩
      rw [← g3]
      congr 1
      simp; omega

/-- Whatever is before an operation is one of the direct edges, or before one of them. -/
theorem before_spec {ops : Array Oper} {i j : Nat} {o : Oper} (ho : ops[i]? = some o) (h : befB (befM ops) i j = true) :
    ∃ e ∈ o.after.toList, Region.binds .any e = true ∧ (e.on = j ∨ (e.on < i ∧ befB (befM ops) e.on j = true)) := by
  unfold befB befM Region.before at h
  rw [← Array.foldl_toList] at h
  obtain ⟨r, h1, h2, h3, h4⟩ := before_foldl ops.toList #[]
  have hr : (Array.foldl (fun acc o => acc.push (o.after.foldl (fun s e => if Region.binds .any e then s ||| 2 ^ e.on ||| acc.getD e.on 0 else s) 0)) #[] ops) = r := by
    rw [← Array.foldl_toList]; exact h1
  obtain ⟨acc', g1, g2, g3⟩ := h4 i o (by simpa using ho)
  simp only [List.size_toArray, List.length_nil, Nat.zero_add] at g1 g3
  have hb : (befStep acc' o).testBit j = true := by
    rw [← g3]
    exact h1 ▸ h
  obtain ⟨e, he, hbind, hor⟩ := befStep_bit hb
  refine ⟨e, he, hbind, hor.imp id fun hj => ?_⟩
  have hlt : e.on < i := by
    rcases Nat.lt_or_ge e.on i with h5 | h5
    · exact h5
    · have : acc'.getD e.on 0 = 0 := by simp [Array.getElem?_eq_none (show acc'.size ≤ e.on by omega)]
      rw [this] at hj; simp at hj
  refine ⟨hlt, ?_⟩
  unfold befB befM Region.before
  rw [hr, ← g2 e.on (by omega)]
  exact hj

/-- A set of operations that holds all that its members hang on directly holds all that is before them. -/
theorem before_closed {ops : Array Oper} {X : Nat → Prop} (hX : ∀ i o, X i → ops[i]? = some o → ∀ e ∈ o.after.toList, Region.binds .any e = true → X e.on) :
    ∀ (i : Nat) (o : Oper), ops[i]? = some o → (∀ e ∈ o.after.toList, Region.binds .any e = true → X e.on) → (∀ k, X k → (ops[k]?).isSome) → ∀ j, befB (befM ops) i j = true → X j := by
  intro i
  induction i using Nat.strongRecOn with
  | _ i ih =>
    intro o ho hd hs j hj
    obtain ⟨e, he, hb, hor⟩ := before_spec ho hj
    rcases hor with rfl | ⟨hlt, hj2⟩
    · exact hd e he hb
    · have hx := hd e he hb
      obtain ⟨o2, ho2⟩ := Option.isSome_iff_exists.1 (hs _ hx)
      exact ih e.on hlt o2 ho2 (hX _ _ hx ho2) hs j hj2

end Go.Abs

namespace Go.Abs

section kinds
variable {P : Program} {C : CallF} {o : Oper} {ρ : Operand → Value} {h h' : Heap} {v : Value}

theorem kind_pure (hk : kindOf P o = .pure) (e : opA P C o ρ h = some (v, h')) : h' = h ∧ ∀ h2, opA P C o ρ h2 = some (v, h2) := by
  have pure_of : ∀ {r : Option Value}, r.map (fun v => (v, h)) = some (v, h') → h' = h ∧ ∀ h2 : Heap, r.map (fun v => (v, h2)) = some (v, h2) := by
    intro r e
    simp only [Option.map_eq_some_iff, Prod.mk.injEq] at e
    obtain ⟨x, rfl, rfl, rfl⟩ := e
    exact ⟨rfl, fun h2 => rfl⟩
  unfold opA at e ⊢
  simp only at e ⊢
  split at e
  all_goals (rename_i heq)
  all_goals try rw [heq]
  all_goals first
    | exact pure_of e
    | (cases e; exact ⟨rfl, fun _ => rfl⟩)
    | (split at e
       · cases e; rename_i hc; exact ⟨rfl, fun _ => by simp only [hc]⟩
       · cases e)
    | (simp [kindOf, heq] at hk; done)
    | (simp only [kindOf, heq] at hk; split at hk <;> cases hk; done)
    | (cases e; done)

theorem kind_read (hk : kindOf P o = .read) (e : opA P C o ρ h = some (v, h')) : h' = h := by
  unfold opA at e
  simp only at e
  split at e
  all_goals (rename_i heq)
  all_goals try (simp [kindOf, heq] at hk; done)
  · unfold ld at e
    split at e
    · unfold ldN at e
      repeat' split at e
      all_goals first
        | (cases e; done)
        | (simp only [Option.some.injEq, Prod.mk.injEq] at e; exact e.2.symm)
    · unfold ld1 at e
      repeat' split at e
      all_goals first
        | (cases e; done)
        | (simp only [Option.some.injEq, Prod.mk.injEq] at e; exact e.2.symm)
    · cases e
  · simp only [kindOf, heq] at hk
    unfold convA at e
    split at e
    · cases e; rfl
    · cases e; rfl
    · rename_i hd _; rw [hd] at hk; cases hk
    · rename_i hd _; rw [hd] at hk; cases hk
    · repeat' split at e
      all_goals first
        | (cases e; done)
        | (cases e; rfl)
    · cases e
  · rename_i c
    simp only [kindOf, heq] at hk
    split at hk
    all_goals first
      | (cases hk; done)
      | skip
    all_goals
      rename_i hc
      rw [hc] at e
      simp only [builtinA] at e
      split at e
      all_goals first
        | contradiction
        | (cases e; done)
        | (simp only [Option.map_eq_some_iff, Prod.mk.injEq] at e; obtain ⟨_, _, _, rfl⟩ := e; rfl)

theorem kind_alloc (hk : kindOf P o = .alloc) (e : opA P C o ρ h = some (v, h')) :
    ∃ (k : Blk) (mk : Nat → Value), h' = h.alloc k ∧ v = mk h.next ∧ ∀ h2 : Heap, opA P C o ρ h2 = some (mk h2.next, h2.alloc k) := by
  unfold opA at e ⊢
  simp only at e ⊢
  split at e
  all_goals (rename_i heq)
  all_goals try (simp [kindOf, heq] at hk; done)
  · simp only [zero] at e ⊢
    split at e
    · rename_i z hz
      split at e
      · rename_i hf
        simp only [newRow, Option.some.injEq, Prod.mk.injEq] at e
        obtain ⟨rfl, rfl⟩ := e
        exact ⟨_, fun n => ptr n 0, rfl, rfl, fun h2 => by simp only [hf, if_true, newRow]⟩
      · cases e
    · cases e
  · simp only [box] at e ⊢
    split at e
    · rename_i hf
      simp only [newRow, Option.some.injEq, Prod.mk.injEq] at e
      obtain ⟨rfl, rfl⟩ := e
      exact ⟨_, fun n => ptr n 0, rfl, rfl, fun h2 => by simp only [hf, if_true, newRow]⟩
    · cases e
  · simp only [buildSliceA] at e ⊢
    split at e
    · split at e
      · split at e
        · rename_i hc
          split at e
          · rename_i cs hcs
            simp only [Option.some.injEq, Prod.mk.injEq] at e
            obtain ⟨rfl, rfl⟩ := e
            exact ⟨_, fun n => .slice (some ⟨n, 0, none⟩) _ _, rfl, rfl, fun h2 => by rw [if_pos hc]⟩
          · cases e
        · cases e
      · cases e
    · cases e
  · simp only [kindOf, heq] at hk
    split at hk <;> cases hk
  · simp only [makeA] at e ⊢
    split at e
    · split at e
      · split at e
        · rename_i hc
          simp only [Option.some.injEq, Prod.mk.injEq] at e
          obtain ⟨rfl, rfl⟩ := e
          exact ⟨_, fun n => .slice (some ⟨n, 0, none⟩) _ _, rfl, rfl, fun h2 => by rw [if_pos hc]⟩
        · cases e
      · cases e
    · cases e
  · simp only [kindOf, heq] at hk
    split at hk <;> cases hk

end kinds
end Go.Abs

namespace Go.Abs

section late
variable {P : Program} {ops : Array Oper}

theorem mem_lateGo (P : Program) (m : Array Nat) (y : Nat × Oper) : ∀ (l pend : List (Nat × Oper)), y ∈ lateGo P m l pend ↔ y ∈ l ∨ y ∈ pend
  | [], pend => by simp [lateGo]
  | x :: l, pend => by
    unfold lateGo
    split
    · rw [mem_lateGo P m y l]; simp only [List.mem_append, List.mem_cons, List.not_mem_nil, or_false]
      grind
    · rw [List.mem_append, List.mem_cons, mem_lateGo P m y l, List.mem_filter, List.mem_filter, List.mem_cons]
      cases hb : befB m x.1 y.1 <;> grind

theorem mem_late {i : Nat} {o : Oper} : (i, o) ∈ late P ops ↔ ops[i]? = some o := by
  unfold late
  rw [mem_lateGo]
  simp only [List.not_mem_nil, or_false, List.mem_map, Prod.mk.injEq]
  constructor
  · rintro ⟨⟨u, k⟩, hm, rfl, rfl⟩
    have := List.mem_zipIdx_iff_getElem?.1 hm
    simpa using this
  · intro h
    exact ⟨(o, i), List.mem_zipIdx_iff_getElem?.2 (by simpa using h), rfl, rfl⟩

theorem pairs_spec {r : (Nat × Oper) → (Nat × Oper) → Bool} : ∀ {l : List (Nat × Oper)}, pairsOk r l = true → ∀ {p q : Nat} {x y : Nat × Oper}, p < q → l[p]? = some x → l[q]? = some y → r x y = true
  | [], _, p, q, x, y, _, hx, _ => by simp at hx
  | a :: l, h, p, q, x, y, hpq, hx, hy => by
    simp only [pairsOk, Bool.and_eq_true] at h
    cases q with
    | zero => omega
    | succ q =>
      simp only [List.getElem?_cons_succ] at hy
      cases p with
      | zero =>
        simp only [List.getElem?_cons_zero, Option.some.injEq] at hx
        subst hx
        exact List.all_eq_true.1 h.1 y (List.mem_of_getElem? hy)
      | succ p => exact pairs_spec (p := p) (q := q) h.2 (by omega) (by simpa using hx) hy
end late

/-- A run in one order: frames, heaps, values, and whether each operation ran. -/
structure Tra (P : Program) (C : CallF) (ops : Array Oper) (l : List (Nat × Oper)) (E : Nat → Env) (H : Nat → Heap) (V : Nat → Value) (R : Nat → Bool) : Prop where
  step : ∀ p x, l[p]? = some x → R p = wantA ops x.2 (E p) ∧ E (p + 1) = putD (E p) x.2.dst (V p) ∧
    (R p = true → opA P C x.2 (ev (E p)) (H p) = some (V p, H (p + 1))) ∧ (R p = false → V p = undef ∧ H (p + 1) = H p)

theorem trace_tra {P : Program} {C : CallF} {ops : Array Oper} : ∀ {l : List (Nat × Oper)} {e e' : Env} {h h' : Heap} {tr : List Tr1}, traceA P C ops l e h = some (tr, e', h') →
    ∃ E H V R, E 0 = e ∧ H 0 = h ∧ E l.length = e' ∧ H l.length = h' ∧ Tra P C ops l E H V R ∧ tr = (List.range l.length).map fun p => ⟨E p, H p, V p, R p⟩
  | [], e, e', h, h', tr, he => by
    simp only [traceA, Option.some.injEq, Prod.mk.injEq] at he
    obtain ⟨rfl, rfl, rfl⟩ := he
    exact ⟨fun _ => e, fun _ => h, fun _ => undef, fun _ => false, rfl, rfl, rfl, rfl, ⟨by simp⟩, rfl⟩
  | (i, o) :: l, e, e', h, h', tr, he => by
    have build : ∀ (v : Value) (h1 : Heap) (r : Bool) (tl : List Tr1), r = wantA ops o e → (r = true → opA P C o (ev e) h = some (v, h1)) → (r = false → v = undef ∧ h1 = h) →
        traceA P C ops l (putD e o.dst v) h1 = some (tl, e', h') → tr = ⟨e, h, v, r⟩ :: tl →
        ∃ E H V R, E 0 = e ∧ H 0 = h ∧ E ((i, o) :: l).length = e' ∧ H ((i, o) :: l).length = h' ∧ Tra P C ops ((i, o) :: l) E H V R ∧ tr = (List.range ((i, o) :: l).length).map fun p => ⟨E p, H p, V p, R p⟩ := by
      intro v h1 r tl hr hrt hrf htl htr
      obtain ⟨E, H, V, R, e0, h0, e1, h1', T, ht⟩ := trace_tra htl
      refine ⟨fun p => match p with | 0 => e | p + 1 => E p, fun p => match p with | 0 => h | p + 1 => H p, fun p => match p with | 0 => v | p + 1 => V p, fun p => match p with | 0 => r | p + 1 => R p,
        rfl, rfl, e1, h1', ⟨?_⟩, ?_⟩
      · intro p x hx
        cases p with
        | zero =>
          simp only [List.getElem?_cons_zero, Option.some.injEq] at hx
          subst hx
          refine ⟨hr, e0, fun h => ?_, fun h => ?_⟩
          · simp only; rw [h0]; exact hrt h
          · simp only; rw [h0]; exact hrf h
        | succ p => exact T.step p x (by simpa using hx)
      · rw [htr, ht, List.length_cons, List.range_succ_eq_map]
        simp [List.map_map, Function.comp_def]
    simp only [traceA] at he
    split at he
    · rename_i hw
      split at he
      · rename_i v h1 hop
        split at he
        · rename_i tl r htl
          simp only [Option.some.injEq, Prod.mk.injEq] at he
          obtain ⟨htr, rfl⟩ := he
          exact build v h1 true tl hw.symm (fun _ => hop) (by simp) htl htr.symm
        · cases he
      · cases he
    · rename_i hw
      split at he
      · rename_i tl r htl
        simp only [Option.some.injEq, Prod.mk.injEq] at he
        obtain ⟨htr, rfl⟩ := he
        exact build undef h false tl (by simpa using hw) (by simp) (fun _ => ⟨rfl, rfl⟩) htl htr.symm
      · cases he

/-- The frame when just the chosen operations have written. -/
def envS (l : List (Nat × Oper)) (V : Nat → Value) (x : Nat → Bool) (e : Env) : Nat → Env
  | 0 => e
  | p + 1 => if x p then putD (envS l V x e p) ((l[p]?).bind (·.2.dst)) (V p) else envS l V x e p

section envs
variable {l : List (Nat × Oper)} {V : Nat → Value} {e : Env}

theorem length_putD (e : Env) (d : Option Tmp) (v : Value) : (putD e d v).length = e.length := by cases d <;> simp [putD]
theorem length_envS (x : Nat → Bool) : ∀ n, (envS l V x e n).length = e.length
  | 0 => rfl
  | n + 1 => by
    unfold envS
    split
    · rw [length_putD, length_envS x n]
    · exact length_envS x n

theorem envS_congr {x y : Nat → Bool} {t : Tmp} : ∀ n, (∀ q, q < n → (l[q]?).bind (·.2.dst) = some t → x q = y q) → (envS l V x e n)[t]? = (envS l V y e n)[t]?
  | 0, _ => rfl
  | n + 1, h => by
    have ih := envS_congr n (fun q hq => h q (by omega))
    have hl : (envS l V x e n).length = (envS l V y e n).length := by rw [length_envS, length_envS]
    unfold envS
    by_cases hd : (l[n]?).bind (·.2.dst) = some t
    · have hxy := h n (by omega) hd
      rw [hd, hxy]
      split
      · show ((envS l V x e n).set t (V n))[t]? = ((envS l V y e n).set t (V n))[t]?
        rw [List.getElem?_set, List.getElem?_set, if_pos rfl, if_pos rfl, hl]
      · exact ih
    · have hput : ∀ z : Env, (putD z ((l[n]?).bind (·.2.dst)) (V n))[t]? = z[t]? := by
        intro z
        cases hz : (l[n]?).bind (·.2.dst) with
        | none => rfl
        | some u =>
          have : u ≠ t := by rintro rfl; exact hd hz
          simp only [putD]
          rw [List.getElem?_set_ne this]
      split <;> split <;> (try rw [hput]) <;> (try rw [hput]) <;> exact ih

theorem envS_first {x : Nat → Bool} {p : Nat} : ∀ n, p ≤ n → (∀ q, x q = decide (q < p)) → envS l V x e n = envS l V (fun _ => true) e p
  | 0, hp, _ => by obtain rfl : p = 0 := by omega
                   rfl
  | n + 1, hp, hx => by
    by_cases e1 : p = n + 1
    · subst e1
      have key : ∀ m, m ≤ n + 1 → envS l V x e m = envS l V (fun _ => true) e m := by
        intro m
        induction m with
        | zero => intro _; rfl
        | succ m ih =>
          intro hm
          unfold envS
          rw [ih (by omega), hx m]
          simp [show m < n + 1 from by omega]
      exact key _ (Nat.le_refl _)
    · have : x n = false := by rw [hx n]; simp; omega
      conv => lhs; unfold envS
      rw [this]
      exact envS_first n (by omega) hx

theorem tra_env {P : Program} {C : CallF} {ops : Array Oper} {E : Nat → Env} {H : Nat → Heap} {R : Nat → Bool} (T : Tra P C ops l E H V R) (h0 : E 0 = e) : ∀ p, p ≤ l.length → E p = envS l V (fun _ => true) e p
  | 0, _ => h0
  | p + 1, hp => by
    have hlt : p < l.length := by omega
    obtain ⟨_, h2, _⟩ := T.step p l[p] (List.getElem?_eq_getElem hlt)
    rw [h2, tra_env T h0 p (by omega)]
    simp [envS, List.getElem?_eq_getElem hlt]
end envs

end Go.Abs

namespace Go.Abs

mutual
theorem veq_eq : ∀ {a b : Value}, veq a b = true → a = b
  | .bool a, b, h => by cases b <;> simp [veq] at h; subst h; rfl
  | .int k a, b, h => by cases b <;> simp [veq] at h; obtain ⟨rfl, rfl⟩ := h; rfl
  | .float k a, b, h => by cases b <;> simp [veq] at h; obtain ⟨rfl, rfl⟩ := h; rfl
  | .complex k a c, b, h => by cases b <;> simp [veq] at h; obtain ⟨⟨rfl, rfl⟩, rfl⟩ := h; rfl
  | .string a, b, h => by
    cases b <;> simp [veq] at h
    rename_i c
    obtain ⟨x⟩ := a
    obtain ⟨y⟩ := c
    simp only at h
    rw [h]
  | .pointer a, b, h => by cases b <;> simp [veq] at h; subst h; rfl
  | .slice a l c, b, h => by cases b <;> simp [veq] at h; obtain ⟨⟨rfl, rfl⟩, rfl⟩ := h; rfl
  | .map a, b, h => by cases b <;> simp [veq] at h; subst h; rfl
  | .chan a, b, h => by cases b <;> simp [veq] at h; subst h; rfl
  | .nilFunc, b, h => by cases b <;> simp [veq] at h; rfl
  | .nilIface, b, h => by cases b <;> simp [veq] at h; rfl
  | .agg ⟨x⟩, b, h => by
    cases b <;> simp [veq] at h
    rename_i c
    obtain ⟨y⟩ := c
    simp only [veq] at h
    rw [veqL_eq h]
  | .tuple ⟨x⟩, b, h => by
    cases b <;> simp [veq] at h
    rename_i c
    obtain ⟨y⟩ := c
    simp only [veq] at h
    rw [veqL_eq h]
  | .func f ⟨x⟩ ⟨y⟩, b, h => by
    cases b <;> simp [veq] at h
    rename_i g c d
    obtain ⟨z⟩ := c
    obtain ⟨u⟩ := d
    simp only [veq, Bool.and_eq_true, beq_iff_eq] at h
    obtain ⟨⟨h1, h2⟩, h3⟩ := h
    rw [h1, veqL_eq h2, veqL_eq h3]
  | .iface t x, b, h => by
    cases b <;> simp [veq] at h
    rename_i u y
    obtain ⟨rfl, h2⟩ := h
    rw [veq_eq h2]
theorem veqL_eq : ∀ {a b : List Value}, veqL a b = true → a = b
  | [], b, h => by cases b <;> simp [veqL] at h; rfl
  | x :: a, b, h => by
    cases b <;> simp [veqL] at h
    obtain ⟨h1, h2⟩ := h
    rw [veq_eq h1, veqL_eq h2]
end

theorem kind_cases {P : Program} {C : CallF} (hC : CSound P C) {o : Oper} {ρ : Operand → Value} {h h' : Heap} {v : Value} (e : opA P C o ρ h = some (v, h')) :
    kindOf P o = .eff ∨ h' = h ∨ (kindOf P o = .alloc ∧ ∃ k, h' = h.alloc k) := by
  cases hk : kindOf P o with
  | pure => exact .inr (.inl (kind_pure hk e).1)
  | read => exact .inr (.inl (kind_read hk e))
  | alloc => obtain ⟨k, mk, h1, _⟩ := kind_alloc hk e; exact .inr (.inr ⟨rfl, k, h1⟩)
  | eff => exact .inl rfl

section tra
variable {P : Program} {C : CallF} {ops : Array Oper} {l : List (Nat × Oper)} {E : Nat → Env} {H : Nat → Heap} {V : Nat → Value} {R : Nat → Bool}

theorem Tra.grow1 (hC : CSound P C) (T : Tra P C ops l E H V R) {p : Nat} {x : Nat × Oper} (hx : l[p]? = some x) : Grow (H p) (H (p + 1)) := by
  obtain ⟨_, _, h3, h4⟩ := T.step p x hx
  cases hr : R p with
  | true => exact opA_grow hC (h3 hr)
  | false => rw [(h4 hr).2]; exact Grow.refl _

theorem Tra.grow (hC : CSound P C) (T : Tra P C ops l E H V R) {p q : Nat} (hpq : p ≤ q) (hq : q ≤ l.length) : Grow (H p) (H q) := by
  induction q with
  | zero => obtain rfl : p = 0 := by omega
            exact Grow.refl _
  | succ q ih =>
    by_cases e : p = q + 1
    · subst e; exact Grow.refl _
    · exact (ih (by omega) (by omega)).trans (T.grow1 hC (List.getElem?_eq_getElem (show q < l.length by omega)))

theorem Tra.bd (hC : CSound P C) (T : Tra P C ops l E H V R) (hg : P.globals.size ≤ (H 0).n0) (hok : ∀ (p : Nat) (x : Nat × Oper), l[p]? = some x → operOk P x.2 = true) (he : bdL (H 0).next (E 0) = true) (hh : HeapBd (H 0)) : ∀ p, p ≤ l.length → bdL (H p).next (E p) = true ∧ HeapBd (H p)
  | 0, _ => ⟨he, hh⟩
  | p + 1, hp => by
    obtain ⟨h1, h2⟩ := T.bd hC hg hok he hh p (by omega)
    have hx : l[p]? = some l[p] := List.getElem?_eq_getElem (by omega)
    obtain ⟨_, h3, h4, h5⟩ := T.step p _ hx
    have hgr := T.grow1 hC hx
    have hn0 := (T.grow hC (Nat.zero_le p) (by omega)).2.1
    cases hr : R p with
    | true =>
      obtain ⟨h6, h7⟩ := opA_bd hC h2 (fun x hm => bd_ev (by rw [hn0]; exact hg) h1 (List.all_eq_true.1 (hok p _ hx) x hm)) (h4 hr)
      rw [h3]
      exact ⟨bd_putD (bdL_mono hgr.1 h1) h6, h7⟩
    | false =>
      obtain ⟨h6, h7⟩ := h5 hr
      rw [h3, h6, h7]
      exact ⟨bd_putD h1 rfl, h2⟩

/-- Between two effects blocks are only made. -/
theorem Tra.noeff (hC : CSound P C) (T : Tra P C ops l E H V R) {p q : Nat} (hpq : p ≤ q) (hq : q ≤ l.length) (hne : ∀ r x, p ≤ r → r < q → l[r]? = some x → kindOf P x.2 ≠ .eff) :
    (∀ b k, (H p).get b = some k → (H q).get b = some k) ∧
    ∀ b k, (H q).get b = some k → (H p).get b = some k ∨ ∃ r x, p ≤ r ∧ r < q ∧ l[r]? = some x ∧ kindOf P x.2 = .alloc ∧ R r = true ∧ b = (H r).next ∧ H (r + 1) = (H r).alloc k := by
  induction q with
  | zero =>
    obtain rfl : p = 0 := by omega
    exact ⟨fun _ _ h => h, fun _ _ h => .inl h⟩
  | succ q ih =>
    by_cases e : p = q + 1
    · subst e; exact ⟨fun _ _ h => h, fun _ _ h => .inl h⟩
    · obtain ⟨h1, h2⟩ := ih (by omega) (by omega) (fun r x hr hrq hx => hne r x hr (by omega) hx)
      have hlt : q < l.length := by omega
      have hx : l[q]? = some l[q] := List.getElem?_eq_getElem hlt
      obtain ⟨_, _, h3, h4⟩ := T.step q _ hx
      have key : H (q + 1) = H q ∨ (kindOf P l[q].2 = .alloc ∧ R q = true ∧ ∃ k, H (q + 1) = (H q).alloc k) := by
        cases hr : R q with
        | false => exact .inl (h4 hr).2
        | true =>
          rcases kind_cases hC (h3 hr) with h5 | h5 | ⟨h5, k, h6⟩
          · exact absurd h5 (hne q _ (by omega) (by omega) hx)
          · exact .inl h5
          · exact .inr ⟨h5, rfl, k, h6⟩
      rcases key with h5 | ⟨h5, h6, k, h7⟩
      · rw [h5]
        refine ⟨h1, fun b k hb => (h2 b k hb).imp id ?_⟩
        rintro ⟨r, x, g1, g2, g3⟩
        exact ⟨r, x, g1, by omega, g3⟩
      · refine ⟨fun b k' hb => by rw [h7]; exact Heap.get_alloc_some (h1 b k' hb) k, fun b k' hb => ?_⟩
        rw [h7, Heap.get_alloc] at hb
        by_cases eb : b = (H q).next
        · rw [if_pos eb] at hb
          cases hb
          exact .inr ⟨q, _, by omega, by omega, hx, h5, h6, eb, h7⟩
        · rw [if_neg eb] at hb
          refine (h2 b k' hb).imp id ?_
          rintro ⟨r, x, g1, g2, g3⟩
          exact ⟨r, x, g1, by omega, g3⟩
end tra

/-- Which places of the order are listed. -/
def xsOf (l : List (Nat × Oper)) (listed : Array Bool) (p : Nat) : Bool :=
  match l[p]? with
  | some x => listed.getD x.1 false
  | none => false

/-- A heap, and beside it the blocks that were made at some places. -/
def plusAll (H : Nat → Heap) (R : Nat → Bool) (h : Heap) (mk : List Nat) : Heap := mk.foldl (fun h r => Heap.plus (R r) h (H r) (H (r + 1))) h
theorem Heap.pad_spec (h : Heap) : ∀ c, (Heap.pad c h).n0 = h.n0 ∧ (Heap.pad c h).old = h.old ∧ (Heap.pad c h).next = h.next + c ∧ ∀ b k, h.n0 ≤ b → (Heap.pad c h).get b = some k → h.get b = some k
  | 0 => ⟨rfl, rfl, rfl, fun _ _ _ e => e⟩
  | c + 1 => by
    obtain ⟨h1, h2, h3, h4⟩ := Heap.pad_spec h c
    refine ⟨h1, h2, by simp [Heap.pad, h3]; omega, fun b k hb e => ?_⟩
    unfold Heap.pad Heap.kill at e
    have hn := h.n0_le_next
    rw [Heap.get_put _ (by simp [h1, h3]; omega) (by simp), Heap.get_alloc] at e
    split at e
    · cases e
    · exact h4 b k hb e
theorem madeIn_mem {P : Program} {l : List (Nat × Oper)} {p q r : Nat} (h : r ∈ madeIn P l (p, q)) : q ≤ r ∧ r < p ∧ ∃ y, l[r]? = some y ∧ kindOf P y.2 = .alloc := by
  unfold madeIn at h
  split at h
  · rw [List.mem_filter, List.mem_range, Bool.and_eq_true, decide_eq_true_eq] at h
    obtain ⟨h1, h2, h3⟩ := h
    refine ⟨h2, h1, ?_⟩
    split at h3
    · rename_i y z hy hz
      rw [Bool.and_eq_true] at h3
      exact ⟨y, hy, by simpa using h3.1⟩
    · cases h3
  · simp at h
theorem madeIn_nil {P : Program} {l : List (Nat × Oper)} {p q : Nat} (h : ¬ q < p) : madeIn P l (p, q) = [] := by unfold madeIn; rw [if_neg h]
theorem madeIn_sorted {P : Program} {l : List (Nat × Oper)} {x : Nat × Nat} : (madeIn P l x).Pairwise (· < ·) := by
  unfold madeIn
  split
  · exact List.Pairwise.filter _ List.pairwise_lt_range
  · exact List.Pairwise.nil
/-- Such a heap is part of what is there. -/
theorem plusAll_sub {H : Nat → Heap} {R : Nat → Bool} {G : Heap} : ∀ (mk : List Nat) (h : Heap) (N : Nat), mk.Pairwise (· < ·) → (∀ r ∈ mk, h.next ≤ (H r).next) → (∀ r ∈ mk, ∀ r' ∈ mk, r < r' → (H (r + 1)).next ≤ (H r').next) → (∀ r ∈ mk, (H r).next ≤ (H (r + 1)).next ∧ (H (r + 1)).next ≤ N) → h.next ≤ N →
    (∀ r ∈ mk, R r = true → ∃ k, H (r + 1) = (H r).alloc k ∧ G.get (H r).next = some k) → h.n0 = G.n0 → h.old = G.old → (∀ b k, h.n0 ≤ b → h.get b = some k → G.get b = some k) →
    Sub (plusAll H R h mk) G ∧ h.next ≤ (plusAll H R h mk).next ∧ (plusAll H R h mk).next ≤ N
  | [], h, N, _, _, _, _, hN, _, e1, e2, e3 => ⟨⟨e1, e2, e3⟩, Nat.le_refl _, hN⟩
  | r :: mk, h, N, hs, h1, h2, h3, hN, h4, e1, e2, e3 => by
    have hs' := List.pairwise_cons.1 hs
    have hr := h1 r List.mem_cons_self
    have h3r := h3 r List.mem_cons_self
    have step : (Heap.plus (R r) h (H r) (H (r + 1))).n0 = G.n0 ∧ (Heap.plus (R r) h (H r) (H (r + 1))).old = G.old ∧ (∀ b k, (Heap.plus (R r) h (H r) (H (r + 1))).n0 ≤ b → (Heap.plus (R r) h (H r) (H (r + 1))).get b = some k → G.get b = some k) ∧ h.next ≤ (Heap.plus (R r) h (H r) (H (r + 1))).next ∧ (Heap.plus (R r) h (H r) (H (r + 1))).next ≤ (H (r + 1)).next := by
      unfold Heap.plus
      cases hR : R r with
      | false => exact ⟨e1, e2, e3, Nat.le_refl _, Nat.le_trans hr h3r.1⟩
      | true =>
        obtain ⟨k, k1, k2⟩ := h4 r List.mem_cons_self hR
        have hk : (H (r + 1)).get (H r).next = some k := by rw [k1, Heap.get_alloc, if_pos rfl]
        have hnx : (H (r + 1)).next = (H r).next + 1 := by rw [k1]; simp
        rw [if_pos rfl, hk]
        obtain ⟨p1, p2, p3, p4⟩ := Heap.pad_spec h ((H r).next - h.next)
        refine ⟨p1.trans e1, p2.trans e2, fun b k' hb e => ?_, by simp [p3]; omega, by simp [p3, hnx]; omega⟩
        simp only [Heap.n0_alloc] at hb
        rw [Heap.get_alloc, p3] at e
        split at e
        · rename_i hbe
          cases e
          rw [hbe, show h.next + ((H r).next - h.next) = (H r).next by omega]
          exact k2
        · exact e3 b k' (p1 ▸ hb) (p4 b k' (p1 ▸ hb) e)
    obtain ⟨s1, s2, s3, s4, s5⟩ := step
    have ih := plusAll_sub (H := H) (R := R) (G := G) mk (Heap.plus (R r) h (H r) (H (r + 1))) N hs'.2
      (fun r' hr' => Nat.le_trans s5 (h2 r List.mem_cons_self r' (List.mem_cons_of_mem _ hr') (hs'.1 r' hr')))
      (fun a ha b hb => h2 a (List.mem_cons_of_mem _ ha) b (List.mem_cons_of_mem _ hb)) (fun a ha => h3 a (List.mem_cons_of_mem _ ha)) (Nat.le_trans s5 h3r.2) (fun a ha => h4 a (List.mem_cons_of_mem _ ha)) s1 s2 s3
    exact ⟨ih.1, Nat.le_trans s4 ih.2.1, ih.2.2⟩

/-- What is fixed while a region runs. -/
structure Reg (P : Program) (C : CallF) (ops : Array Oper) (l : List (Nat × Oper)) (E : Nat → Env) (H : Nat → Heap) (V : Nat → Value) (R : Nat → Bool) : Prop where
  hC : CSound P C
  tra : Tra P C ops l E H V R
  len : l.length = ops.size
  pos : ∀ (i : Nat) (o : Oper), ops[i]? = some o → ∃ p : Nat, l[p]? = some (i, o)
  at_ : ∀ (p i : Nat) (o : Oper), l[p]? = some (i, o) → ops[i]? = some o
  fwd : ∀ (i : Nat) (o : Oper), ops[i]? = some o → ∀ e ∈ o.after.toList, Region.binds .any e = true → e.on < i
  guard : ∀ (p i : Nat) (o : Oper) (j : Nat) (b : Bool), l[p]? = some (i, o) → o.guard = some (j, b) → befB (befM ops) i j = true
  ord : ∀ (p q : Nat) (x y : Nat × Oper), p < q → l[p]? = some x → l[q]? = some y → x.1 ≠ y.1 ∧ befB (befM ops) x.1 y.1 = false ∧ (befB (befM ops) y.1 x.1 = true ∨ clash P ops x y = false)
  dyn : ∀ (p q : Nat) (x y : Nat × Oper), l[p]? = some x → l[q]? = some y → kindOf P x.2 = .read → R p = true → kindOf P y.2 = .eff → befB (befM ops) x.1 y.1 = false → befB (befM ops) y.1 x.1 = false →
    ∃ h', opA P C x.2 (ev (E p)) (plusAll H R (H (if q < p then q else q + 1)) (madeIn P l (p, q))) = some (V p, h')
  ok : ∀ o ∈ ops.toList, operOk P o = true
  bdE : ∀ p, p ≤ l.length → bdL (H p).next (E p) = true
  bdH : ∀ p, p ≤ l.length → HeapBd (H p)

structure Inv (P : Program) (ops : Array Oper) (l : List (Nat × Oper)) (E : Nat → Env) (H : Nat → Heap) (V : Nat → Value) (R : Nat → Bool) (μ0 : Mu) (w0 : World) (listed : Array Bool) (m : Nat) (G : Heap) (μ : Mu) (a : Act) (w : World) : Prop where
  size : listed.size = ops.size
  closed : ∀ (i : Nat) (o : Oper), listed.getD i false = true → ops[i]? = some o → ∀ e ∈ o.after.toList, Region.binds .any e = true → listed.getD e.on false = true
  le : m ≤ l.length
  effs : ∀ (p : Nat) (x : Nat × Oper), l[p]? = some x → kindOf P x.2 = .eff → (listed.getD x.1 false = true ↔ p < m)
  allocs : ∀ (p : Nat) (x : Nat × Oper), p < m → l[p]? = some x → kindOf P x.2 = .alloc → listed.getD x.1 false = true
  gn0 : G.n0 = (H 0).n0
  gold : G.old = (H 0).old
  gnext : G.next = (H l.length).next
  here : ∀ b k, (H 0).n0 ≤ b → (H m).get b = some k → G.get b = some k
  later : ∀ (p : Nat) (x : Nat × Oper) (k : Blk), m ≤ p → l[p]? = some x → kindOf P x.2 = .alloc → listed.getD x.1 false = true → R p = true → H (p + 1) = (H p).alloc k → G.get (H p).next = some k
  free : ∀ b, (H m).next ≤ b → b < (H l.length).next → (∀ (p : Nat) (x : Nat × Oper), m ≤ p → l[p]? = some x → kindOf P x.2 = .alloc → listed.getD x.1 false = true → R p = true → b ≠ (H p).next) → μ b = none
  sim : Sim μ G w
  stp : Step μ0 (H 0) w0 μ G w
  env : ERel μ (envS l V (xsOf l listed) (E 0) l.length) a

section inv
variable {P : Program} {C : CallF} {ops : Array Oper} {l : List (Nat × Oper)} {E : Nat → Env} {H : Nat → Heap} {V : Nat → Value} {R : Nat → Bool} {μ0 : Mu} {w0 : World}
  {listed : Array Bool} {m : Nat} {G : Heap} {μ : Mu} {a : Act} {w : World}

theorem Reg.n0 (r : Reg P C ops l E H V R) {p : Nat} (hp : p ≤ l.length) : (H p).n0 = (H 0).n0 ∧ (H p).old = (H 0).old := (r.tra.grow r.hC (Nat.zero_le p) hp).2
theorem Reg.nexts (r : Reg P C ops l E H V R) {p q : Nat} (hpq : p ≤ q) (hq : q ≤ l.length) : (H p).next ≤ (H q).next := (r.tra.grow r.hC hpq hq).1
theorem Reg.lt (r : Reg P C ops l E H V R) {p : Nat} {x : Nat × Oper} (hx : l[p]? = some x) : p < l.length := (List.getElem?_eq_some_iff.1 hx).1

/-- What is before a listed operation is listed. -/
theorem Inv.before (r : Reg P C ops l E H V R) (I : Inv P ops l E H V R μ0 w0 listed m G μ a w) {i j : Nat} (hi : listed.getD i false = true) (hb : befB (befM ops) i j = true) : listed.getD j false = true := by
  have hlt : i < ops.size := by
    rcases Nat.lt_or_ge i ops.size with h | h
    · exact h
    · rw [← I.size] at h
      simp [Array.getElem?_eq_none h] at hi
  have ho : ops[i]? = some ops[i] := Array.getElem?_eq_getElem hlt
  refine before_closed (X := fun k => listed.getD k false = true) I.closed i _ ho (I.closed i _ hi ho) ?_ j hb
  intro k hk
  have : k < ops.size := by
    rcases Nat.lt_or_ge k ops.size with h | h
    · exact h
    · rw [← I.size] at h
      simp [Array.getElem?_eq_none h] at hk
  simp [this]

/-- What is before a ready operation is listed. -/
theorem Inv.ready (I : Inv P ops l E H V R μ0 w0 listed m G μ a w) {i : Nat} {o : Oper} (ho : ops[i]? = some o) (hr : ∀ e ∈ o.after.toList, Region.binds .any e = true → listed.getD e.on false = true) {j : Nat}
    (hb : befB (befM ops) i j = true) : listed.getD j false = true := by
  refine before_closed (X := fun k => listed.getD k false = true) I.closed i o ho hr ?_ j hb
  intro k hk
  have : k < ops.size := by
    rcases Nat.lt_or_ge k ops.size with h | h
    · exact h
    · rw [← I.size] at h
      simp [Array.getElem?_eq_none h] at hk
  simp [this]

/-- The point up to which effects have been done moves on over what is listed. -/
theorem Inv.advance (r : Reg P C ops l E H V R) (I : Inv P ops l E H V R μ0 w0 listed m G μ a w) {p : Nat} (hmp : m ≤ p) (hp : p ≤ l.length) (hne : ∀ (q : Nat) (x : Nat × Oper), m ≤ q → q < p → l[q]? = some x → kindOf P x.2 ≠ .eff)
    (hal : ∀ (q : Nat) (x : Nat × Oper), m ≤ q → q < p → l[q]? = some x → kindOf P x.2 = .alloc → listed.getD x.1 false = true) (hend : ∀ (q : Nat) (x : Nat × Oper), p ≤ q → l[q]? = some x → kindOf P x.2 = .eff → listed.getD x.1 false = false) :
    Inv P ops l E H V R μ0 w0 listed p G μ a w := by
  obtain ⟨n1, n2⟩ := r.tra.noeff r.hC hmp hp hne
  refine ⟨I.size, I.closed, hp, ?_, ?_, I.gn0, I.gold, I.gnext, ?_, ?_, ?_, I.sim, I.stp, I.env⟩
  · intro q x hx hk
    constructor
    · intro hl
      rcases Nat.lt_or_ge q p with h | h
      · exact h
      · rw [hend q x h hx hk] at hl; cases hl
    · intro hq
      rcases Nat.lt_or_ge q m with h | h
      · exact (I.effs q x hx hk).2 h
      · exact absurd hk (hne q x h hq hx)
  · intro q x hq hx hk
    rcases Nat.lt_or_ge q m with h | h
    · exact I.allocs q x h hx hk
    · exact hal q x h hq hx hk
  · intro b k hb hg
    rcases n2 b k hg with h | ⟨q, x, h1, h2, h3, h4, h5, rfl, h7⟩
    · exact I.here b k hb h
    · exact I.later q x k h1 h3 h4 (hal q x h1 h2 h3 h4) h5 h7
  · intro q x k hq hx hk hl hr hh
    exact I.later q x k (by omega) hx hk hl hr hh
  · intro b hb hn hne'
    refine I.free b (Nat.le_trans (r.nexts hmp hp) hb) hn ?_
    intro q x hq hx hk hl hr hbq
    rcases Nat.lt_or_ge q p with h | h
    · -- its block was made before p
      have h2 := (r.tra.step q x hx).2.2.1 hr
      obtain ⟨k, mk, h3, _⟩ := kind_alloc hk h2
      have h4 := r.nexts (show q + 1 ≤ p by omega) hp
      rw [h3] at h4
      simp at h4
      omega
    · exact hne' q x h hx hk hl hr hbq
end inv

end Go.Abs

namespace Go.Abs

section inv
variable {P : Program} {C : CallF} {ops : Array Oper} {l : List (Nat × Oper)} {E : Nat → Env} {H : Nat → Heap} {V : Nat → Value} {R : Nat → Bool} {μ0 : Mu} {w0 : World}
  {listed : Array Bool} {m : Nat} {G : Heap} {μ : Mu} {a : Act} {w : World} {p i : Nat} {o : Oper}

/-- The edges of an operation are listed. -/
def EdgesIn (o : Oper) (listed : Array Bool) : Prop := ∀ e ∈ o.after.toList, Region.binds .any e = true → listed.getD e.on false = true

theorem clash_left {x y : Nat × Oper} {t : Tmp} (hd : y.2.dst = some t) (ht : t ∈ namesA ops x.2) : clash P ops x y = true := by
  unfold clash
  rw [hd]
  simp [List.contains_iff_mem, ht]
theorem clash_right {x y : Nat × Oper} {t : Tmp} (hd : x.2.dst = some t) (ht : t ∈ namesA ops y.2) : clash P ops x y = true := by
  unfold clash
  rw [hd]
  simp [List.contains_iff_mem, ht]

/-- Who writes a temporary that a ready operation names is listed just if it stands ahead. -/
theorem Inv.writers (r : Reg P C ops l E H V R) (I : Inv P ops l E H V R μ0 w0 listed m G μ a w) (hx : l[p]? = some (i, o)) (hnl : listed.getD i false = false) (he : EdgesIn o listed) {t : Tmp} (ht : t ∈ namesA ops o) :
    ∀ q, q < l.length → (l[q]?).bind (·.2.dst) = some t → xsOf l listed q = decide (q < p) := by
  intro q hq hd
  have hy : l[q]? = some l[q] := List.getElem?_eq_getElem hq
  have hxs : xsOf l listed q = listed.getD l[q].1 false := by unfold xsOf; rw [hy]
  rw [hxs]
  rw [hy] at hd
  simp only [Option.bind_some] at hd
  have ho := r.at_ p i o hx
  rcases Nat.lt_trichotomy q p with h | h | h
  · obtain ⟨_, _, h3⟩ := r.ord q p _ _ h hy hx
    rcases h3 with h3 | h3
    · rw [I.ready ho he h3]; simp [h]
    · rw [clash_right (y := (i, o)) hd ht] at h3; cases h3
  · subst h
    rw [hx] at hy
    have : l[q] = (i, o) := by simpa using hy.symm
    rw [this]
    simp [hnl]
  · obtain ⟨_, _, h3⟩ := r.ord p q _ _ h hx hy
    rcases h3 with h3 | h3
    · cases hl : listed.getD l[q].1 false with
      | false => simp; omega
      | true => rw [I.before r hl h3] at hnl; cases hnl
    · rw [clash_left (x := (i, o)) hd ht] at h3; cases h3

theorem Inv.names (r : Reg P C ops l E H V R) (I : Inv P ops l E H V R μ0 w0 listed m G μ a w) (hx : l[p]? = some (i, o)) (hnl : listed.getD i false = false) (he : EdgesIn o listed) {t : Tmp} (ht : t ∈ namesA ops o) :
    (envS l V (xsOf l listed) (E 0) l.length)[t]? = (E p)[t]? := by
  have hp := Nat.le_of_lt (r.lt hx)
  rw [tra_env r.tra rfl p hp, ← envS_first (x := fun q => decide (q < p)) l.length hp (fun _ => rfl)]
  exact envS_congr _ (I.writers r hx hnl he ht)

/-- Listing one more operation writes its value. -/
theorem Inv.listing (r : Reg P C ops l E H V R) (I : Inv P ops l E H V R μ0 w0 listed m G μ a w) (hx : l[p]? = some (i, o)) (hnl : listed.getD i false = false) (he : EdgesIn o listed) :
    envS l V (xsOf l (listed.setIfInBounds i true)) (E 0) l.length = putD (envS l V (xsOf l listed) (E 0) l.length) o.dst (V p) := by
  have ho := r.at_ p i o hx
  have hi : i < ops.size := (Array.getElem?_eq_some_iff.1 ho).1
  have hp := r.lt hx
  have hself : xsOf l (listed.setIfInBounds i true) p = true := by
    unfold xsOf
    rw [hx]
    have : i < listed.size := by rw [I.size]; exact hi
    simp [this]
  have hother : ∀ q, q ≠ p → xsOf l (listed.setIfInBounds i true) q = xsOf l listed q := by
    intro q hq
    unfold xsOf
    cases hy : l[q]? with
    | none => rfl
    | some y =>
      have hne : i ≠ y.1 := by
        rcases Nat.lt_or_gt_of_ne hq with h | h
        · exact (r.ord q p _ _ h hy hx).1.symm
        · exact (r.ord p q _ _ h hx hy).1
      exact getD_set_ne false hne
  apply List.ext_getElem?
  intro t
  by_cases hd : o.dst = some t
  · have ht : t ∈ namesA ops o := by unfold namesA; rw [hd]; simp
    have h1 : (envS l V (xsOf l (listed.setIfInBounds i true)) (E 0) l.length)[t]? = (E (p + 1))[t]? := by
      rw [tra_env r.tra rfl (p + 1) hp, ← envS_first (x := fun q => decide (q < p + 1)) l.length hp (fun _ => rfl)]
      refine envS_congr _ fun q hq hdq => ?_
      by_cases e : q = p
      · subst e; rw [hself]; simp
      · rw [hother q e, I.writers r hx hnl he ht q hq hdq]
        simp only [decide_eq_decide]
        omega
    rw [h1, (r.tra.step p _ hx).2.1]
    simp only [hd, putD]
    rw [List.getElem?_set, List.getElem?_set, if_pos rfl, if_pos rfl, tra_env r.tra rfl p (Nat.le_of_lt hp), length_envS, length_envS]
  · have h1 : (putD (envS l V (xsOf l listed) (E 0) l.length) o.dst (V p))[t]? = (envS l V (xsOf l listed) (E 0) l.length)[t]? := by
      cases hz : o.dst with
      | none => rfl
      | some u =>
        have : u ≠ t := by rintro rfl; exact hd hz
        simp only [putD]
        rw [List.getElem?_set_ne this]
    rw [h1]
    refine envS_congr _ fun q hq hdq => hother q ?_
    rintro rfl
    rw [hx] at hdq
    exact hd (by simpa using hdq)

/-- The operands of a ready operation read as in the one order. -/
theorem Inv.operands (r : Reg P C ops l E H V R) (I : Inv P ops l E H V R μ0 w0 listed m G μ a w) (hx : l[p]? = some (i, o)) (hnl : listed.getD i false = false) (he : EdgesIn o listed) (hg : P.globals.size ≤ (H 0).n0) :
    ∀ x ∈ o.op.operands.toList, VRel μ (ev (E p) x) (a.eval x) := by
  intro x hm
  have ho := r.at_ p i o hx
  have hok := List.all_eq_true.1 (r.ok o (by rw [Array.mem_toList_iff]; exact Array.mem_of_getElem? ho)) x hm
  have hv := ev_rel I.sim (by rw [I.gn0]; exact hg) I.env hok
  have he' : ev (E p) x = ev (envS l V (xsOf l listed) (E 0) l.length) x := by
    cases x with
    | tmp t =>
      have ht : t ∈ namesA ops o := by
        unfold namesA opTmps
        simp only [List.mem_append, List.mem_filterMap]
        exact .inl (.inr ⟨.tmp t, hm, rfl⟩)
      simp only [ev, List.getD_eq_getElem?_getD, I.names r hx hnl he ht]
    | _ => rfl
  rw [he']; exact hv

/-- Whether a ready operation runs is as in the one order. -/
theorem Inv.wanted (r : Reg P C ops l E H V R) (I : Inv P ops l E H V R μ0 w0 listed m G μ a w) (hx : l[p]? = some (i, o)) (hnl : listed.getD i false = false) (he : EdgesIn o listed) :
    Region.wanted o (yielded ops a.tmps) = R p := by
  rw [← want_rel I.env, (r.tra.step p _ hx).1]
  unfold wantA
  cases hgd : o.guard with
  | none => rfl
  | some g =>
    obtain ⟨j, b⟩ := g
    simp only
    congr 1
    unfold yieldA
    cases hd : (ops[j]?).bind (·.dst) with
    | none => rfl
    | some t =>
      have ht : t ∈ namesA ops o := by
        unfold namesA guardTmp
        rw [hgd]
        simp [hd]
      simp only [Option.bind_some, I.names r hx hnl he ht]

/-- An operation that runs on fewer blocks, in the whole heap. -/
theorem Inv.run (r : Reg P C ops l E H V R) (I : Inv P ops l E H V R μ0 w0 listed m G μ a w) (hx : l[p]? = some (i, o)) (hnl : listed.getD i false = false) (he : EdgesIn o listed) (hg : P.globals.size ≤ (H 0).n0)
    {hs h1 : Heap} (hsub : Sub hs G) (hbd : kindOf P o = .eff → (∀ x ∈ o.op.operands.toList, bdV hs.next (ev (E p) x) = true) ∧ HeapBd hs) (hop : opA P C o (ev (E p)) hs = some (V p, h1)) (hfree : Free μ hs h1) (hlo : (H 0).next ≤ hs.next) (hhi : h1.next ≤ G.next)
    {K : Act → World → Prop} {Q : Exit → Act → World → Prop}
    (hK : ∀ μ1 v' w1 G', Sim μ1 G' w1 → Step μ0 (H 0) w0 μ1 G' w1 → VRel μ1 (V p) v' → ERel μ1 (envS l V (xsOf l (listed.setIfInBounds i true)) (E 0) l.length) (a.put o.dst v') → G'.n0 = G.n0 → G'.old = G.old → G'.next = G.next →
      (∀ b k, G.n0 ≤ b → h1.get b = some k → G'.get b = some k) → (∀ b k, G.n0 ≤ b → G.get b = some k → hs.get b = none → (b < hs.next ∨ h1.next ≤ b) → h1.get b = none → G'.get b = some k) →
      (∀ b, b < hs.next ∨ h1.next ≤ b → μ1 b = μ b) → K (a.put o.dst v') w1) : o.wp P a w K Q := by
  refine opA_sound r.hC (I.sim.sub hsub) hfree (I.operands r hx hnl he hg) (by rw [hsub.1, I.gn0]; exact hg) (fun c f h1 h2 => hbd (by unfold kindOf; rw [h1]; simp only; rw [h2])) hop K Q ?_
  intro μ1 v' w1 hS hSt hv
  obtain ⟨g1, g2, g3, g4⟩ := heapOf_spec G.n0 G.old (fun b => match h1.get b with
    | some k => some k
    | none => if (hs.get b).isSome ∨ (hs.next ≤ b ∧ b < h1.next) then none else G.get b) (G.next - G.n0)
  have hnn : G.n0 + (G.next - G.n0) = G.next := by have := G.n0_le_next; omega
  rw [hnn] at g3 g4
  generalize heapOf G.n0 G.old (fun b => match h1.get b with
    | some k => some k
    | none => if (hs.get b).isSome ∨ (hs.next ≤ b ∧ b < h1.next) then none else G.get b) (G.next - G.n0) = G' at g1 g2 g3 g4
  have fr : Framed G hs h1 G' := by
    refine ⟨g1, g2, fun b k hb hgb => ?_⟩
    rw [g4 b (g1 ▸ hb)] at hgb
    split at hgb
    · split at hgb
      · rename_i k' hk'; cases hgb; exact .inl hk'
      · split at hgb
        · cases hgb
        · rename_i hc
          simp only [not_or, not_and, Nat.not_lt] at hc
          refine .inr ⟨hgb, ?_, ?_⟩
          · cases hq : hs.get b with
            | none => rfl
            | some _ => exact absurd (by rw [hq]; rfl) hc.1
          · rcases Nat.lt_or_ge b hs.next with h | h
            · exact .inl h
            · exact .inr (hc.2 h)
    · cases hgb
  have hS' := I.sim.frame hsub hSt hS hfree fr
  have hSt' := I.stp.frame hsub hSt fr g3 hlo hhi
  refine hK μ1 v' w1 G' hS' hSt' hv ?_ g1 g2 g3 ?_ ?_ hSt.ext
  · rw [I.listing r hx hnl he]
    exact (I.env.mono (hSt.mono hfree)).put o.dst hv
  · intro b k hb hgb
    rw [g4 b hb, if_pos (Nat.lt_of_lt_of_le (h1.lt_of_get hgb) hhi), hgb]
  · intro b k hb hgb hn hr h1n
    rw [g4 b hb, if_pos (G.lt_of_get hgb), h1n]
    rw [if_neg ?_]
    · exact hgb
    · rintro (h | h)
      · rw [hn] at h; cases h
      · omega

theorem set_getD {listed : Array Bool} {i j : Nat} (hi : i < listed.size) : (listed.setIfInBounds i true).getD j false = true ↔ j = i ∨ listed.getD j false = true := by
  by_cases e : i = j
  · subst e; simp [hi]
  · rw [getD_set_ne false e]
    constructor
    · intro h; exact .inr h
    · rintro (h | h)
      · exact absurd h.symm e
      · exact h

theorem Inv.closed' (r : Reg P C ops l E H V R) (I : Inv P ops l E H V R μ0 w0 listed m G μ a w) (hx : l[p]? = some (i, o)) (he : EdgesIn o listed) :
    ∀ (j : Nat) (u : Oper), (listed.setIfInBounds i true).getD j false = true → ops[j]? = some u → ∀ e ∈ u.after.toList, Region.binds .any e = true → (listed.setIfInBounds i true).getD e.on false = true := by
  have ho := r.at_ p i o hx
  have hi : i < listed.size := by rw [I.size]; exact (Array.getElem?_eq_some_iff.1 ho).1
  intro j u hj hu e hm hb
  rw [set_getD hi] at hj ⊢
  rcases hj with rfl | hj
  · rw [ho] at hu; cases hu
    exact .inr (he e hm hb)
  · exact .inr (I.closed j u hj hu e hm hb)

end inv
end Go.Abs

namespace Go.Abs

section inv
variable {P : Program} {C : CallF} {ops : Array Oper} {l : List (Nat × Oper)} {E : Nat → Env} {H : Nat → Heap} {V : Nat → Value} {R : Nat → Bool} {μ0 : Mu} {w0 : World}
  {listed : Array Bool} {m : Nat} {G : Heap} {μ : Mu} {a : Act} {w : World} {p i : Nat} {o : Oper}

theorem Reg.uniq (r : Reg P C ops l E H V R) (hx : l[p]? = some (i, o)) {q : Nat} {y : Nat × Oper} (hy : l[q]? = some y) (e : y.1 = i) : q = p := by
  rcases Nat.lt_trichotomy q p with h | h | h
  · exact absurd e (r.ord q p _ _ h hy hx).1
  · exact h
  · exact absurd e.symm (r.ord p q _ _ h hx hy).1

theorem Inv.inb (r : Reg P C ops l E H V R) (I : Inv P ops l E H V R μ0 w0 listed m G μ a w) (hx : l[p]? = some (i, o)) : i < listed.size := by
  rw [I.size]; exact (Array.getElem?_eq_some_iff.1 (r.at_ p i o hx)).1

/-- After an operation that is no effect. -/
theorem Inv.same (r : Reg P C ops l E H V R) (I : Inv P ops l E H V R μ0 w0 listed m G μ a w) (hx : l[p]? = some (i, o)) (he : EdgesIn o listed) (hk : kindOf P o ≠ .eff)
    {G' : Heap} {μ' : Mu} {a' : Act} {w' : World} (g0 : G'.n0 = G.n0) (g1 : G'.old = G.old) (g2 : G'.next = G.next)
    (here : ∀ b k, (H 0).n0 ≤ b → (H m).get b = some k → G'.get b = some k)
    (later : ∀ (q : Nat) (x : Nat × Oper) (k : Blk), m ≤ q → l[q]? = some x → kindOf P x.2 = .alloc → (listed.getD x.1 false = true ∨ q = p) → R q = true → H (q + 1) = (H q).alloc k → G'.get (H q).next = some k)
    (free : ∀ b, (H m).next ≤ b → b < (H l.length).next → (∀ (q : Nat) (x : Nat × Oper), m ≤ q → l[q]? = some x → kindOf P x.2 = .alloc → (listed.getD x.1 false = true ∨ q = p) → R q = true → b ≠ (H q).next) → μ' b = none)
    (sim : Sim μ' G' w') (stp : Step μ0 (H 0) w0 μ' G' w') (env : ERel μ' (envS l V (xsOf l (listed.setIfInBounds i true)) (E 0) l.length) a') :
    Inv P ops l E H V R μ0 w0 (listed.setIfInBounds i true) m G' μ' a' w' := by
  have hi := I.inb r hx
  refine ⟨by simpa using I.size, I.closed' r hx he, I.le, ?_, ?_, g0.trans I.gn0, g1.trans I.gold, g2.trans I.gnext, here, ?_, ?_, sim, stp, env⟩
  · intro q x hq hkq
    rw [set_getD hi, ← I.effs q x hq hkq]
    constructor
    · rintro (h | h)
      · obtain rfl := r.uniq hx hq h
        rw [hx] at hq; cases hq
        exact absurd hkq hk
      · exact h
    · exact .inr
  · intro q x hq hlq hkq
    rw [set_getD hi]
    exact .inr (I.allocs q x hq hlq hkq)
  · intro q x k hmq hlq hkq hls hr hh
    rw [set_getD hi] at hls
    exact later q x k hmq hlq hkq (hls.symm.imp id (fun h => r.uniq hx hlq h)) hr hh
  · intro b hb hn hne
    refine free b hb hn fun q x hmq hlq hkq hls hr => hne q x hmq hlq hkq ?_ hr
    rw [set_getD hi]
    rcases hls with h | h
    · exact .inr h
    · subst h; rw [hx] at hlq; cases hlq; exact .inl rfl

/-- After an effect. -/
theorem Inv.next (r : Reg P C ops l E H V R) (I : Inv P ops l E H V R μ0 w0 listed p G μ a w) (hx : l[p]? = some (i, o)) (he : EdgesIn o listed) (hk : kindOf P o = .eff)
    {G' : Heap} {μ' : Mu} {a' : Act} {w' : World} (g0 : G'.n0 = G.n0) (g1 : G'.old = G.old) (g2 : G'.next = G.next)
    (here : ∀ b k, (H 0).n0 ≤ b → (H (p + 1)).get b = some k → G'.get b = some k)
    (later : ∀ (q : Nat) (x : Nat × Oper) (k : Blk), p + 1 ≤ q → l[q]? = some x → kindOf P x.2 = .alloc → listed.getD x.1 false = true → R q = true → H (q + 1) = (H q).alloc k → G'.get (H q).next = some k)
    (free : ∀ b, (H (p + 1)).next ≤ b → b < (H l.length).next → (∀ (q : Nat) (x : Nat × Oper), p + 1 ≤ q → l[q]? = some x → kindOf P x.2 = .alloc → listed.getD x.1 false = true → R q = true → b ≠ (H q).next) → μ' b = none)
    (sim : Sim μ' G' w') (stp : Step μ0 (H 0) w0 μ' G' w') (env : ERel μ' (envS l V (xsOf l (listed.setIfInBounds i true)) (E 0) l.length) a') :
    Inv P ops l E H V R μ0 w0 (listed.setIfInBounds i true) (p + 1) G' μ' a' w' := by
  have hi := I.inb r hx
  have hother : ∀ (q : Nat) (x : Nat × Oper), l[q]? = some x → kindOf P x.2 = .alloc → (listed.setIfInBounds i true).getD x.1 false = true → listed.getD x.1 false = true := by
    intro q x hlq hkq hls
    rw [set_getD hi] at hls
    rcases hls with h | h
    · obtain rfl := r.uniq hx hlq h
      rw [hx] at hlq; cases hlq
      rw [hk] at hkq; cases hkq
    · exact h
  refine ⟨by simpa using I.size, I.closed' r hx he, r.lt hx, ?_, ?_, g0.trans I.gn0, g1.trans I.gold, g2.trans I.gnext, here, ?_, ?_, sim, stp, env⟩
  · intro q x hq hkq
    rw [set_getD hi]
    constructor
    · rintro (h | h)
      · obtain rfl := r.uniq hx hq h; omega
      · have := (I.effs q x hq hkq).1 h; omega
    · intro h
      rcases Nat.lt_or_ge q p with h2 | h2
      · exact .inr ((I.effs q x hq hkq).2 h2)
      · obtain rfl : q = p := by omega
        rw [hx] at hq; cases hq; exact .inl rfl
  · intro q x hq hlq hkq
    rw [set_getD hi]
    rcases Nat.lt_or_ge q p with h2 | h2
    · exact .inr (I.allocs q x h2 hlq hkq)
    · obtain rfl : q = p := by omega
      rw [hx] at hlq; cases hlq; exact .inl rfl
  · intro q x k hmq hlq hkq hls hr hh
    exact later q x k hmq hlq hkq (hother q x hlq hkq hls) hr hh
  · intro b hb hn hne
    refine free b hb hn fun q x hmq hlq hkq hls hr => hne q x hmq hlq hkq ?_ hr
    rw [set_getD hi]; exact .inr hls

theorem clash_eff {x y : Nat × Oper} (h1 : kindOf P x.2 = .eff) (h2 : kindOf P y.2 = .eff) : clash P ops x y = true := by
  unfold clash; simp [h1, h2]
theorem clash_alloc {x y : Nat × Oper} (h1 : kindOf P x.2 = .alloc) (h2 : kindOf P y.2 = .eff ∨ kindOf P y.2 = .read) : clash P ops x y = true := by
  unfold clash; rcases h2 with h2 | h2 <;> simp [h1, h2]

/-- Up to an effect that is ready all effects and all new blocks are there. -/
theorem Inv.to_eff (r : Reg P C ops l E H V R) (I : Inv P ops l E H V R μ0 w0 listed m G μ a w) (hx : l[p]? = some (i, o)) (hnl : listed.getD i false = false) (he : EdgesIn o listed) (hk : kindOf P o = .eff) :
    Inv P ops l E H V R μ0 w0 listed p G μ a w := by
  have ho := r.at_ p i o hx
  have ahead : ∀ (q : Nat) (x : Nat × Oper), q < p → l[q]? = some x → (kindOf P x.2 = .eff ∨ kindOf P x.2 = .alloc) → listed.getD x.1 false = true := by
    intro q x hq hlq hkq
    rcases (r.ord q p _ _ hq hlq hx).2.2 with h | h
    · exact I.ready ho he h
    · rcases hkq with h2 | h2
      · rw [clash_eff h2 hk] at h; cases h
      · rw [clash_alloc h2 (.inl hk)] at h; cases h
  have behind : ∀ (q : Nat) (x : Nat × Oper), p ≤ q → l[q]? = some x → kindOf P x.2 = .eff → listed.getD x.1 false = false := by
    intro q x hq hlq hkq
    rcases Nat.lt_or_ge p q with h | h
    · rcases (r.ord p q _ _ h hx hlq).2.2 with h2 | h2
      · cases hl : listed.getD x.1 false with
        | false => rfl
        | true => rw [I.before r hl h2] at hnl; cases hnl
      · rw [clash_eff hk hkq] at h2; cases h2
    · obtain rfl : q = p := by omega
      rw [hx] at hlq; cases hlq; exact hnl
  have hmp : m ≤ p := by
    rcases Nat.lt_or_ge p m with h | h
    · rw [(I.effs p _ hx hk).2 h] at hnl; cases hnl
    · exact h
  refine I.advance r hmp (Nat.le_of_lt (r.lt hx)) ?_ ?_ behind
  · intro q x hmq hqp hlq hkq
    have := (I.effs q x hlq hkq).1 (ahead q x hqp hlq (.inl hkq))
    omega
  · intro q x hmq hqp hlq hkq
    exact ahead q x hqp hlq (.inr hkq)

theorem Inv.sub (r : Reg P C ops l E H V R) (I : Inv P ops l E H V R μ0 w0 listed m G μ a w) : Sub (H m) G := by
  obtain ⟨h1, h2⟩ := r.n0 I.le
  exact ⟨h1.trans I.gn0.symm, h2.trans I.gold.symm, fun b k hb hg => I.here b k (h1 ▸ hb) hg⟩

/-- The number of a new block that stands behind is greater. -/
theorem Reg.alloc_next (r : Reg P C ops l E H V R) {q : Nat} {x : Nat × Oper} (hx : l[q]? = some x) (hk : kindOf P x.2 = .alloc) (hr : R q = true) : (H (q + 1)).next = (H q).next + 1 := by
  obtain ⟨k, mk, h3, _⟩ := kind_alloc hk ((r.tra.step q x hx).2.2.1 hr)
  rw [h3]; rfl

theorem first_of {Q : Nat → Prop} : ∀ (n m p : Nat), p ≤ n → (∃ q, m ≤ q ∧ q < p ∧ Q q) → ∃ j, m ≤ j ∧ j < p ∧ Q j ∧ ∀ q, m ≤ q → q < j → ¬ Q q
  | 0, m, p, hp, h => by obtain ⟨q, _, h2, _⟩ := h; omega
  | n + 1, m, p, hp, ⟨q, h1, h2, h3⟩ => by
    by_cases h : ∃ q', m ≤ q' ∧ q' < q ∧ Q q'
    · obtain ⟨j, g1, g2, g3, g4⟩ := first_of n m q (by omega) h
      exact ⟨j, g1, by omega, g3, g4⟩
    · exact ⟨q, h1, h2, h3, fun q' g1 g2 g3 => h ⟨q', g1, g2, g3⟩⟩
theorem last_of {Q : Nat → Prop} : ∀ (n m p : Nat), p ≤ m + n → (∃ q, m ≤ q ∧ q < p ∧ Q q) → ∃ j, m ≤ j ∧ j < p ∧ Q j ∧ ∀ q, j < q → q < p → ¬ Q q
  | 0, m, p, hp, h => by obtain ⟨q, h1, h2, _⟩ := h; omega
  | n + 1, m, p, hp, ⟨q, h1, h2, h3⟩ => by
    by_cases h : ∃ q', m + 1 ≤ q' ∧ q' < p ∧ Q q'
    · obtain ⟨j, g1, g2, g3, g4⟩ := last_of n (m + 1) p (by omega) h
      exact ⟨j, by omega, g2, g3, g4⟩
    · have : q = m := by
        rcases Nat.lt_or_ge m q with h5 | h5
        · exact absurd ⟨q, h5, h2, h3⟩ h
        · omega
      subst this
      exact ⟨q, Nat.le_refl _, h2, h3, fun q' g1 g2 g3 => h ⟨q', g1, g2, g3⟩⟩

theorem Inv.step (r : Reg P C ops l E H V R) (I : Inv P ops l E H V R μ0 w0 listed m G μ a w) (hx : l[p]? = some (i, o)) (hnl : listed.getD i false = false) (he : EdgesIn o listed) (hg : P.globals.size ≤ (H 0).n0)
    {K : Act → World → Prop} {Q : Exit → Act → World → Prop} (hK : ∀ m' G' μ' a' w', Inv P ops l E H V R μ0 w0 (listed.setIfInBounds i true) m' G' μ' a' w' → K a' w') : wpOp P ops Q i K a w := by
  have ho := r.at_ p i o hx
  have hp := r.lt hx
  have hi := I.inb r hx
  have hT := r.tra.step p _ hx
  unfold wpOp
  rw [ho]
  simp only
  rw [I.wanted r hx hnl he]
  cases hR : R p with
  | false =>
    obtain ⟨hv, hH⟩ := hT.2.2.2 hR
    simp only [Bool.false_eq_true, if_false]
    have henv : ∀ {m' : Nat} (I' : Inv P ops l E H V R μ0 w0 listed m' G μ a w), ERel μ (envS l V (xsOf l (listed.setIfInBounds i true)) (E 0) l.length) (a.put o.dst undef) := by
      intro m' I'
      rw [I'.listing r hx hnl he, hv]
      exact I'.env.put o.dst undef_rel
    by_cases hk : kindOf P o = .eff
    · have I' := I.to_eff r hx hnl he hk
      refine hK _ _ _ _ _ (I'.next r hx he hk rfl rfl rfl ?_ ?_ ?_ I'.sim I'.stp (henv I'))
      · intro b k hb hgb
        rw [hH] at hgb
        exact I'.here b k hb hgb
      · intro q x k hq hlq hkq hls hr hh
        exact I'.later q x k (by omega) hlq hkq hls hr hh
      · intro b hb hn hne
        rw [hH] at hb
        refine I'.free b hb hn fun q x hq hlq hkq hls hr => ?_
        rcases Nat.lt_or_ge p q with h | h
        · exact hne q x h hlq hkq hls hr
        · obtain rfl : q = p := by omega
          rw [hR] at hr; cases hr
    · refine hK _ _ _ _ _ (I.same r hx he hk rfl rfl rfl I.here ?_ ?_ I.sim I.stp (henv I))
      · intro q x k hq hlq hkq hls hr hh
        rcases hls with h | h
        · exact I.later q x k hq hlq hkq h hr hh
        · subst h; rw [hR] at hr; cases hr
      · intro b hb hn hne
        exact I.free b hb hn fun q x hq hlq hkq hls hr => hne q x hq hlq hkq (.inl hls) hr
  | true =>
    simp only [if_true]
    refine .inl ?_
    have hop := hT.2.2.1 hR
    -- an operation that leaves the heap as it is, run on some of its blocks
    have quiet : ∀ {hs : Heap}, Sub hs G → opA P C o (ev (E p)) hs = some (V p, hs) → (H 0).next ≤ hs.next → hs.next ≤ G.next → kindOf P o ≠ .eff → kindOf P o ≠ .alloc → o.wp P a w K Q := by
      intro hs hsub hop hlo hhi hk hk2
      refine I.run r hx hnl he hg hsub (fun h => absurd h hk) hop (fun b h1 h2 => by omega) hlo hhi ?_
      intro μ1 v' w1 G' hS hSt hv henv g0 g1 g2 g3 g4 hμ
      have hμ' : ∀ b, μ1 b = μ b := fun b => hμ b (by omega)
      have keep : ∀ b k, (H 0).n0 ≤ b → G.get b = some k → G'.get b = some k := by
        intro b k hb hgb
        rw [← I.gn0] at hb
        cases hh : hs.get b with
        | none => exact g4 b k hb hgb hh (by omega) hh
        | some k' =>
          have := hsub.2.2 b k' (hsub.1 ▸ hb) hh
          rw [hgb] at this; cases this
          exact g3 b k hb hh
      refine hK _ _ _ _ _ (I.same r hx he hk g0 g1 g2 (fun b k hb hgb => keep b k hb (I.here b k hb hgb)) ?_ ?_ hS hSt henv)
      · intro q x k hq hlq hkq hls hr hh
        rcases hls with h | h
        · refine keep _ _ ?_ (I.later q x k hq hlq hkq h hr hh)
          have := (H q).n0_le_next
          rw [(r.n0 (Nat.le_of_lt (r.lt hlq))).1] at this
          exact this
        · subst h; rw [hx] at hlq; cases hlq; exact absurd hkq hk2
      · intro b hb hn hne
        rw [hμ']
        exact I.free b hb hn fun q x hq hlq hkq hls hr => hne q x hq hlq hkq (.inl hls) hr
    cases hk : kindOf P o with
    | pure =>
      refine quiet (I.sub r) ((kind_pure hk hop).2 (H m)) (r.nexts (Nat.zero_le m) I.le) ?_ (by rw [hk]; simp) (by rw [hk]; simp)
      rw [I.gnext]; exact r.nexts I.le (Nat.le_refl _)
    | read =>
      have hre : H (p + 1) = H p := kind_read hk hop
      rw [hre] at hop
      have hbound : ∀ {q : Nat}, q ≤ l.length → (H 0).next ≤ (H q).next ∧ (H q).next ≤ G.next := fun hq => ⟨r.nexts (Nat.zero_le _) hq, by rw [I.gnext]; exact r.nexts hq (Nat.le_refl _)⟩
      have q0 : kindOf P o ≠ .eff := by rw [hk]; simp
      have q1 : kindOf P o ≠ .alloc := by rw [hk]; simp
      have allocs_in : ∀ (q : Nat) (x : Nat × Oper), q < p → l[q]? = some x → kindOf P x.2 = .alloc → listed.getD x.1 false = true := by
        intro q x hq hlq hkq
        rcases (r.ord q p _ _ hq hlq hx).2.2 with h | h
        · exact I.ready ho he h
        · rw [clash_alloc hkq (.inr hk)] at h; cases h
      have late_effs : ∀ {j : Nat}, m ≤ j → ∀ (q : Nat) (x : Nat × Oper), j ≤ q → l[q]? = some x → kindOf P x.2 = .eff → listed.getD x.1 false = false := by
        intro j hj q x hq hlq hkq
        cases hl : listed.getD x.1 false with
        | false => rfl
        | true => have := (I.effs q x hlq hkq).1 hl; omega
      rcases Nat.lt_or_ge p m with hpm | hmp
      · by_cases hex : ∃ q, p ≤ q ∧ q < m ∧ ∃ x, l[q]? = some x ∧ kindOf P x.2 = .eff
        · obtain ⟨j, h1, h2, ⟨x, h3, h4⟩, h5⟩ := last_of m p m (by omega) hex
          have hjp : p < j := by
            rcases Nat.lt_or_ge p j with h | h
            · exact h
            · obtain rfl : j = p := by omega
              rw [hx] at h3; cases h3; exact absurd h4 q0
          have hls := (I.effs j x h3 h4).2 h2
          have nb1 := (r.ord p j _ _ hjp hx h3).2.1
          have nb2 : befB (befM ops) x.1 i = false := by
            cases hb : befB (befM ops) x.1 i with
            | false => rfl
            | true => rw [I.before r hls hb] at hnl; cases hnl
          obtain ⟨h', hop'⟩ := r.dyn p j _ _ hx h3 hk hR h4 nb1 nb2
          rw [if_neg (by omega), madeIn_nil (by omega)] at hop'
          have hop' : opA P C o (ev (E p)) (H (j + 1)) = some (V p, h') := hop'
          have := kind_read hk hop'
          subst this
          have hne := (r.tra.noeff r.hC (show j + 1 ≤ m by omega) I.le (fun q y g1 g2 g3 g4 => h5 q (by omega) g2 ⟨y, g3, g4⟩)).1
          have hsub : Sub (H (j + 1)) G := by
            have hj1 : j + 1 ≤ l.length := Nat.le_trans h2 I.le
            obtain ⟨e1, e2⟩ := r.n0 hj1
            exact ⟨e1.trans I.gn0.symm, e2.trans I.gold.symm, fun b k hb hgb => I.here b k (e1 ▸ hb) (hne b k hgb)⟩
          exact quiet hsub hop' (hbound (Nat.le_trans h2 I.le)).1 (hbound (Nat.le_trans h2 I.le)).2 q0 q1
        · have hne := (r.tra.noeff r.hC (Nat.le_of_lt hpm) I.le (fun q y g1 g2 g3 g4 => hex ⟨q, g1, g2, y, g3, g4⟩)).1
          have hsub : Sub (H p) G := by
            obtain ⟨e1, e2⟩ := r.n0 (Nat.le_of_lt hp)
            exact ⟨e1.trans I.gn0.symm, e2.trans I.gold.symm, fun b k hb hgb => I.here b k (e1 ▸ hb) (hne b k hgb)⟩
          exact quiet hsub hop (hbound (Nat.le_of_lt hp)).1 (hbound (Nat.le_of_lt hp)).2 q0 q1
      · by_cases hex : ∃ q, m ≤ q ∧ q < p ∧ ∃ x, l[q]? = some x ∧ kindOf P x.2 = .eff
        · obtain ⟨j, h1, h2, ⟨x, h3, h4⟩, h5⟩ := first_of p m p (Nat.le_refl _) hex
          have hls := late_effs (Nat.le_refl m) j x h1 h3 h4
          have nb1 : befB (befM ops) i x.1 = false := by
            cases hb : befB (befM ops) i x.1 with
            | false => rfl
            | true => rw [I.ready ho he hb] at hls; cases hls
          have nb2 := (r.ord j p _ _ h2 h3 hx).2.1
          obtain ⟨h', hop'⟩ := r.dyn p j _ _ hx h3 hk hR h4 nb1 nb2
          rw [if_pos h2] at hop'
          have := kind_read hk hop'
          subst this
          have hjl : j ≤ l.length := by omega
          have I' := I.advance r h1 hjl (fun q y g1 g2 g3 g4 => h5 q g1 g2 ⟨y, g3, g4⟩) (fun q y g1 g2 g3 g4 => allocs_in q y (by omega) g3 g4) (late_effs h1)
          obtain ⟨u1, u2, u3⟩ := I'.sub r
          obtain ⟨v1, v2, v3⟩ := plusAll_sub (H := H) (R := R) (G := G) (madeIn P l (p, j)) (H j) G.next madeIn_sorted (fun q hq => r.nexts (madeIn_mem hq).1 (by have := (madeIn_mem hq).2.1; omega))
            (fun q hq q' hq' hlt => r.nexts (by omega) (by have := (madeIn_mem hq').2.1; omega)) (fun q hq => ⟨r.nexts (by omega) (by have := (madeIn_mem hq).2.1; omega), (hbound (by have := (madeIn_mem hq).2.1; omega)).2⟩) (hbound hjl).2
            (fun q hq hRq => by
              obtain ⟨g1, g2, y, g3, g4⟩ := madeIn_mem hq
              obtain ⟨k, mk, hH, _⟩ := kind_alloc g4 ((r.tra.step q y g3).2.2.1 hRq)
              exact ⟨k, hH, I'.later q y k g1 g3 g4 (allocs_in q y g2 g3 g4) hRq hH⟩) u1 u2 u3
          exact quiet v1 hop' (Nat.le_trans (hbound hjl).1 v2) v3 q0 q1
        · have I' := I.advance r hmp (Nat.le_of_lt hp) (fun q y g1 g2 g3 g4 => hex ⟨q, g1, g2, y, g3, g4⟩) (fun q y g1 g2 g3 g4 => allocs_in q y g2 g3 g4) (late_effs hmp)
          exact quiet (I'.sub r) hop (hbound (Nat.le_of_lt hp)).1 (hbound (Nat.le_of_lt hp)).2 q0 q1
    | alloc =>
      obtain ⟨k, mk, hH, hV, hany⟩ := kind_alloc hk hop
      have hmp : m ≤ p := by
        rcases Nat.lt_or_ge p m with h | h
        · rw [I.allocs p _ h hx hk] at hnl; cases hnl
        · exact h
      have hN0 := (H p).n0_le_next
      obtain ⟨en0, eold⟩ := r.n0 (Nat.le_of_lt hp)
      obtain ⟨b1, b2, b3, b4⟩ := heapOf_spec G.n0 G.old (fun _ => none) ((H p).next - G.n0)
      have hnn : G.n0 + ((H p).next - G.n0) = (H p).next := by rw [I.gn0]; omega
      rw [hnn] at b3
      generalize heapOf G.n0 G.old (fun _ => none) ((H p).next - G.n0) = hs at b1 b2 b3 b4
      have hnone : ∀ b, G.n0 ≤ b → hs.get b = none := fun b hb => by rw [b4 b hb]; split <;> rfl
      have hsub : Sub hs G := ⟨b1, b2, fun b k' hb hgb => by rw [hnone b (b1 ▸ hb)] at hgb; cases hgb⟩
      have hop' : opA P C o (ev (E p)) hs = some (V p, hs.alloc k) := by rw [hany hs, b3, ← hV]
      have hnext : (H (p + 1)).next = (H p).next + 1 := r.alloc_next hx hk hR
      have hlast : (H (p + 1)).next ≤ (H l.length).next := r.nexts hp (Nat.le_refl l.length)
      have distinct : ∀ (q : Nat) (x : Nat × Oper), l[q]? = some x → kindOf P x.2 = .alloc → R q = true → q ≠ p → (H q).next ≠ (H p).next := by
        intro q x hlq hkq hr hqp
        have hq1 := r.alloc_next hlq hkq hr
        rcases Nat.lt_or_gt_of_ne hqp with h | h
        · have := r.nexts (show q + 1 ≤ p by omega) (Nat.le_of_lt hp); omega
        · have := r.nexts (show p + 1 ≤ q by omega) (Nat.le_of_lt (r.lt hlq)); omega
      have hmn := r.nexts hmp (Nat.le_of_lt hp)
      have h1get : ∀ b, G.n0 ≤ b → b ≠ (H p).next → (hs.alloc k).get b = none := by
        intro b hb hne
        rw [Heap.get_alloc, b3, if_neg hne]; exact hnone b hb
      refine I.run r hx hnl he hg hsub (fun h => by rw [hk] at h; cases h) hop' ?_ (by rw [b3]; exact r.nexts (Nat.zero_le p) (Nat.le_of_lt hp)) (by rw [Heap.next_alloc, b3, I.gnext]; omega) ?_
      · intro b hb hn
        rw [Heap.next_alloc] at hn
        rw [b3] at hb hn
        obtain rfl : b = (H p).next := by omega
        refine I.free _ hmn (by omega) fun q x hq hlq hkq hls hr => ?_
        refine (distinct q x hlq hkq hr ?_).symm
        rintro rfl
        rw [hx] at hlq; cases hlq
        rw [hnl] at hls; cases hls
      · intro μ1 v' w1 G' hS hSt hv henv g0 g1 g2 g3 g4 hμ
        rw [Heap.next_alloc, b3] at hμ
        have keep : ∀ b k', G.n0 ≤ b → b ≠ (H p).next → G.get b = some k' → G'.get b = some k' := by
          intro b k' hb hne hgb
          exact g4 b k' hb hgb (hnone b hb) (by rw [Heap.next_alloc, b3]; omega) (h1get b hb hne)
        refine hK _ _ _ _ _ (I.same r hx he (by rw [hk]; simp) g0 g1 g2 ?_ ?_ ?_ hS hSt henv)
        · intro b k' hb hgb
          have := (H m).lt_of_get hgb
          exact keep b k' (I.gn0 ▸ hb) (by omega) (I.here b k' hb hgb)
        · intro q x k' hq hlq hkq hls hr hh
          by_cases hqp : q = p
          · subst hqp
            have hkk : k' = k := by
              have e1 : (H (q + 1)).get (H q).next = some k' := by rw [hh, Heap.get_alloc, if_pos rfl]
              rw [hH, Heap.get_alloc, if_pos rfl] at e1
              exact (Option.some.inj e1).symm
            subst hkk
            exact g3 _ _ (by rw [I.gn0]; omega) (by rw [Heap.get_alloc, b3, if_pos rfl])
          · have hn0 := (H q).n0_le_next
            rw [(r.n0 (Nat.le_of_lt (r.lt hlq))).1, ← I.gn0] at hn0
            exact keep _ _ hn0 (distinct q x hlq hkq hr hqp) (I.later q x k' hq hlq hkq (hls.resolve_right hqp) hr hh)
        · intro b hb hn hne
          have hbp : b ≠ (H p).next := hne p _ hmp hx hk (.inr rfl) hR
          rw [hμ b (by omega)]
          exact I.free b hb hn fun q x hq hlq hkq hls hr => hne q x hq hlq hkq (.inl hls) hr
    | eff =>
      have I' := I.to_eff r hx hnl he hk
      refine I'.run r hx hnl he hg (I'.sub r) (fun _ => ⟨fun x hm => bd_ev (by rw [(r.n0 (Nat.le_of_lt hp)).1]; exact hg) (r.bdE p (Nat.le_of_lt hp)) (List.all_eq_true.1 (r.ok o (by rw [Array.mem_toList_iff]; exact Array.mem_of_getElem? ho)) x hm), r.bdH p (Nat.le_of_lt hp)⟩) hop ?_ (r.nexts (Nat.zero_le p) (Nat.le_of_lt hp)) (by rw [I.gnext]; exact r.nexts hp (Nat.le_refl _)) ?_
      · intro b hb hn
        refine I'.free b hb (Nat.lt_of_lt_of_le hn (r.nexts hp (Nat.le_refl _))) fun q x hq hlq hkq hls hr => ?_
        rcases Nat.lt_or_ge p q with h | h
        · have := r.nexts (show p + 1 ≤ q by omega) (Nat.le_of_lt (r.lt hlq)); omega
        · obtain rfl : q = p := by omega
          rw [hx] at hlq; cases hlq; rw [hk] at hkq; cases hkq
      · intro μ1 v' w1 G' hS hSt hv henv g0 g1 g2 g3 g4 hμ
        refine hK _ _ _ _ _ (I'.next r hx he hk g0 g1 g2 (fun b k hb hgb => g3 b k (I.gn0 ▸ hb) hgb) ?_ ?_ hS hSt henv)
        · intro q x k hq hlq hkq hls hr hh
          have hq1 := r.nexts hq (Nat.le_of_lt (r.lt hlq))
          have hn0 := (H q).n0_le_next
          rw [(r.n0 (Nat.le_of_lt (r.lt hlq))).1, ← I.gn0] at hn0
          refine g4 _ k hn0 (I'.later q x k (by omega) hlq hkq hls hr hh) ?_ (.inr hq1) ?_
          · cases hh2 : (H p).get (H q).next with
            | none => rfl
            | some k' =>
              have := (H p).lt_of_get hh2
              have := r.nexts (show p ≤ p + 1 by omega) hp
              omega
          · cases hh2 : (H (p + 1)).get (H q).next with
            | none => rfl
            | some k' => have := (H (p + 1)).lt_of_get hh2; omega
        · intro b hb hn hne
          rw [hμ b (.inr hb)]
          refine I'.free b (Nat.le_trans (r.nexts (show p ≤ p + 1 by omega) hp) hb) hn fun q x hq hlq hkq hls hr => ?_
          rcases Nat.lt_or_ge p q with h | h
          · exact hne q x h hlq hkq hls hr
          · obtain rfl : q = p := by omega
            rw [hx] at hlq; cases hlq; rw [hk] at hkq; cases hkq

end inv
end Go.Abs

namespace Go.Abs

section any
variable {P : Program} {C : CallF} {ops : Array Oper} {l : List (Nat × Oper)} {E : Nat → Env} {H : Nat → Heap} {V : Nat → Value} {R : Nat → Bool} {μ0 : Mu} {w0 : World}

theorem Reg.any (r : Reg P C ops l E H V R) (hg : P.globals.size ≤ (H 0).n0) {Q : Exit → Act → World → Prop}
    (hQ : ∀ μ a w, Sim μ (H l.length) w → Step μ0 (H 0) w0 μ (H l.length) w → ERel μ (E l.length) a → Q .normal a w) :
    ∀ (fuel : Nat) (L : List Nat) (listed : Array Bool) (m : Nat) (G : Heap) (μ : Mu) (a : Act) (w : World), Inv P ops l E H V R μ0 w0 listed m G μ a w →
      (∀ i, i < ops.size → listed.getD i false = false → i ∈ L) → L.length ≤ fuel → wpAny P .any ops Q fuel listed a w := by
  -- nothing is ready just where all is listed
  have all_listed : ∀ {listed : Array Bool} {m : Nat} {G : Heap} {μ : Mu} {a : Act} {w : World}, Inv P ops l E H V R μ0 w0 listed m G μ a w → Region.ready .any ops listed = [] → ∀ i, i < ops.size → listed.getD i false = true := by
    intro listed m G μ a w I hr i
    induction i using Nat.strongRecOn with
    | _ i ih =>
      intro hi
      cases hl : listed.getD i false with
      | true => rfl
      | false =>
        have ho : ops[i]? = some ops[i] := Array.getElem?_eq_getElem hi
        have : i ∈ Region.ready .any ops listed := by
          rw [mem_ready]
          refine ⟨?_, ops[i], ho, fun e he hb => ?_⟩
          · have hs : i < listed.size := by rw [I.size]; exact hi
            simpa [hs] using hl
          · have hlt := r.fwd i _ ho e (by simpa using he) hb
            exact ih e.on hlt (by omega)
        rw [hr] at this; cases this
  have fin : ∀ {listed : Array Bool} {m : Nat} {G : Heap} {μ : Mu} {a : Act} {w : World}, Inv P ops l E H V R μ0 w0 listed m G μ a w → Region.ready .any ops listed = [] → Q .normal a w := by
    intro listed m G μ a w I hr
    have hall := all_listed I hr
    have hl : ∀ (q : Nat) (x : Nat × Oper), l[q]? = some x → listed.getD x.1 false = true := by
      intro q x hx
      exact hall x.1 (Array.getElem?_eq_some_iff.1 (r.at_ q x.1 x.2 hx)).1
    have I' := I.advance r I.le (Nat.le_refl _)
      (fun q x h1 h2 h3 h4 => by have := (I.effs q x h3 h4).1 (hl q x h3); omega)
      (fun q x _ _ h3 _ => hl q x h3) (fun q x h1 h2 _ => by have := r.lt h2; omega)
    have hsub := I'.sub r
    have hS := I.sim.sub hsub
    refine hQ μ a w hS ?_ ?_
    · have st := I.stp
      obtain ⟨e1, e2⟩ := r.n0 (Nat.le_refl l.length)
      refine ⟨?_, e1, e2, r.nexts (Nat.zero_le _) (Nat.le_refl _), st.os, st.tape, st.output, st.size, st.same, ?_⟩
      · intro b hb
        rw [← I.gnext] at hb
        exact st.ext b hb
      · intro B hB
        exact st.own B (hB.sub hsub)
    · have henv := I.env
      have : envS l V (xsOf l listed) (E 0) l.length = E l.length := by
        rw [tra_env r.tra rfl l.length (Nat.le_refl _)]
        apply List.ext_getElem?
        intro t
        refine envS_congr _ fun q hq _ => ?_
        unfold xsOf
        rw [List.getElem?_eq_getElem hq]
        exact hl q _ (List.getElem?_eq_getElem hq)
      rw [this] at henv
      exact henv
  intro fuel
  induction fuel with
  | zero =>
    intro L listed m G μ a w I hL hlen
    have hnil : L = [] := List.eq_nil_of_length_eq_zero (by omega)
    have hready : Region.ready .any ops listed = [] := by
      apply List.eq_nil_iff_forall_not_mem.2
      intro i hi
      rw [mem_ready] at hi
      obtain ⟨h1, o, ho, _⟩ := hi
      have hlt := (Array.getElem?_eq_some_iff.1 ho).1
      have := hL i hlt (by
        have hs : i < listed.size := by rw [I.size]; exact hlt
        simpa [hs] using h1)
      rw [hnil] at this; cases this
    exact ⟨hready, fin I hready⟩
  | succ fuel ih =>
    intro L listed m G μ a w I hL hlen
    refine ⟨fin I, ?_⟩
    intro i hi
    rw [mem_ready] at hi
    obtain ⟨h1, o, ho, he⟩ := hi
    have hlt := (Array.getElem?_eq_some_iff.1 ho).1
    have hs : i < listed.size := by rw [I.size]; exact hlt
    have hnl : listed.getD i false = false := by simpa [hs] using h1
    obtain ⟨p, hp⟩ := r.pos i o ho
    refine I.step r hp hnl (fun e hm hb => he e (by simpa using hm) hb) hg ?_
    intro m' G' μ' a' w' I'
    refine ih (L.erase i) _ m' G' μ' a' w' I' ?_ ?_
    · intro j hj hjl
      have hne : j ≠ i := by
        rintro rfl
        have := (set_getD (j := j) hs).2 (.inl rfl)
        rw [this] at hjl; cases hjl
      refine (List.mem_erase_of_ne hne).2 (hL j hj ?_)
      cases hq : listed.getD j false with
      | false => rfl
      | true => have := (set_getD (j := j) hs).2 (.inr hq); rw [this] at hjl; cases hjl
    · rw [List.length_erase_of_mem (hL i hlt hnl)]; omega
end any

theorem zip_map_range {α : Type} (l : List (Nat × Oper)) (f : Nat → α) : ∀ (p : Nat) (x : Nat × Oper), l[p]? = some x → (l.zip ((List.range l.length).map f))[p]? = some (x, f p) := by
  intro p x hx
  have hp : p < l.length := (List.getElem?_eq_some_iff.1 hx).1
  rw [List.getElem?_zip_eq_some]
  exact ⟨hx, by rw [List.getElem?_map, List.getElem?_range hp]; rfl⟩

theorem region_draw_sound {P : Program} {C : CallF} (hC : CSound P C) (hm : P.follows .mixedOrders = true) {id : Nat} {ops : Array Oper} {Q : Exit → Act → World → Prop} {μ : Mu} {e e' : Env} {h h' : Heap} {a : Act} {w : World}
    (hok : ops.toList.all (operOk P) = true) (he : regionA P C ops true e h = some (e', h')) (hg : P.globals.size ≤ h.n0) (hbe : bdL h.next e = true) (hbh : HeapBd h) (S : Sim μ h w) (hf : Free μ h h') (rr : ERel μ e a)
    (hQ : ∀ a' w', Behind μ h w e' h' a' w' → Q .normal a' w') : (Code.region id ops true).wp P Q a w := by
  unfold regionA at he
  simp only [if_true] at he
  split at he
  · rename_i hst
    split at he
    · rename_i tr e1 h1 htr
      split at he
      · rename_i hdyn
        simp only [Option.some.injEq, Prod.mk.injEq] at he
        obtain ⟨rfl, rfl⟩ := he
        obtain ⟨E, H, V, R, e0, h0, en, hn, T, htr'⟩ := trace_tra htr
        simp only [statOk, Bool.and_eq_true] at hst
        obtain ⟨⟨⟨hlen, hgd⟩, hfw⟩, hpairs⟩ := hst
        have hat : ∀ (p i : Nat) (o : Oper), (late P ops)[p]? = some (i, o) → ops[i]? = some o := fun p i o hx => mem_late.1 (List.mem_of_getElem? hx)
        have hbd := T.bd hC (by rw [h0]; exact hg) (fun p x hx => List.all_eq_true.1 hok x.2 (by rw [Array.mem_toList_iff]; exact Array.mem_of_getElem? (hat p x.1 x.2 hx))) (by rw [h0, e0]; exact hbe) (by rw [h0]; exact hbh)
        have r : Reg P C ops (late P ops) E H V R := by
          refine ⟨hC, T, by simpa using hlen, ?_, hat, ?_, ?_, ?_, ?_, ?_, fun p hp => (hbd p hp).1, fun p hp => (hbd p hp).2⟩
          · intro i o ho
            obtain ⟨p, hp⟩ := List.getElem?_of_mem ((mem_late (P := P)).2 ho)
            exact ⟨p, hp⟩
          · intro i o ho e hem hb
            have := List.all_eq_true.1 hfw (o, i) (List.mem_zipIdx_iff_getElem?.2 (by simpa using ho))
            simp only [Array.all_eq_true_iff_forall_mem] at this
            have := this e (by simpa using hem)
            simp only [hb, Bool.not_true, Bool.false_or, decide_eq_true_eq] at this
            exact this
          · intro p i o j b hx hgo
            have := List.all_eq_true.1 hgd (i, o) (List.mem_of_getElem? hx)
            simp only [hgo, Bool.and_eq_true] at this
            exact this.2
          · intro p q x y hpq hx hy
            have := pairs_spec hpairs hpq hx hy
            simp only [Bool.and_eq_true, bne_iff_ne, ne_eq, Bool.not_eq_true', Bool.or_eq_true] at this
            exact ⟨this.1.1, this.1.2, this.2⟩
          · intro p q x y hx hy hkx hr hky nb1 nb2
            have hp : p < (late P ops).length := (List.getElem?_eq_some_iff.1 hx).1
            have hq : q < (late P ops).length := (List.getElem?_eq_some_iff.1 hy).1
            unfold dynOk at hdyn
            simp only at hdyn
            have hzip := zip_map_range (late P ops) (fun p => (⟨E p, H p, V p, R p⟩ : Tr1)) p x hx
            rw [← htr'] at hzip
            have d1 := List.all_eq_true.1 hdyn ((x, ⟨E p, H p, V p, R p⟩), p) (List.mem_zipIdx_iff_getElem?.2 (by simpa using hzip))
            simp only [hkx, hr, beq_self_eq_true, Bool.and_self, Bool.not_true, Bool.false_or] at d1
            have d2 := List.all_eq_true.1 d1 (y, q) (by
              rw [List.mem_filter]
              exact ⟨List.mem_zipIdx_iff_getElem?.2 (by simpa using hy), by simp [hky]⟩)
            simp only [nb1, nb2, Bool.false_or] at d2
            have hhs : ∀ j, j ≤ (late P ops).length → (tr.map (·.h) ++ [h1])[j]? = some (H j) := by
              intro j hj
              have hl : (tr.map (·.h)).length = (late P ops).length := by rw [htr']; simp
              rcases Nat.lt_or_ge j (late P ops).length with hlt | hge
              · rw [List.getElem?_append_left (by omega), htr', List.map_map, List.getElem?_map, List.getElem?_range hlt]
                rfl
              · obtain rfl : j = (late P ops).length := by omega
                rw [List.getElem?_append_right (by omega), hl, Nat.sub_self, hn]
                rfl
            have hrs : ∀ j, j < (late P ops).length → (tr.map (·.ran))[j]? = some (R j) := by
              intro j hj
              rw [htr', List.map_map, List.getElem?_map, List.getElem?_range hj]
              rfl
            have hplus : ∀ (mk : List Nat) (h : Heap), (∀ r ∈ mk, r < (late P ops).length) → mk.foldl (plusStep (tr.map (·.ran)) (tr.map (·.h) ++ [h1])) h = plusAll H R h mk := by
              intro mk
              induction mk with
              | nil => intro h _; rfl
              | cons r mk ih =>
                intro h hr
                have hr0 := hr r List.mem_cons_self
                have e : plusStep (tr.map (·.ran)) (tr.map (·.h) ++ [h1]) h r = Heap.plus (R r) h (H r) (H (r + 1)) := by
                  unfold plusStep
                  rw [hrs r hr0, hhs r (by omega), hhs (r + 1) (by omega)]
                rw [List.foldl_cons, e]
                exact ih _ (fun r' h' => hr r' (List.mem_cons_of_mem _ h'))
            unfold heapAt at d2
            rw [hhs _ (by split <;> omega), Option.map_some, hplus _ _ (fun r hr => by have := (madeIn_mem hr).2.1; omega)] at d2
            simp only [same] at d2
            split at d2
            · rename_i v hv hop
              rw [veq_eq d2] at hop
              exact ⟨_, hop⟩
            · cases d2
          · exact fun o ho => List.all_eq_true.1 hok o ho
        subst e0 h0 en hn
        refine wp_region_any hm ?_
        have hlist : ∀ j, (Array.replicate ops.size false).getD j false = false := by
          intro j
          rcases Nat.lt_or_ge j ops.size with hj | hj
          · simp [hj]
          · simp [Array.getElem?_eq_none (show (Array.replicate ops.size false).size ≤ j by simpa using hj)]
        have hgr := r.nexts (Nat.zero_le _) (Nat.le_refl (late P ops).length)
        have hn0 := (H 0).n0_le_next
        obtain ⟨g1, g2, g3, g4⟩ := heapOf_spec (H 0).n0 (H 0).old (H 0).get ((H (late P ops).length).next - (H 0).n0)
        rw [show (H 0).n0 + ((H (late P ops).length).next - (H 0).n0) = (H (late P ops).length).next from by omega] at g3 g4
        generalize heapOf (H 0).n0 (H 0).old (H 0).get ((H (late P ops).length).next - (H 0).n0) = G at g1 g2 g3 g4
        have hsub : Sub G (H 0) := ⟨g1, g2, fun b k hb hgb => by
          rw [g4 b (g1 ▸ hb)] at hgb
          split at hgb
          · exact hgb
          · cases hgb⟩
        have hxs : ∀ n, envS (late P ops) V (xsOf (late P ops) (Array.replicate ops.size false)) (E 0) n = E 0 := by
          intro n
          induction n with
          | zero => rfl
          | succ n ih =>
            unfold envS
            have : xsOf (late P ops) (Array.replicate ops.size false) n = false := by
              unfold xsOf
              split
              · exact hlist _
              · rfl
            rw [this, ih]; simp
        have I : Inv P ops (late P ops) E H V R μ w (Array.replicate ops.size false) 0 G μ a { w with drawn := w.drawn + 1 } := by
          refine ⟨by simp, ?_, Nat.zero_le _, ?_, ?_, g1, g2, g3, ?_, ?_, ?_, ?_, ?_, ?_⟩
          · intro i o hl
            rw [hlist] at hl; cases hl
          · intro p x _ _
            rw [hlist]; simp
          · intro p x hp; omega
          · intro b k hb hgb
            rw [g4 b hb, if_pos (Nat.lt_of_lt_of_le ((H 0).lt_of_get hgb) hgr)]; exact hgb
          · intro p x k _ _ _ hl
            rw [hlist] at hl; cases hl
          · intro b hb hn _
            exact hf b hb hn
          · exact (S.sub hsub).world rfl
          · exact ⟨fun _ _ => rfl, g1, g2, by rw [g3]; exact hgr, rfl, rfl, rfl, Nat.le_refl _, fun _ _ _ => rfl, fun B hB => .inl (hB.sub hsub)⟩
          · rw [hxs]; exact rr
        refine r.any hg (fun μ' a' w' hS hSt hr' => hQ a' w' ⟨μ', hS, hSt, hr'⟩) ops.size (List.range ops.size) _ 0 G μ a _ I ?_ (by simp)
        intro i hi _
        simpa using hi
      · cases he
    · cases he
  · cases he

end Go.Abs

namespace Go.Abs

def codeOk (P : Program) : Code → Bool
  | .skip | .exit _ | .label _ | .ret => true
  | .region _ ops _ => ops.toList.all (operOk P)
  | .seq a b => codeOk P a && codeOk P b
  | .cond c a b => opdOk P c && codeOk P a && codeOk P b
  | .block _ b | .loop b | .scope b => codeOk P b
  | .goto _ | .rangeFunc .. | .refuse _ => false

def exOf : Ex → Exit
  | .normal => .normal
  | .ret => .ret
  | .exit i => .exit i

section code
variable {P : Program} {C : CallF}

theorem opsA_grow (hC : CSound P C) {ops : Array Oper} : ∀ (l : List Oper) {e e' : Env} {h h' : Heap}, opsA P C ops l e h = some (e', h') → Grow h h'
  | [], e, e', h, h', he => by simp only [opsA, Option.some.injEq, Prod.mk.injEq] at he; obtain ⟨_, rfl⟩ := he; exact Grow.refl _
  | o :: l, e, e', h, h', he => by
    simp only [opsA] at he
    split at he
    · rename_i e1 h1 hs
      unfold stepA at hs
      split at hs
      · split at hs
        · rename_i v hv hop; cases hs; exact (opA_grow hC hop).trans (opsA_grow hC l he)
        · cases hs
      · cases hs; exact opsA_grow hC l he
    · cases he

theorem regionA_grow (hC : CSound P C) {ops : Array Oper} {d : Bool} {e e' : Env} {h h' : Heap} (he : regionA P C ops d e h = some (e', h')) : Grow h h' := by
  unfold regionA at he
  split at he
  · split at he
    · split at he
      · rename_i tr e1 h1 htr
        split at he
        · simp only [Option.some.injEq, Prod.mk.injEq] at he
          obtain ⟨rfl, rfl⟩ := he
          obtain ⟨E, H, V, R, e0, h0, en, hn, T, _⟩ := trace_tra htr
          rw [← h0, ← hn]
          exact T.grow hC (Nat.zero_le _) (Nat.le_refl _)
        · cases he
      · cases he
    · cases he
  · exact opsA_grow hC _ he

theorem iter_grow {step : Env → Heap → Option (Ex × Env × Heap)} (hs : ∀ e h x e' h', step e h = some (x, e', h') → Grow h h') : ∀ (n : Nat) {e e' : Env} {h h' : Heap} {x : Ex}, iter step n e h = some (x, e', h') → Grow h h'
  | 0, e, e', h, h', x, he => by cases he
  | n + 1, e, e', h, h', x, he => by
    simp only [iter] at he
    split at he
    · rename_i e1 h1 h2; exact (hs _ _ _ _ _ h2).trans (iter_grow hs n he)
    · exact hs _ _ _ _ _ he

theorem codeA_grow (hC : CSound P C) : ∀ (c : Code) {e e' : Env} {h h' : Heap} {x : Ex}, codeA P C c e h = some (x, e', h') → Grow h h'
  | .skip, e, e', h, h', x, he => by simp only [codeA, Option.some.injEq, Prod.mk.injEq] at he; obtain ⟨_, _, rfl⟩ := he; exact Grow.refl _
  | .region _ ops d, e, e', h, h', x, he => by
    simp only [codeA] at he
    split at he
    · rename_i e1 h1 h2; cases he; exact regionA_grow hC h2
    · cases he
  | .seq a b, e, e', h, h', x, he => by
    simp only [codeA] at he
    split at he
    · rename_i e1 h1 h2; exact (codeA_grow hC a h2).trans (codeA_grow hC b he)
    · exact codeA_grow hC a he
  | .cond c a b, e, e', h, h', x, he => by
    simp only [codeA] at he
    split at he
    · exact codeA_grow hC a he
    · exact codeA_grow hC b he
    · cases he
  | .block i b, e, e', h, h', x, he => by
    simp only [codeA] at he
    split at he
    · rename_i j e1 h1 h2
      simp only [Option.some.injEq, Prod.mk.injEq] at he
      obtain ⟨_, _, rfl⟩ := he
      exact codeA_grow hC b h2
    · exact codeA_grow hC b he
  | .loop b, e, e', h, h', x, he => by
    simp only [codeA] at he
    exact iter_grow (fun _ _ _ _ _ h => codeA_grow hC b h) _ he
  | .exit _, e, e', h, h', x, he => by simp only [codeA, Option.some.injEq, Prod.mk.injEq] at he; obtain ⟨_, _, rfl⟩ := he; exact Grow.refl _
  | .scope b, e, e', h, h', x, he => by simp only [codeA] at he; exact codeA_grow hC b he
  | .label _, e, e', h, h', x, he => by simp only [codeA, Option.some.injEq, Prod.mk.injEq] at he; obtain ⟨_, _, rfl⟩ := he; exact Grow.refl _
  | .ret, e, e', h, h', x, he => by simp only [codeA, Option.some.injEq, Prod.mk.injEq] at he; obtain ⟨_, _, rfl⟩ := he; exact Grow.refl _
  | .goto _, e, e', h, h', x, he => by cases he
  | .rangeFunc .., e, e', h, h', x, he => by cases he
  | .refuse _, e, e', h, h', x, he => by cases he

theorem opsA_bd (hC : CSound P C) {ops : Array Oper} : ∀ (l : List Oper) {e e' : Env} {h h' : Heap}, l.all (operOk P) = true → P.globals.size ≤ h.n0 → bdL h.next e = true → HeapBd h → opsA P C ops l e h = some (e', h') → bdL h'.next e' = true ∧ HeapBd h'
  | [], e, e', h, h', _, _, he, hh, h1 => by simp only [opsA, Option.some.injEq, Prod.mk.injEq] at h1; obtain ⟨rfl, rfl⟩ := h1; exact ⟨he, hh⟩
  | o :: l, e, e', h, h', hok, hg, he, hh, h1 => by
    simp only [List.all_cons, Bool.and_eq_true] at hok
    simp only [opsA] at h1
    split at h1
    · rename_i e1 h2 hs
      unfold stepA at hs
      split at hs
      · split at hs
        · rename_i v hv hop
          cases hs
          have hgr := opA_grow hC hop
          obtain ⟨g1, g2⟩ := opA_bd hC hh (fun x hm => bd_ev hg he (List.all_eq_true.1 hok.1 x hm)) hop
          exact opsA_bd hC l hok.2 (by rw [hgr.2.1]; exact hg) (bd_putD (bdL_mono hgr.1 he) g1) g2 h1
        · cases hs
      · cases hs; exact opsA_bd hC l hok.2 hg (bd_putD he rfl) hh h1
    · cases h1

theorem regionA_bd (hC : CSound P C) {ops : Array Oper} {d : Bool} {e e' : Env} {h h' : Heap} (hok : ops.toList.all (operOk P) = true) (hg : P.globals.size ≤ h.n0) (hbe : bdL h.next e = true) (hbh : HeapBd h)
    (he : regionA P C ops d e h = some (e', h')) : bdL h'.next e' = true ∧ HeapBd h' := by
  unfold regionA at he
  split at he
  · split at he
    · split at he
      · rename_i tr e1 h1 htr
        split at he
        · simp only [Option.some.injEq, Prod.mk.injEq] at he
          obtain ⟨rfl, rfl⟩ := he
          obtain ⟨E, H, V, R, e0, h0, en, hn, T, _⟩ := trace_tra htr
          rw [← en, ← hn]
          exact T.bd hC (by rw [h0]; exact hg) (fun p x hx => List.all_eq_true.1 hok x.2 (by rw [Array.mem_toList_iff]; exact Array.mem_of_getElem? (mem_late.1 (List.mem_of_getElem? hx)))) (by rw [h0, e0]; exact hbe) (by rw [h0]; exact hbh) _ (Nat.le_refl _)
        · cases he
      · cases he
    · cases he
  · exact opsA_bd hC _ hok hg hbe hbh he

theorem iter_bd (hC : CSound P C) {b : Code} (hb : ∀ e h x e' h', P.globals.size ≤ h.n0 → bdL h.next e = true → HeapBd h → codeA P C b e h = some (x, e', h') → bdL h'.next e' = true ∧ HeapBd h') :
    ∀ (n : Nat) {e e' : Env} {h h' : Heap} {x : Ex}, P.globals.size ≤ h.n0 → bdL h.next e = true → HeapBd h → iter (codeA P C b) n e h = some (x, e', h') → bdL h'.next e' = true ∧ HeapBd h'
  | 0, e, e', h, h', x, _, _, _, he => by cases he
  | n + 1, e, e', h, h', x, hg, hbe, hbh, he => by
    simp only [iter] at he
    split at he
    · rename_i e1 h1 h2
      obtain ⟨g1, g2⟩ := hb _ _ _ _ _ hg hbe hbh h2
      exact iter_bd hC hb n (by rw [(codeA_grow hC b h2).2.1]; exact hg) g1 g2 he
    · exact hb _ _ _ _ _ hg hbe hbh he

theorem codeA_bd (hC : CSound P C) : ∀ (c : Code) {e e' : Env} {h h' : Heap} {x : Ex}, codeOk P c = true → P.globals.size ≤ h.n0 → bdL h.next e = true → HeapBd h → codeA P C c e h = some (x, e', h') → bdL h'.next e' = true ∧ HeapBd h'
  | .skip, e, e', h, h', x, _, _, hbe, hbh, he => by simp only [codeA, Option.some.injEq, Prod.mk.injEq] at he; obtain ⟨_, rfl, rfl⟩ := he; exact ⟨hbe, hbh⟩
  | .region _ ops d, e, e', h, h', x, hok, hg, hbe, hbh, he => by
    simp only [codeOk] at hok
    simp only [codeA] at he
    split at he
    · rename_i e1 h1 h2; cases he; exact regionA_bd hC hok hg hbe hbh h2
    · cases he
  | .seq a b, e, e', h, h', x, hok, hg, hbe, hbh, he => by
    simp only [codeOk, Bool.and_eq_true] at hok
    simp only [codeA] at he
    split at he
    · rename_i e1 h1 h2
      obtain ⟨g1, g2⟩ := codeA_bd hC a hok.1 hg hbe hbh h2
      exact codeA_bd hC b hok.2 (by rw [(codeA_grow hC a h2).2.1]; exact hg) g1 g2 he
    · exact codeA_bd hC a hok.1 hg hbe hbh he
  | .cond c a b, e, e', h, h', x, hok, hg, hbe, hbh, he => by
    simp only [codeOk, Bool.and_eq_true] at hok
    simp only [codeA] at he
    split at he
    · exact codeA_bd hC a hok.1.2 hg hbe hbh he
    · exact codeA_bd hC b hok.2 hg hbe hbh he
    · cases he
  | .block i b, e, e', h, h', x, hok, hg, hbe, hbh, he => by
    simp only [codeOk] at hok
    simp only [codeA] at he
    split at he
    · rename_i j e1 h1 h2
      simp only [Option.some.injEq, Prod.mk.injEq] at he
      obtain ⟨_, rfl, rfl⟩ := he
      exact codeA_bd hC b hok hg hbe hbh h2
    · exact codeA_bd hC b hok hg hbe hbh he
  | .loop b, e, e', h, h', x, hok, hg, hbe, hbh, he => by
    simp only [codeOk] at hok
    simp only [codeA] at he
    exact iter_bd hC (fun _ _ _ _ _ h1 h2 h3 h4 => codeA_bd hC b hok h1 h2 h3 h4) _ hg hbe hbh he
  | .exit _, e, e', h, h', x, _, _, hbe, hbh, he => by simp only [codeA, Option.some.injEq, Prod.mk.injEq] at he; obtain ⟨_, rfl, rfl⟩ := he; exact ⟨hbe, hbh⟩
  | .scope b, e, e', h, h', x, hok, hg, hbe, hbh, he => by simp only [codeOk] at hok; simp only [codeA] at he; exact codeA_bd hC b hok hg hbe hbh he
  | .label _, e, e', h, h', x, _, _, hbe, hbh, he => by simp only [codeA, Option.some.injEq, Prod.mk.injEq] at he; obtain ⟨_, rfl, rfl⟩ := he; exact ⟨hbe, hbh⟩
  | .ret, e, e', h, h', x, _, _, hbe, hbh, he => by simp only [codeA, Option.some.injEq, Prod.mk.injEq] at he; obtain ⟨_, rfl, rfl⟩ := he; exact ⟨hbe, hbh⟩
  | .goto _, e, e', h, h', x, _, _, _, _, he => by cases he
  | .rangeFunc .., e, e', h, h', x, _, _, _, _, he => by cases he
  | .refuse _, e, e', h, h', x, _, _, _, _, he => by cases he

/-- What is shown of a piece of code. -/
def CodeGood (P : Program) (C : CallF) (c : Code) : Prop :=
  ∀ (e e' : Env) (h h' : Heap) (x : Ex) (μ : Mu) (a : Act) (w : World) (Q : Exit → Act → World → Prop), codeA P C c e h = some (x, e', h') → P.globals.size ≤ h.n0 → bdL h.next e = true → HeapBd h → Sim μ h w → Free μ h h' → ERel μ e a →
    (∀ a' w', Behind μ h w e' h' a' w' → Q (exOf x) a' w') → c.wp P Q a w

theorem Behind.trans {μ μ1 : Mu} {h h1 h2 : Heap} {w w1 w2 : World} {e2 : Env} {a2 : Act} (st : Step μ h w μ1 h1 w1) (b : Behind μ1 h1 w1 e2 h2 a2 w2) : Behind μ h w e2 h2 a2 w2 := by
  obtain ⟨μ2, hS, hSt, hr⟩ := b
  exact ⟨μ2, hS, st.trans hSt, hr⟩

theorem iter_good (hC : CSound P C) {b : Code} (hb : CodeGood P C b)
    (hbd : ∀ e h x e' h', P.globals.size ≤ h.n0 → bdL h.next e = true → HeapBd h → codeA P C b e h = some (x, e', h') → bdL h'.next e' = true ∧ HeapBd h') : ∀ (n : Nat) {e e' : Env} {h h' : Heap} {x : Ex} {μ : Mu} {a : Act} {w : World} {Q : Exit → Act → World → Prop}, iter (codeA P C b) n e h = some (x, e', h') →
    P.globals.size ≤ h.n0 → bdL h.next e = true → HeapBd h → Sim μ h w → Free μ h h' → ERel μ e a → (∀ a' w', Behind μ h w e' h' a' w' → Q (exOf x) a' w') → Code.rounds P b Q n a w
  | 0, _, _, _, _, _, _, _, _, _, he, _, _, _, _, _, _, _ => by cases he
  | n + 1, e, e', h, h', x, μ, a, w, Q, he, hg, hbe, hbh, S, hf, r, hQ => by
    rw [rounds_succ]
    simp only [iter] at he
    split at he
    · rename_i e1 h1 h2
      have hgr := codeA_grow hC b h2
      have hgr2 := iter_grow (fun _ _ _ _ _ h => codeA_grow hC b h) _ he
      refine hb _ _ _ _ _ _ _ _ _ h2 hg hbe hbh S (hf.first hgr2.1) r ?_
      rintro a1 w1 ⟨μ1, hS, hSt, hr⟩
      exact iter_good hC hb hbd n he (by rw [hgr.2.1]; exact hg) (hbd _ _ _ _ _ hg hbe hbh h2).1 (hbd _ _ _ _ _ hg hbe hbh h2).2 hS (hf.second hSt) hr (fun a' w' hb' => hQ a' w' (hb'.trans hSt))
    · rename_i hne
      refine hb _ _ _ _ _ _ _ _ _ he hg hbe hbh S hf r ?_
      intro a1 w1 hb1
      have hq := hQ a1 w1 hb1
      cases x with
      | normal => exact absurd he (hne _ _)
      | ret => exact hq
      | exit i => exact hq

theorem codeA_sound (hC : CSound P C) (hm : P.follows .mixedOrders = true) : ∀ (c : Code), codeOk P c = true → CodeGood P C c
  | .skip, _ => by
    intro e e' h h' x μ a w Q he hg hbe hbh S hf r hQ
    simp only [codeA, Option.some.injEq, Prod.mk.injEq] at he
    obtain ⟨rfl, rfl, rfl⟩ := he
    exact wp_skip (hQ a w ⟨μ, S, .same_world, r⟩)
  | .region id ops d, hok => by
    intro e e' h h' x μ a w Q he hg hbe hbh S hf r hQ
    simp only [codeOk] at hok
    simp only [codeA] at he
    split at he
    · rename_i e1 h1 h2
      cases he
      cases d with
      | true => exact region_draw_sound hC hm hok h2 hg hbe hbh S hf r hQ
      | false => exact region_seq_sound hC hok (by simpa [regionA] using h2) hg hbe hbh S hf r hQ
    · cases he
  | .seq b c, hok => by
    intro e e' h h' x μ a w Q he hg hbe hbh S hf r hQ
    simp only [codeOk, Bool.and_eq_true] at hok
    simp only [codeA] at he
    refine wp_seq ?_
    split at he
    · rename_i e1 h1 h2
      have hgr := codeA_grow hC b h2
      have hgr2 := codeA_grow hC c he
      refine codeA_sound hC hm b hok.1 _ _ _ _ _ _ _ _ _ h2 hg hbe hbh S (hf.first hgr2.1) r ?_
      rintro a1 w1 ⟨μ1, hS, hSt, hr⟩
      exact codeA_sound hC hm c hok.2 _ _ _ _ _ _ _ _ _ he (by rw [hgr.2.1]; exact hg) (codeA_bd hC b hok.1 hg hbe hbh h2).1 (codeA_bd hC b hok.1 hg hbe hbh h2).2 hS (hf.second hSt) hr (fun a' w' hb' => hQ a' w' (hb'.trans hSt))
    · rename_i hne
      refine codeA_sound hC hm b hok.1 _ _ _ _ _ _ _ _ _ he hg hbe hbh S hf r ?_
      intro a1 w1 hb1
      have hq := hQ a1 w1 hb1
      cases x with
      | normal => exact absurd he (hne _ _)
      | ret => exact hq
      | exit i => exact hq
  | .cond c x y, hok => by
    intro e e' h h' ex μ a w Q he hg hbe hbh S hf r hQ
    simp only [codeOk, Bool.and_eq_true] at hok
    simp only [codeA] at he
    have hv := ev_rel S hg r hok.1.1
    split at he
    · rename_i h1
      rw [h1] at hv
      exact wp_cond_true hv.bool (codeA_sound hC hm x hok.1.2 _ _ _ _ _ _ _ _ _ he hg hbe hbh S hf r hQ)
    · rename_i h1
      rw [h1] at hv
      exact wp_cond_false hv.bool (codeA_sound hC hm y hok.2 _ _ _ _ _ _ _ _ _ he hg hbe hbh S hf r hQ)
    · cases he
  | .block id b, hok => by
    intro e e' h h' x μ a w Q he hg hbe hbh S hf r hQ
    simp only [codeOk] at hok
    simp only [codeA] at he
    refine wp_block ?_
    split at he
    · rename_i j e1 h1 h2
      simp only [Option.some.injEq, Prod.mk.injEq] at he
      obtain ⟨rfl, rfl, rfl⟩ := he
      refine codeA_sound hC hm b hok _ _ _ _ _ _ _ _ _ h2 hg hbe hbh S hf r ?_
      intro a' w' hb'
      have hq := hQ a' w' hb'
      simp only [exOf, Exit.inBlock]
      by_cases hj : j = id
      · rw [if_pos hj] at hq ⊢; exact hq
      · rw [if_neg hj] at hq ⊢; exact hq
    · rename_i hne
      refine codeA_sound hC hm b hok _ _ _ _ _ _ _ _ _ he hg hbe hbh S hf r ?_
      intro a' w' hb'
      have hq := hQ a' w' hb'
      cases x with
      | normal => exact hq
      | ret => exact hq
      | exit i => exact absurd he (hne _ _ _)
  | .loop b, hok => by
    intro e e' h h' x μ a w Q he hg hbe hbh S hf r hQ
    simp only [codeOk] at hok
    simp only [codeA] at he
    exact wp_loop_rounds _ (iter_good hC (codeA_sound hC hm b hok) (fun _ _ _ _ _ h1 h2 h3 h4 => codeA_bd hC b hok h1 h2 h3 h4) _ he hg hbe hbh S hf r hQ)
  | .exit i, _ => by
    intro e e' h h' x μ a w Q he hg hbe hbh S hf r hQ
    simp only [codeA, Option.some.injEq, Prod.mk.injEq] at he
    obtain ⟨rfl, rfl, rfl⟩ := he
    exact wp_exit (hQ a w ⟨μ, S, .same_world, r⟩)
  | .scope b, hok => by
    intro e e' h h' x μ a w Q he hg hbe hbh S hf r hQ
    simp only [codeOk] at hok
    simp only [codeA] at he
    refine wp_scope_straight (codeA_sound hC hm b hok _ _ _ _ _ _ _ _ _ he hg hbe hbh S hf r ?_)
    intro a' w' hb'
    have hq := hQ a' w' hb'
    cases x <;> exact hq
  | .label _, _ => by
    intro e e' h h' x μ a w Q he hg hbe hbh S hf r hQ
    simp only [codeA, Option.some.injEq, Prod.mk.injEq] at he
    obtain ⟨rfl, rfl, rfl⟩ := he
    exact wp_label (hQ a w ⟨μ, S, .same_world, r⟩)
  | .ret, _ => by
    intro e e' h h' x μ a w Q he hg hbe hbh S hf r hQ
    simp only [codeA, Option.some.injEq, Prod.mk.injEq] at he
    obtain ⟨rfl, rfl, rfl⟩ := he
    exact wp_ret (hQ a w ⟨μ, S, .same_world, r⟩)
  | .goto _, hok => by simp [codeOk] at hok
  | .rangeFunc .., hok => by simp [codeOk] at hok
  | .refuse _, hok => by simp [codeOk] at hok

theorem resultsA_grow {rs : List ResultVar} {e : Env} {h h' : Heap} {v : Value} (he : resultsA P rs e h = some (v, h')) : h' = h := by
  unfold resultsA at he
  split at he
  · simp only [Option.map_eq_some_iff, Prod.mk.injEq] at he; obtain ⟨_, _, _, rfl⟩ := he; rfl
  · simp only [Option.map_eq_some_iff, Prod.mk.injEq] at he; obtain ⟨_, _, _, rfl⟩ := he; rfl

def resV (tmps : Array Value) : ResultVar → Sem Value
  | .tmp t => pure (tmps.getD t undef)
  | .cell b t => do loadVar t (← asAddr (tmps.getD b undef))
theorem results_eq (fn : Func) (tmps : Array Value) : results fn tmps = (do let vs ← fn.results.mapM (resV tmps); pure (if h : vs.size = 1 then vs[0] else .tuple vs)) := rfl

theorem resultA_sound {μ : Mu} {h : Heap} {w : World} {e : Env} {a : Act} (S : Sim μ h w) (r : ERel μ e a) {x : ResultVar} {v : Value} (hv : resultA P x e h = some v) :
    ∃ v', (resV a.tmps x).run P w = .ok v' w ∧ VRel μ v v' := by
  cases x with
  | tmp t =>
    simp only [resultA, Option.some.injEq] at hv
    subst hv
    refine ⟨_, rfl, ?_⟩
    have := r.1.getD t
    simpa using this
  | cell b t =>
    simp only [resultA, Option.map_eq_some_iff] at hv
    obtain ⟨⟨v1, h1⟩, hl, rfl⟩ := hv
    have hr : VRel μ (e.getD b undef) (a.tmps.getD b undef) := by have := r.1.getD b; simpa using this
    obtain ⟨_, r', hrun, hv'⟩ := ld_sound S hr hl
    refine ⟨r', ?_, hv'⟩
    simp only [resV, Instr.loadAt, Sem.run_bind] at hrun ⊢
    cases hx : a.tmps.getD b undef with
    | pointer p =>
      rw [hx] at hrun
      cases p with
      | none => simp [Instr.sureAddr] at hrun
      | some q => simpa [Instr.sureAddr, asAddr] using hrun
    | _ => rw [hx] at hrun; simp [Instr.sureAddr] at hrun

theorem mapM_rel {μ : Mu} {h : Heap} {w : World} {e : Env} {a : Act} (S : Sim μ h w) (r : ERel μ e a) : ∀ {rs : List ResultVar} {vs : List Value}, rs.mapM (fun r => resultA P r e h) = some vs →
    ∃ vs', (rs.mapM (resV a.tmps)).run P w = .ok vs' w ∧ LRel μ vs vs'
  | [], vs, hv => by simp at hv; subst hv; exact ⟨[], by simp, LRel.nil μ⟩
  | x :: rs, vs, hv => by
    rw [List.mapM_cons] at hv
    simp only [bind, Option.bind_eq_some_iff, pure, Option.some.injEq] at hv
    obtain ⟨v, hv1, vs1, hv2, rfl⟩ := hv
    obtain ⟨v', h1, h2⟩ := resultA_sound S r hv1
    obtain ⟨vs', h3, h4⟩ := mapM_rel S r hv2
    refine ⟨v' :: vs', ?_, LRel.cons h2 h4⟩
    rw [List.mapM_cons, Sem.run_bind]
    rw [h1]
    simp only [Result.andThen_ok, Sem.run_bind]
    rw [h3]
    simp

theorem mapM_length {α β : Type} {f : α → Option β} : ∀ {l : List α} {r : List β}, l.mapM f = some r → l.length = r.length
  | [], r, h => by simp at h; subst h; rfl
  | x :: l, r, h => by
    rw [List.mapM_cons] at h
    simp only [bind, Option.bind_eq_some_iff, pure, Option.some.injEq] at h
    obtain ⟨a, _, r1, h2, rfl⟩ := h
    simp [mapM_length h2]

theorem resultsA_sound {μ : Mu} {h h' : Heap} {w : World} {e : Env} {a : Act} (S : Sim μ h w) (r : ERel μ e a) {fn : Func} {v : Value} (hv : resultsA P fn.results.toList e h = some (v, h')) :
    ∃ v', (results fn a.tmps).run P w = .ok v' w ∧ VRel μ v v' := by
  have main : ∀ {vs : List Value}, fn.results.toList.mapM (fun r => resultA P r e h) = some vs → ∃ vs', (fn.results.mapM (resV a.tmps)).run P w = .ok vs'.toArray w ∧ LRel μ vs vs' := by
    intro vs hvs
    obtain ⟨vs', h1, h2⟩ := mapM_rel S r hvs
    refine ⟨vs', ?_, h2⟩
    rw [Array.mapM_eq_mapM_toList, Sem.run_map, h1]
    rfl
  unfold resultsA at hv
  split at hv
  · rename_i x hx
    simp only [Option.map_eq_some_iff, Prod.mk.injEq] at hv
    obtain ⟨v1, hv1, rfl, rfl⟩ := hv
    obtain ⟨vs', h1, h2⟩ := main (vs := [v1]) (by rw [hx]; simp [hv1])
    have hl := h2.1
    match vs', hl with
    | [v'], _ =>
      refine ⟨v', ?_, h2.head⟩
      rw [results_eq, Sem.run_bind]
      rw [h1]
      simp
  · rename_i hne
    simp only [Option.map_eq_some_iff, Prod.mk.injEq] at hv
    obtain ⟨vs, hvs, rfl, rfl⟩ := hv
    obtain ⟨vs', h1, h2⟩ := main hvs
    refine ⟨.tuple vs'.toArray, ?_, .of_list_tuple h2⟩
    rw [results_eq, Sem.run_bind]
    rw [h1]
    simp only [Result.andThen_ok, Sem.run_pure]
    have hlen : vs'.length ≠ 1 := by
      rw [← h2.1, ← mapM_length hvs]
      intro h1'
      obtain ⟨x, hx⟩ := List.length_eq_one_iff.1 h1'
      exact hne x hx
    rw [dif_neg (by simpa using hlen)]

end code
end Go.Abs

namespace Go.Abs

/-- A result, handed on. -/
def thenV {α : Type} (r : Out) (k : Value → Heap → Option α) : Option α :=
  match r with
  | some (v, h) => k v h
  | none => none

/-- An operation under a guard. -/
def guardK (g : Bool) (o : Out) (h : Heap) : Out :=
  match g with
  | true => o
  | false => some (undef, h)

def opsK {α : Type} (P : Program) (C : CallF) (ops : Array Oper) : List Oper → Env → Heap → (Env → Heap → Option α) → Option α
  | [], e, h, k => k e h
  | o :: rest, e, h, k =>
    match o.guard with
    | none => thenV (opA P C o (ev e) h) fun v h' => opsK P C ops rest (putD e o.dst v) h' k
    | some (j, want) => thenV (guardK (yieldA ops e j == some want) (opA P C o (ev e) h) h) fun v h' => opsK P C ops rest (putD e o.dst v) h' k

theorem opsK_eq {α : Type} (P : Program) (C : CallF) (ops : Array Oper) : ∀ (l : List Oper) (e : Env) (h : Heap) (k : Env → Heap → Option α),
    opsK P C ops l e h k = match opsA P C ops l e h with | some (e', h') => k e' h' | none => none
  | [], e, h, k => rfl
  | o :: rest, e, h, k => by
    unfold opsK opsA stepA wantA thenV
    cases hg : o.guard with
    | none =>
      simp only [if_true]
      cases opA P C o (ev e) h with
      | none => rfl
      | some r => exact opsK_eq P C ops rest _ _ k
    | some g =>
      obtain ⟨j, want⟩ := g
      simp only
      by_cases hy : (yieldA ops e j == some want) = true
      · simp only [hy, if_true, guardK]
        cases opA P C o (ev e) h with
        | none => rfl
        | some r => exact opsK_eq P C ops rest _ _ k
      · rw [if_neg hy]
        rw [Bool.not_eq_true] at hy
        simp only [hy, guardK]
        exact opsK_eq P C ops rest _ _ k

/-- No reader stands beside an effect that it does not hang on, nor that on it. -/
def dynTriv (P : Program) (ops : Array Oper) (l : List (Nat × Oper)) : Bool :=
  let m := befM ops
  l.all fun x => !(kindOf P x.2 == .read) || l.all fun y => !(kindOf P y.2 == .eff) || befB m x.1 y.1 || befB m y.1 x.1

theorem dynTriv_ok {P : Program} {C : CallF} {ops : Array Oper} {l : List (Nat × Oper)} (ht : dynTriv P ops l = true) (tr : List Tr1) (hE : Heap) : dynOk P C ops l tr hE = true := by
  unfold dynOk
  unfold dynTriv at ht
  simp only [List.all_eq_true, Bool.or_eq_true, Bool.not_eq_true', Bool.and_eq_false_iff] at ht ⊢
  intro x hx
  by_cases hr : (kindOf P x.1.1.2 == .read && x.1.2.ran) = true
  · right
    have hx1 : x.1.1 ∈ l := by
      obtain ⟨i, hi⟩ := List.getElem?_of_mem hx
      rw [List.getElem?_zipIdx, Option.map_eq_some_iff] at hi
      obtain ⟨z, hz, rfl⟩ := hi
      exact List.of_mem_zip (a := z.1) (b := z.2) (List.mem_of_getElem? hz) |>.1
    intro y hy
    have hy1 : y.1 ∈ l ∧ (kindOf P y.1.2 == .eff) = true := by
      rw [List.mem_filter] at hy
      refine ⟨?_, hy.2⟩
      obtain ⟨i, hi⟩ := List.getElem?_of_mem hy.1
      rw [List.getElem?_zipIdx, Option.map_eq_some_iff] at hi
      obtain ⟨z, hz, rfl⟩ := hi
      exact List.mem_of_getElem? hz
    left
    rcases ht x.1.1 hx1 with h1 | h1
    · rw [h1] at hr; simp at hr
    · rcases h1 y.1 hy1.1 with (h2 | h2) | h2
      · rw [hy1.2] at h2; cases h2
      · exact .inl h2
      · exact .inr h2
  · left
    cases h1 : (kindOf P x.1.1.2 == .read) with
    | false => simp
    | true => rw [h1] at hr; simpa using hr

theorem trace_ops {P : Program} {C : CallF} {ops : Array Oper} : ∀ (l : List (Nat × Oper)) (e : Env) (h : Heap),
    (traceA P C ops l e h).map (·.2) = opsA P C ops (l.map (·.2)) e h
  | [], e, h => rfl
  | (i, o) :: rest, e, h => by
    simp only [traceA, List.map_cons, opsA, stepA]
    by_cases hw : wantA ops o e = true
    · rw [if_pos hw, if_pos hw]
      cases opA P C o (ev e) h with
      | none => rfl
      | some r =>
        obtain ⟨v, h'⟩ := r
        simp only
        have := trace_ops (P := P) (C := C) (ops := ops) rest (putD e o.dst v) h'
        rw [← this]
        cases traceA P C ops rest (putD e o.dst v) h' <;> rfl
    · rw [if_neg hw, if_neg hw]
      simp only
      have := trace_ops (P := P) (C := C) (ops := ops) rest (putD e o.dst undef) h
      rw [← this]
      cases traceA P C ops rest (putD e o.dst undef) h <;> rfl

def lateOk (P : Program) (ops : Array Oper) : Bool := statOk P ops (late P ops) && dynTriv P ops (late P ops)

/-- Readers and effects that do not hang on one another, by their places. -/
def dynPairs (P : Program) (ops : Array Oper) (l : List (Nat × Oper)) : List (Nat × Nat) :=
  let m := befM ops
  (l.zipIdx.filter fun x => kindOf P x.1.2 == .read).flatMap fun x =>
    (l.zipIdx.filter fun y => kindOf P y.1.2 == .eff && !(befB m x.1.1 y.1.1 || befB m y.1.1 x.1.1)).map fun y => (x.2, y.2)
def chkR (ran : Bool) (r : Out) (v : Value) : Bool := !ran || same r v
def chkAt (P : Program) (C : CallF) (l : List (Nat × Oper)) (tr : List Tr1) (hs : List Heap) (x : Nat × Nat) : Bool :=
  match l[x.1]?, tr[x.1]?, heapAt (tr.map (·.ran)) hs (madeIn P l x) (if x.2 < x.1 then x.2 else x.2 + 1) with
  | some y, some t, some h => chkR t.ran (opA P C y.2 (ev t.e) h) t.v
  | some _, some t, none => !t.ran
  | _, _, _ => false
def dynChk (P : Program) (C : CallF) (ops : Array Oper) (l : List (Nat × Oper)) (tr : List Tr1) (hEnd : Heap) : Bool :=
  (dynPairs P ops l).foldr (fun x acc => chkAt P C l tr (tr.map (·.h) ++ [hEnd]) x && acc) true

theorem foldr_all {α : Type} (f : α → Bool) : ∀ l : List α, l.foldr (fun x acc => f x && acc) true = l.all f
  | [] => rfl
  | x :: l => by simp only [List.foldr_cons, List.all_cons, foldr_all f l]

theorem mem_zipIdx_get {α : Type} {l : List α} {x : α} {i : Nat} : (x, i) ∈ l.zipIdx ↔ l[i]? = some x := by
  constructor
  · intro h
    obtain ⟨j, hj⟩ := List.getElem?_of_mem h
    rw [List.getElem?_zipIdx, Option.map_eq_some_iff] at hj
    obtain ⟨z, hz, he⟩ := hj
    simp only [Prod.mk.injEq, Nat.zero_add] at he
    obtain ⟨rfl, rfl⟩ := he
    exact hz
  · intro h
    have : l.zipIdx[i]? = some (x, i) := by rw [List.getElem?_zipIdx, h]; simp
    exact List.mem_of_getElem? this

theorem dynChk_eq {P : Program} {C : CallF} {ops : Array Oper} {l : List (Nat × Oper)} {tr : List Tr1} {hEnd : Heap} (hlen : tr.length = l.length) : dynChk P C ops l tr hEnd = dynOk P C ops l tr hEnd := by
  unfold dynChk dynOk
  rw [foldr_all, Bool.eq_iff_iff]
  simp only [List.all_eq_true]
  have hz : ∀ (x : Nat × Oper) (t : Tr1) (i : Nat), ((x, t), i) ∈ (l.zip tr).zipIdx ↔ l[i]? = some x ∧ tr[i]? = some t := by
    intro x t i
    rw [mem_zipIdx_get, List.getElem?_zip_eq_some]
  constructor
  · rintro h ⟨⟨x, t⟩, i⟩ hx
    obtain ⟨hx1, hx2⟩ := (hz x t i).1 hx
    simp only [Bool.or_eq_true, Bool.not_eq_true', Bool.and_eq_false_iff, List.all_eq_true]
    by_cases hr : (kindOf P x.2 == .read) = true
    · by_cases hran : t.ran = true
      · right
        rintro ⟨y, j⟩ hy
        rw [List.mem_filter, mem_zipIdx_get] at hy
        simp only at hy ⊢
        by_cases hb : (befB (befM ops) x.1 y.1 || befB (befM ops) y.1 x.1) = true
        · left; simpa using hb
        · right
          have hp : (i, j) ∈ dynPairs P ops l := by
            unfold dynPairs
            simp only [List.mem_flatMap, List.mem_filter, List.mem_map]
            exact ⟨(x, i), ⟨mem_zipIdx_get.2 hx1, hr⟩, (y, j), ⟨mem_zipIdx_get.2 hy.1, by simp only [hy.2, Bool.true_and]; simpa using hb⟩, rfl⟩
          have := h _ hp
          unfold chkAt at this
          simp only [hx1, hx2] at this
          split at this
          · rename_i h1 h2 h3
            cases h1; cases h2
            rw [h3]
            simpa [chkR, hran] using this
          · rename_i h1 h2 h3
            cases h2
            rw [hran] at this; simp at this
          · simp at this
      · left; right; simpa using hran
    · left; left; simpa using hr
  · rintro h ⟨i, j⟩ hp
    unfold dynPairs at hp
    simp only [List.mem_flatMap, List.mem_filter, List.mem_map] at hp
    obtain ⟨⟨x, i'⟩, ⟨hx1, hr⟩, ⟨y, j'⟩, ⟨hy1, hy2⟩, he⟩ := hp
    simp only [Prod.mk.injEq] at he
    obtain ⟨rfl, rfl⟩ := he
    rw [mem_zipIdx_get] at hx1 hy1
    simp only [Bool.and_eq_true] at hr hy2
    have hi : i' < tr.length := by rw [hlen]; exact (List.getElem?_eq_some_iff.1 hx1).1
    have ht : tr[i']? = some tr[i'] := List.getElem?_eq_getElem hi
    have hq := h ((x, tr[i']), i') ((hz _ _ _).2 ⟨hx1, ht⟩)
    simp only [hr, Bool.true_and, Bool.or_eq_true, Bool.not_eq_true', List.all_eq_true] at hq
    unfold chkAt
    simp only [hx1, ht]
    have key : tr[i'].ran = true → (match heapAt (tr.map (·.ran)) (List.map (fun x => x.h) tr ++ [hEnd]) (madeIn P l (i', j')) (if j' < i' then j' else j' + 1) with | some h => same (opA P C x.2 (ev tr[i'].e) h) tr[i'].v | none => false) = true := by
      intro hran
      rcases hq with hq | hq
      · rw [hran] at hq; cases hq
      · have := hq (y, j') (List.mem_filter.2 ⟨mem_zipIdx_get.2 hy1, hy2.1⟩)
        simp only at this
        have hy3 := hy2.2
        rcases this with h1 | h1
        · have h1' : (befB (befM ops) x.1 y.1 || befB (befM ops) y.1 x.1) = true := by simpa using h1
          simp [h1'] at hy3
        · exact h1
    split
    · rename_i h1 h2 h3
      cases h1; cases h2
      unfold chkR
      cases hran : tr[i'].ran with
      | false => rfl
      | true => have := key hran; rw [h3] at this; simpa using this
    · rename_i h1 h2 h3
      cases h2
      cases hran : tr[i'].ran with
      | false => rfl
      | true => have := key hran; rw [h3] at this; simp at this
    · rename_i h1 h2
      cases hh : heapAt (tr.map (·.ran)) (List.map (fun x => x.h) tr ++ [hEnd]) (madeIn P l (i', j')) (if j' < i' then j' else j' + 1) with
      | some hp' => exact absurd hh (h1 _ _ _ rfl rfl)
      | none => exact absurd hh (h2 _ _ rfl rfl)

def traceK {α : Type} (P : Program) (C : CallF) (ops : Array Oper) : List (Nat × Oper) → Env → Heap → (List Tr1 → Env → Heap → Option α) → Option α
  | [], e, h, k => k [] e h
  | x :: rest, e, h, k =>
    match x.2.guard with
    | none => thenV (opA P C x.2 (ev e) h) fun v h' => traceK P C ops rest (putD e x.2.dst v) h' fun tr => k (⟨e, h, v, true⟩ :: tr)
    | some (j, want) => thenV (guardK (yieldA ops e j == some want) (opA P C x.2 (ev e) h) h) fun v h' => traceK P C ops rest (putD e x.2.dst v) h' fun tr => k (⟨e, h, v, yieldA ops e j == some want⟩ :: tr)

theorem traceK_eq {α : Type} (P : Program) (C : CallF) (ops : Array Oper) : ∀ (l : List (Nat × Oper)) (e : Env) (h : Heap) (k : List Tr1 → Env → Heap → Option α),
    traceK P C ops l e h k = match traceA P C ops l e h with | some (tr, e', h') => k tr e' h' | none => none
  | [], e, h, k => rfl
  | (i, o) :: rest, e, h, k => by
    unfold traceK traceA wantA thenV
    simp only
    cases hg : o.guard with
    | none =>
      simp only [if_true]
      cases opA P C o (ev e) h with
      | none => rfl
      | some r =>
        simp only
        rw [traceK_eq P C ops rest]
        cases traceA P C ops rest (putD e o.dst r.1) r.2 <;> rfl
    | some g =>
      obtain ⟨j, want⟩ := g
      simp only
      by_cases hy : (yieldA ops e j == some want) = true
      · simp only [hy, if_true, guardK]
        cases opA P C o (ev e) h with
        | none => rfl
        | some r =>
          simp only
          rw [traceK_eq P C ops rest]
          cases traceA P C ops rest (putD e o.dst r.1) r.2 <;> rfl
      · rw [if_neg hy]
        rw [Bool.not_eq_true] at hy
        simp only [hy, guardK]
        rw [traceK_eq P C ops rest]
        cases traceA P C ops rest (putD e o.dst undef) h <;> rfl

theorem traceA_length {P : Program} {C : CallF} {ops : Array Oper} : ∀ {l : List (Nat × Oper)} {e e' : Env} {h h' : Heap} {tr : List Tr1}, traceA P C ops l e h = some (tr, e', h') → tr.length = l.length
  | [], e, e', h, h', tr, ht => by simp only [traceA, Option.some.injEq, Prod.mk.injEq] at ht; rw [← ht.1]; rfl
  | (i, o) :: rest, e, e', h, h', tr, ht => by
    simp only [traceA] at ht
    split at ht
    · split at ht
      · split at ht
        · rename_i r h5
          obtain ⟨e2, h2⟩ := r
          simp only [Option.some.injEq, Prod.mk.injEq] at ht
          obtain ⟨rfl, _⟩ := ht
          simp [traceA_length h5]
        · cases ht
      · cases ht
    · split at ht
      · rename_i r h5
        obtain ⟨e2, h2⟩ := r
        simp only [Option.some.injEq, Prod.mk.injEq] at ht
        obtain ⟨rfl, _⟩ := ht
        simp [traceA_length h5]
      · cases ht

def regionK {α : Type} (P : Program) (C : CallF) (ops : Array Oper) (draw : Bool) (e : Env) (h : Heap) (k : Env → Heap → Option α) : Option α :=
  match draw with
  | false => opsK P C ops ops.toList e h k
  | true =>
    match lateOk P ops with
    | true => opsK P C ops ((late P ops).map (·.2)) e h k
    | false => match statOk P ops (late P ops) with
      | true => traceK P C ops (late P ops) e h fun tr e' h' => match dynChk P C ops (late P ops) tr h' with
        | true => k e' h'
        | false => none
      | false => none

theorem regionK_eq {α : Type} (P : Program) (C : CallF) (ops : Array Oper) (draw : Bool) (e : Env) (h : Heap) (k : Env → Heap → Option α) :
    regionK P C ops draw e h k = match regionA P C ops draw e h with | some (e', h') => k e' h' | none => none := by
  unfold regionK
  cases draw with
  | false => simp only [opsK_eq, regionA]; rfl
  | true =>
    simp only
    cases hl : lateOk P ops with
    | false =>
      simp only [traceK_eq, regionA, if_true]
      cases hs : statOk P ops (late P ops) with
      | false => rfl
      | true =>
        simp only [if_true]
        cases ht : traceA P C ops (late P ops) e h with
        | none => rfl
        | some r =>
          obtain ⟨tr, e', h'⟩ := r
          simp only
          rw [dynChk_eq (traceA_length ht)]
          cases dynOk P C ops (late P ops) tr h' <;> rfl
    | true =>
      simp only [lateOk, Bool.and_eq_true] at hl
      simp only [opsK_eq, regionA, if_true, hl.1, ← trace_ops]
      cases ht : traceA P C ops (late P ops) e h with
      | none => rfl
      | some r =>
        obtain ⟨tr, e', h'⟩ := r
        simp [dynTriv_ok hl.2]

/-- Code, and what comes behind it: on the way on, on a return, on an exit. -/
def codeK {α : Type} (P : Program) (C : CallF) : Code → Env → Heap → (Env → Heap → Option α) → (Env → Heap → Option α) → (Nat → Env → Heap → Option α) → Option α
  | .skip, e, h, n, _, _ => n e h
  | .region _ ops draw, e, h, n, _, _ => regionK P C ops draw e h n
  | .seq a b, e, h, n, r, x => codeK P C a e h (fun e' h' => codeK P C b e' h' n r x) r x
  | .cond c a b, e, h, n, r, x => match ev e c with
    | .bool true => codeK P C a e h n r x
    | .bool false => codeK P C b e h n r x
    | _ => none
  | .block id b, e, h, n, r, x => codeK P C b e h n r (fun i e' h' => if i = id then n e' h' else x i e' h')
  | .loop b, e, h, _, r, x => match iter (codeA P C b) rounds e h with
    | some (.ret, e', h') => r e' h'
    | some (.exit i, e', h') => x i e' h'
    | _ => none
  | .exit i, e, h, _, _, x => x i e h
  | .scope b, e, h, n, r, x => codeK P C b e h n r x
  | .label _, e, h, n, _, _ => n e h
  | .ret, e, h, _, r, _ => r e h
  | .goto _, _, _, _, _, _ => none
  | .rangeFunc .., _, _, _, _, _ => none
  | .refuse _, _, _, _, _, _ => none

theorem iter_not_normal {step : Env → Heap → Option (Ex × Env × Heap)} : ∀ (n : Nat) (e : Env) (h : Heap) {e' : Env} {h' : Heap}, iter step n e h ≠ some (.normal, e', h')
  | 0, _, _, _, _ => by simp [iter]
  | n + 1, e, h, e', h' => by
    unfold iter
    split
    · exact iter_not_normal n _ _
    · rename_i hne
      exact hne e' h'

def endK {α : Type} (n r : Env → Heap → Option α) (x : Nat → Env → Heap → Option α) : Option (Ex × Env × Heap) → Option α
  | some (.normal, e, h) => n e h
  | some (.ret, e, h) => r e h
  | some (.exit i, e, h) => x i e h
  | none => none

theorem codeK_eq {α : Type} (P : Program) (C : CallF) : ∀ (c : Code) (e : Env) (h : Heap) (n r : Env → Heap → Option α) (x : Nat → Env → Heap → Option α),
    codeK P C c e h n r x = endK n r x (codeA P C c e h)
  | .skip, e, h, n, r, x => rfl
  | .region id ops d, e, h, n, r, x => by
    simp only [codeK, codeA, regionK_eq]
    cases regionA P C ops d e h <;> rfl
  | .seq a b, e, h, n, r, x => by
    simp only [codeK, codeA]
    rw [codeK_eq P C a]
    cases ha : codeA P C a e h with
    | none => rfl
    | some y =>
      obtain ⟨ex, e', h'⟩ := y
      cases ex with
      | normal => simp only [endK]; exact codeK_eq P C b _ _ _ _ _
      | ret => rfl
      | exit i => rfl
  | .cond c a b, e, h, n, r, x => by
    simp only [codeK, codeA]
    generalize ev e c = v
    cases v with
    | bool t =>
      cases t with
      | true => exact codeK_eq P C a _ _ _ _ _
      | false => exact codeK_eq P C b _ _ _ _ _
    | _ => rfl
  | .block id b, e, h, n, r, x => by
    simp only [codeK, codeA]
    rw [codeK_eq P C b]
    cases hb : codeA P C b e h with
    | none => rfl
    | some y =>
      obtain ⟨ex, e', h'⟩ := y
      cases ex with
      | normal => rfl
      | ret => rfl
      | exit i =>
        simp only [endK]
        by_cases hi : i = id
        · simp [hi]
        · simp [hi]
  | .loop b, e, h, n, r, x => by
    simp only [codeK, codeA]
    cases hb : iter (codeA P C b) rounds e h with
    | none => rfl
    | some y =>
      obtain ⟨ex, e', h'⟩ := y
      cases ex with
      | normal => exact absurd hb (iter_not_normal _ _ _)
      | ret => rfl
      | exit i => rfl
  | .exit i, e, h, n, r, x => rfl
  | .scope b, e, h, n, r, x => by simp only [codeK, codeA]; exact codeK_eq P C b _ _ _ _ _
  | .label _, e, h, n, r, x => rfl
  | .ret, e, h, n, r, x => rfl
  | .goto _, e, h, n, r, x => rfl
  | .rangeFunc .., e, h, n, r, x => rfl
  | .refuse _, e, h, n, r, x => rfl

def bodyK (P : Program) (C : CallF) (fn : Func) (args : List Value) (h : Heap) : Out :=
  match fn.body with
  | none => none
  | some c => codeK P C c (args ++ List.replicate (fn.ntmps - args.length) undef) h (resultsA P fn.results.toList) (resultsA P fn.results.toList) (fun _ _ _ => none)

theorem bodyK_eq (P : Program) (C : CallF) (fn : Func) (args : List Value) (h : Heap) : bodyK P C fn args h = bodyA P C fn args h := by
  unfold bodyK bodyA
  cases fn.body with
  | none => rfl
  | some c =>
    simp only [codeK_eq]
    cases codeA P C c (args ++ List.replicate (fn.ntmps - args.length) undef) h with
    | none => rfl
    | some y =>
      obtain ⟨ex, e', h'⟩ := y
      cases ex <;> rfl

/-- One round of a loop, in passing style. -/
def roundK (P : Program) (C : CallF) (b : Code) (e : Env) (h : Heap) : Option (Ex × Env × Heap) :=
  codeK P C b e h (fun e h => some (.normal, e, h)) (fun e h => some (.ret, e, h)) (fun i e h => some (.exit i, e, h))
theorem roundK_eq (P : Program) (C : CallF) (b : Code) (e : Env) (h : Heap) : roundK P C b e h = codeA P C b e h := by
  unfold roundK
  rw [codeK_eq]
  cases codeA P C b e h with
  | none => rfl
  | some y =>
    obtain ⟨ex, e', h'⟩ := y
    cases ex <;> rfl

end Go.Abs

namespace Go.Abs

theorem body_sound {P : Program} {C : CallF} (hC : CSound P C) (hm : P.follows .mixedOrders = true) {f : FuncId} {fn : Func} {c : Code} (hf : P.funcs[f]? = some fn) (hb : fn.body = some c) (hok : codeOk P c = true)
    {args : List Value} {h h' : Heap} {v : Value} (he : bodyA P C fn args h = some (v, h')) (hg : P.globals.size ≤ h.n0) (hba : bdL h.next args = true) (hbh : HeapBd h)
    {μ : Mu} {w : World} {args' : List Value} (S : Sim μ h w) (hfr : Free μ h h') (r : LRel μ args args') :
    Calls P f args'.toArray w fun e w' => ∃ μ' v', e = .returned v' ∧ Sim μ' h' w' ∧ Step μ h w μ' h' w' ∧ VRel μ' v v' := by
  unfold bodyA at he
  rw [hb] at he
  simp only at he
  refine calls_of_wp hf hb ?_
  have hbe : bdL h.next (args ++ List.replicate (fn.ntmps - args.length) undef) = true :=
    bdL_append hba (bdL_iff.2 fun x hx => by rw [List.eq_of_mem_replicate hx]; rfl)
  have her : ERel μ (args ++ List.replicate (fn.ntmps - args.length) undef) { tmps := args'.toArray ++ Array.replicate (fn.ntmps - args'.toArray.size) undef, defers := [] } := by
    refine ⟨?_, rfl⟩
    have h1 : args.length = args'.length := r.1
    simp only [Array.toList_append, Array.toList_replicate, List.size_toArray]
    rw [h1]
    exact r.append (LRel.replicate μ _ (VRel.undef μ))
  cases hc : codeA P C c (args ++ List.replicate (fn.ntmps - args.length) undef) h with
  | none => rw [hc] at he; cases he
  | some y =>
    obtain ⟨ex, e1, h1⟩ := y
    rw [hc] at he
    have hgrow : resultsA P fn.results.toList e1 h1 = some (v, h') := by
      cases ex with
      | normal => exact he
      | ret => exact he
      | exit i => cases he
    obtain rfl := resultsA_grow hgrow
    refine codeA_sound hC hm c hok _ _ _ _ _ _ _ _ _ hc hg hbe hbh S hfr her ?_
    rintro a' w' ⟨μ', hS, hSt, hr⟩
    obtain ⟨v', h3, h4⟩ := resultsA_sound hS hr hgrow
    cases ex with
    | normal => exact ⟨hr.2, v', h3, μ', v', rfl, hS, hSt, h4⟩
    | ret => exact ⟨hr.2, v', h3, μ', v', rfl, hS, hSt, h4⟩
    | exit i => cases he

/-! Values with other block numbers. -/
mutual
def renV (r : Nat → Nat) : Value → Value
  | .pointer (some a) => .pointer (some ⟨r a.block, a.off, a.spot⟩)
  | .slice (some a) l c => .slice (some ⟨r a.block, a.off, a.spot⟩) l c
  | .agg ⟨l⟩ => .agg ⟨renL r l⟩
  | .tuple ⟨l⟩ => .tuple ⟨renL r l⟩
  | .func f ⟨a⟩ ⟨b⟩ => .func f ⟨renL r a⟩ ⟨renL r b⟩
  | .iface t v => .iface t (renV r v)
  | v => v
def renL (r : Nat → Nat) : List Value → List Value
  | [] => []
  | x :: l => renV r x :: renL r l
end

theorem renL_map (r : Nat → Nat) : ∀ l, renL r l = l.map (renV r)
  | [] => rfl
  | x :: l => by simp [renL, renL_map r l]

theorem flat_ren (r : Nat → Nat) (v : Value) (h : flat (renV r v) = true) : flat v = true ∧ renV r v = v := by
  cases v with
  | pointer p => cases p with
    | none => exact ⟨rfl, rfl⟩
    | some a => simp [renV, flat] at h
  | slice p l c => cases p with
    | none => exact ⟨rfl, rfl⟩
    | some a => simp [renV, flat] at h
  | agg a => obtain ⟨l⟩ := a; simp [renV, flat] at h
  | tuple a => obtain ⟨l⟩ := a; simp [renV, flat] at h
  | func f a b =>
    obtain ⟨a⟩ := a
    obtain ⟨b⟩ := b
    cases f with
    | func i =>
      simp only [renV, flat, Bool.and_eq_true, List.isEmpty_toArray, List.isEmpty_iff, renL_map, List.map_eq_nil_iff] at h
      obtain ⟨rfl, rfl⟩ := h
      exact ⟨rfl, rfl⟩
    | _ => simp [renV, flat] at h
  | iface t v => simp [renV, flat] at h
  | _ => exact ⟨h, rfl⟩

theorem LRel.of_ren {μ : Mu} {r : Nat → Nat} {l l' : List Value} (h : LRel μ (renL r l) l') (ih : ∀ x ∈ l, ∀ y, VRel μ (renV r x) y → VRel (fun b => μ (r b)) x y) : LRel (fun b => μ (r b)) l l' := by
  rw [renL_map] at h
  refine ⟨by have := h.1; simpa using this, fun i x y hx hy => ?_⟩
  exact ih x (List.mem_of_getElem? hx) y (h.2 i (renV r x) y (by simp [hx]) hy)

mutual
theorem VRel.of_ren {μ : Mu} {r : Nat → Nat} : ∀ (v : Value) {v' : Value}, VRel μ (renV r v) v' → VRel (fun b => μ (r b)) v v'
  | .pointer none, v', h => by have := h.flat_eq rfl; subst this; exact .flat rfl
  | .pointer (some ⟨b, o, s⟩), v', h => by
    simp only [renV] at h
    cases h with
    | flat h => simp [flat] at h
    | ptr h => exact .ptr h
  | .slice none l c, v', h => by have := h.flat_eq rfl; subst this; exact .flat rfl
  | .slice (some ⟨b, o, s⟩) l c, v', h => by
    simp only [renV] at h
    cases h with
    | flat h => simp [flat] at h
    | slice h => exact .slice h
    | hid h a b c d e => exact .hid h a b c d e
    | hemp h => exact .hemp h
    | zer => exact .zer
  | .agg ⟨l⟩, v', h => by
    simp only [renV] at h
    obtain ⟨ys, rfl, hl⟩ := h.agg_iff
    exact .of_list_agg (LRel.of_ren' l hl)
  | .tuple ⟨l⟩, v', h => by
    simp only [renV] at h
    obtain ⟨ys, rfl, hl⟩ := h.tuple_iff
    exact .of_list_tuple (LRel.of_ren' l hl)
  | .func f ⟨a⟩ ⟨b⟩, v', h => by
    by_cases hf : flat (renV r (.func f ⟨a⟩ ⟨b⟩)) = true
    · obtain ⟨h1, h2⟩ := flat_ren r _ hf
      have h3 := h.flat_eq hf
      rw [h2] at h3
      subst h3
      exact .flat h1
    · simp only [renV] at h hf
      cases h with
      | flat h => exact absurd h hf
      | @func _ _ ys _ zs h1 h2 h3 h4 =>
        have q1 : LRel μ (renL r a) ys.toList := ⟨by simpa using h1, fun i x y hx hy => h2 i x y (by simpa using hx) (by simpa using hy)⟩
        have q2 : LRel μ (renL r b) zs.toList := ⟨by simpa using h3, fun i x y hx hy => h4 i x y (by simpa using hx) (by simpa using hy)⟩
        have p1 := LRel.of_ren' a q1
        have p2 := LRel.of_ren' b q2
        exact .func (by simpa using p1.1) (fun i x y hx hy => p1.2 i x y (by simpa using hx) (by simpa using hy)) (by simpa using p2.1) (fun i x y hx hy => p2.2 i x y (by simpa using hx) (by simpa using hy))
  | .iface t v, v', h => by
    simp only [renV] at h
    cases h with
    | flat h => simp [flat] at h
    | iface h => exact .iface (VRel.of_ren v h)
  | .bool _, v', h => by have := h.flat_eq rfl; subst this; exact .flat rfl
  | .int _ _, v', h => by have := h.flat_eq rfl; subst this; exact .flat rfl
  | .float _ _, v', h => by have := h.flat_eq rfl; subst this; exact .flat rfl
  | .complex _ _ _, v', h => by have := h.flat_eq rfl; subst this; exact .flat rfl
  | .string _, v', h => by have := h.flat_eq rfl; subst this; exact .flat rfl
  | .map none, v', h => by have := h.flat_eq rfl; subst this; exact .flat rfl
  | .map (some _), v', h => by
    simp only [renV] at h
    cases h with
    | flat h => simp [flat] at h
  | .chan none, v', h => by have := h.flat_eq rfl; subst this; exact .flat rfl
  | .chan (some _), v', h => by
    simp only [renV] at h
    cases h with
    | flat h => simp [flat] at h
  | .nilFunc, v', h => by have := h.flat_eq rfl; subst this; exact .flat rfl
  | .nilIface, v', h => by have := h.flat_eq rfl; subst this; exact .flat rfl
theorem LRel.of_ren' {μ : Mu} {r : Nat → Nat} : ∀ (l : List Value) {l' : List Value}, LRel μ (renL r l) l' → LRel (fun b => μ (r b)) l l'
  | [], l', h => by
    have := h.1
    simp only [renL, List.length_nil] at this
    obtain rfl := List.eq_nil_of_length_eq_zero this.symm
    exact LRel.nil _
  | x :: l, l', h => by
    simp only [renL] at h
    match l', h with
    | [], h => have := h.1; simp at this
    | y :: l', h => exact .cons (VRel.of_ren x h.head) (LRel.of_ren' l h.tail)
end

end Go.Abs

namespace Go.Abs

mutual
theorem renV_id {r : Nat → Nat} {n : Nat} (hr : ∀ b, b < n → r b = b) : ∀ (v : Value), bdV n v = true → renV r v = v
  | .pointer none, _ => rfl
  | .pointer (some ⟨b, o, s⟩), h => by simp only [bdV, decide_eq_true_eq] at h; simp only [renV, hr b h]
  | .slice none l c, _ => rfl
  | .slice (some ⟨b, o, s⟩) l c, h => by simp only [bdV, decide_eq_true_eq] at h; simp only [renV, hr b h]
  | .agg ⟨l⟩, h => by simp only [renV]; rw [renL_id hr l h]
  | .tuple ⟨l⟩, h => by simp only [renV]; rw [renL_id hr l h]
  | .func f ⟨a⟩ ⟨b⟩, h => by simp only [bdV, Bool.and_eq_true] at h; simp only [renV]; rw [renL_id hr a h.1, renL_id hr b h.2]
  | .iface t v, h => by simp only [bdV] at h; simp only [renV]; rw [renV_id hr v h]
  | .bool _, _ => rfl
  | .int _ _, _ => rfl
  | .float _ _, _ => rfl
  | .complex _ _ _, _ => rfl
  | .string _, _ => rfl
  | .map _, _ => rfl
  | .chan _, _ => rfl
  | .nilFunc, _ => rfl
  | .nilIface, _ => rfl
theorem renL_id {r : Nat → Nat} {n : Nat} (hr : ∀ b, b < n → r b = b) : ∀ (l : List Value), bdL n l = true → renL r l = l
  | [], _ => rfl
  | x :: l, h => by
    simp only [bdL, Bool.and_eq_true] at h
    simp only [renL]
    rw [renV_id hr x h.1, renL_id hr l h.2]
end

/-- What a run left is what is told, but for blocks that nobody knows, and for the new blocks' numbers. -/
structure Gc (h : Heap) (v : Value) (h' : Heap) (v1 : Value) (h1 : Heap) (r : Nat → Nat) : Prop where
  low : ∀ b, b < h.next → r b = b
  new : ∀ b, h.next ≤ b → b < h'.next → h.next ≤ r b
  inj : ∀ b b', h.next ≤ b → b < h'.next → h.next ≤ b' → b' < h'.next → r b = r b' → b = b'
  val : v1 = renV r v
  get : ∀ b k, h'.n0 ≤ b → h'.get b = some k → h1.get (r b) = some (renL r k)

theorem gc_sound {μ μ1 : Mu} {h h' h1 : Heap} {w w' : World} {v v1 v' : Value} {r : Nat → Nat} (G : Gc h v h' v1 h1 r) (gr : Grow h h') (gr1 : Grow h h1) (hbh : HeapBd h) (hbh' : HeapBd h') (hbv : bdV h'.next v = true)
    (S1 : Sim μ1 h1 w') (St : Step (μ.cut h.next) h w μ1 h1 w') (hv : VRel μ1 v1 v') :
    ∃ μ', Sim μ' h' w' ∧ Step μ h w μ' h' w' ∧ VRel μ' v v' := by
  have hle := h.n0_le_next
  let μ' : Mu := fun b => if b < h.next then μ b else if b < h'.next then μ1 (r b) else μ b
  have e1 : ∀ b, b < h.next → μ1 b = μ b := fun b hb => by rw [St.ext b (.inl hb)]; simp [Mu.cut, hb]
  have e2 : ∀ b, b < h'.next → μ' b = μ1 (r b) := by
    intro b hb
    by_cases hb1 : b < h.next
    · rw [G.low b hb1, e1 b hb1]; simp [μ', hb1]
    · simp [μ', hb1, hb]
  have up : ∀ b L, Mu.cut (fun b => μ1 (r b)) h'.next b = some L → μ' b = some L := by
    intro b L hb
    obtain ⟨h2, h3⟩ := Mu.cut_le hb
    rw [e2 b h3]; exact h2
  have relL : ∀ {k l : List Value}, bdL h'.next k = true → LRel μ1 (renL r k) l → LRel μ' k l := fun hb hl => ((LRel.of_ren' _ hl).cut hb).mono up
  have relV : ∀ {k l : Value}, bdV h'.next k = true → VRel μ1 (renV r k) l → VRel μ' k l := fun hb hl => ((VRel.of_ren _ hl).cut hb).mono up
  have n1 : h1.n0 = h'.n0 := gr1.2.1.trans gr.2.1.symm
  have n2 : h'.n0 = h.n0 := gr.2.1
  have rge : ∀ b, h'.n0 ≤ b → b < h'.next → h'.n0 ≤ r b := by
    intro b hb hbn
    by_cases hb1 : b < h.next
    · rw [G.low b hb1]; exact hb
    · have := G.new b (by omega) hbn; omega
  have rinj : ∀ b b', b < h'.next → b' < h'.next → r b = r b' → b = b' := by
    intro b b' hb hb' he
    by_cases c1 : b < h.next
    · by_cases c2 : b' < h.next
      · rw [G.low b c1, G.low b' c2] at he; exact he
      · have := G.new b' (by omega) hb'; rw [G.low b c1] at he; omega
    · by_cases c2 : b' < h.next
      · have := G.new b (by omega) hb; rw [G.low b' c2] at he; omega
      · exact G.inj b b' (by omega) hb (by omega) hb' he
  refine ⟨μ', ⟨?_, ?_, ?_, ?_, ?_⟩, ?_, ?_⟩
  · intro b cs hb hc
    have hbl : b < h.next := by omega
    obtain ⟨L, arr, T, fr, h2, h3, h4, h5, h6⟩ := S1.old b cs (n1 ▸ hb) (by rw [gr1.2.2, ← gr.2.2]; exact hc)
    have hbd : bdL h.next cs = true := by
      refine hbh b cs ?_
      unfold Heap.get
      rw [if_pos (n2 ▸ hb), ← gr.2.2]; exact hc
    refine ⟨L, arr, T, fr, ?_, h3, h4, h5, ?_⟩
    · rw [e2 b (by have := gr.1; omega), G.low b hbl]; exact h2
    · exact ⟨h6.1, fun i x y hx hy hh => relV (bdL_get (bdL_mono gr.1 hbd) hx) (by rw [renV_id G.low x (bdL_get hbd hx)]; exact h6.2 i x y hx hy hh)⟩
  · intro b k hb hg
    have hbn := h'.lt_of_get hg
    obtain ⟨L, arr, T, fr, h2, h3, h4, h5, h6, h7, h8, h9⟩ := S1.new (r b) _ (n1 ▸ rge b hb hbn) (G.get b k hb hg)
    refine ⟨L, arr, T, fr, by rw [e2 b hbn]; exact h2, by rw [h3, renL_map]; simp, h4, h5, h6, h7, n1 ▸ h8, relL (hbh' b k hg) h9⟩
  · intro b b' k k' L L' hb hb' hne hg hg' hL hL'
    have hbn := h'.lt_of_get hg
    have hbn' := h'.lt_of_get hg'
    rw [e2 b hbn] at hL
    rw [e2 b' hbn'] at hL'
    exact S1.inj (r b) (r b') _ _ L L' (n1 ▸ rge b hb hbn) (n1 ▸ rge b' hb' hbn') (fun he => hne (rinj b b' hbn hbn' he)) (G.get b k hb hg) (G.get b' k' hb' hg') hL hL'
  · rw [← n1]; exact S1.size
  · intro b hb
    obtain ⟨L, h2, h3⟩ := S1.low b (n1 ▸ hb)
    exact ⟨L, by rw [e2 b (by have := gr.1; omega), G.low b (by omega)]; exact h2, h3⟩
  · have ownup : ∀ B, Own (μ.cut h.next) h B → Own μ h B := by
      rintro B ⟨b, k, L, h2, h3, h4, h5⟩
      exact ⟨b, k, L, h2, h3, (Mu.cut_le h4).1, h5⟩
    have owndn : ∀ B, Own μ h B → Own (μ.cut h.next) h B := by
      rintro B ⟨b, k, L, h2, h3, h4, h5⟩
      exact ⟨b, k, L, h2, h3, Mu.cut_some h4 (h.lt_of_get h3), h5⟩
    refine ⟨?_, gr.2.1, gr.2.2, gr.1, St.os, St.tape, St.output, St.size, fun B hB hO => St.same B hB (fun h2 => hO (ownup B h2)), ?_⟩
    · intro b hb
      simp only [μ']
      rcases hb with hb | hb
      · rw [if_pos hb]
      · rw [if_neg (by have := gr.1; omega), if_neg (by omega)]
    · rintro B ⟨b, k, L, h2, h3, h4, h5⟩
      have hbn := h'.lt_of_get h3
      rw [e2 b hbn] at h4
      exact (St.own B ⟨r b, _, L, n1 ▸ rge b h2 hbn, G.get b k h2 h3, h4, h5⟩).imp (ownup B) id
  · exact relV hbv (G.val ▸ hv)

/-- A function does what is told of it. -/
structure Contract (P : Program) (f : FuncId) (s : List Value → Heap → Out) : Prop where
  fn : ∃ fn, P.funcs[f]? = some fn ∧ (fn.name == "runtime.NumGoroutine") = false ∧ fn.body.isNone = false
  grow : ∀ args h v h', s args h = some (v, h') → Grow h h'
  bd : ∀ args h v h', s args h = some (v, h') → bdL h.next args = true → HeapBd h → bdV h'.next v = true ∧ HeapBd h'
  run : ∀ args h v h', s args h = some (v, h') → bdL h.next args = true → HeapBd h → P.globals.size ≤ h.n0 → ∀ μ w args', Sim μ h w → Free μ h h' → LRel μ args args' →
    Calls P f args'.toArray w fun e w' => ∃ μ' v', e = .returned v' ∧ Sim μ' h' w' ∧ Step μ h w μ' h' w' ∧ VRel μ' v v'

theorem Contract.of_body {P : Program} {C : CallF} (hC : CSound P C) (hm : P.follows .mixedOrders = true) {f : FuncId} {fn : Func} {c : Code} {s : List Value → Heap → Out}
    (hf : P.funcs[f]? = some fn) (hn : (fn.name == "runtime.NumGoroutine") = false) (hb : fn.body = some c) (hok : codeOk P c = true)
    (grow : ∀ args h v h', s args h = some (v, h') → Grow h h')
    (bd : ∀ args h v h', s args h = some (v, h') → bdL h.next args = true → HeapBd h → bdV h'.next v = true ∧ HeapBd h')
    (body : ∀ args h v h', s args h = some (v, h') → bdL h.next args = true → HeapBd h → P.globals.size ≤ h.n0 → ∃ v1 h1 r, bodyK P C fn args h = some (v1, h1) ∧ Gc h v h' v1 h1 r) : Contract P f s where
  fn := ⟨fn, hf, hn, by rw [hb]; rfl⟩
  grow := grow
  bd := bd
  run := by
    intro args h v h' hs hba hbh hg μ w args' S hfr r
    obtain ⟨v1, h1, rr, he, G⟩ := body args h v h' hs hba hbh hg
    rw [bodyK_eq] at he
    have gr1 : Grow h h1 := by
      unfold bodyA at he
      rw [hb] at he
      simp only at he
      cases hc : codeA P C c (args ++ List.replicate (fn.ntmps - args.length) undef) h with
      | none => rw [hc] at he; cases he
      | some y =>
        obtain ⟨ex, e1, h2⟩ := y
        rw [hc] at he
        have hgrow : resultsA P fn.results.toList e1 h2 = some (v1, h1) := by
          cases ex with
          | normal => exact he
          | ret => exact he
          | exit i => cases he
        rw [resultsA_grow hgrow]
        exact codeA_grow hC c hc
    have hcut : Free (μ.cut h.next) h h1 := fun b hb _ => by simp [Mu.cut, Nat.not_lt.2 hb]
    refine (body_sound hC hm hf hb hok he hg hba hbh (S.cut hbh) hcut (r.cut hba)).mono ?_
    rintro e w' ⟨μ1, v', rfl, S1, St, hv⟩
    obtain ⟨hb1, hb2⟩ := bd args h v h' hs hba hbh
    obtain ⟨μ', h2, h3, h4⟩ := gc_sound G (grow args h v h' hs) gr1 hbh hb2 hb1 S1 St hv
    exact ⟨μ', v', rfl, h2, h3, h4⟩

/-- Calls by a list of what is told of functions. -/
def callL : List (FuncId × (List Value → Heap → Out)) → CallF
  | [], _, _, _ => none
  | (g, s) :: t, f, args, h => if f = g then s args h else callL t f args h

theorem callL_sound {P : Program} : ∀ (l : List (FuncId × (List Value → Heap → Out))), (∀ p ∈ l, Contract P p.1 p.2) → CSound P (callL l)
  | [], _ => ⟨by simp [callL], by simp [callL], by simp [callL], by simp [callL]⟩
  | (g, s) :: t, hl => by
    have ih := callL_sound t (fun p hp => hl p (List.mem_cons_of_mem _ hp))
    have hg := hl (g, s) List.mem_cons_self
    refine ⟨?_, ?_, ?_, ?_⟩
    · intro f args h v h' he
      simp only [callL] at he
      split at he
      · rename_i e; subst e; exact hg.fn
      · exact ih.fn f args h v h' he
    · intro f args h v h' he
      simp only [callL] at he
      split at he
      · exact hg.grow args h v h' he
      · exact ih.grow f args h v h' he
    · intro f args h v h' he
      simp only [callL] at he
      split at he
      · exact hg.bd args h v h' he
      · exact ih.bd f args h v h' he
    · intro f args h v h' he
      simp only [callL] at he
      split at he
      · rename_i e; subst e; exact hg.run args h v h' he
      · exact ih.run f args h v h' he

/-- Nothing has been left, and nothing was written. -/
theorem Gc.none {h h1 : Heap} {v : Value} (hb : bdV h.next v = true) (hbh : HeapBd h) (hk : ∀ b k, h.n0 ≤ b → h.get b = some k → h1.get b = some k) : Gc h v h v h1 id where
  low _ _ := rfl
  new _ h1 h2 := by omega
  inj _ _ h1 h2 := by omega
  val := (renV_id (n := h.next) (fun _ _ => rfl) v hb).symm
  get b k h1 h2 := by rw [renL_id (r := id) (n := h.next) (fun _ _ => rfl) k (hbh b k h2)]; exact hk b k h1 h2

/-- The told heap is a part of the run's. -/
theorem Gc.sub {h h' h1 : Heap} {v : Value} (hb : bdV h'.next v = true) (hbh : HeapBd h') (hk : ∀ b k, h'.n0 ≤ b → h'.get b = some k → h1.get b = some k) : Gc h v h' v h1 id where
  low _ _ := rfl
  new _ h1 _ := h1
  inj _ _ _ _ _ _ h := h
  val := (renV_id (n := h'.next) (fun _ _ => rfl) v hb).symm
  get b k h1 h2 := by rw [renL_id (r := id) (n := h'.next) (fun _ _ => rfl) k (hbh b k h2)]; exact hk b k h1 h2

/-- One new block is left, under another number. -/
def ren1 (n B : Nat) : Nat → Nat := fun b => if b = n then B else b
theorem Gc.one {h hm h1 : Heap} {v v1 : Value} {k : Blk} {B : Nat} (hn : hm.next = h.next) (h0 : hm.n0 = h.n0) (hB : h.next ≤ B) (hbm : HeapBd hm) (hv : v1 = renV (ren1 h.next B) v) (hk : h1.get B = some (renL (ren1 h.next B) k))
    (hs : ∀ b k, h.n0 ≤ b → hm.get b = some k → h1.get b = some k) : Gc h v (hm.alloc k) v1 h1 (ren1 h.next B) where
  low b hb := by unfold ren1; rw [if_neg (by omega)]
  new b h2 h3 := by
    rw [Heap.next_alloc, hn] at h3
    unfold ren1
    rw [if_pos (by omega)]; exact hB
  inj b b' h2 h3 h4 h5 _ := by rw [Heap.next_alloc, hn] at h3 h5; omega
  val := hv
  get b k' h2 h3 := by
    rw [Heap.get_alloc, hn] at h3
    by_cases e : b = h.next
    · rw [if_pos e] at h3
      cases h3
      have : ren1 h.next B b = B := by unfold ren1; rw [if_pos e]
      rw [this]; exact hk
    · rw [if_neg e] at h3
      have hb := hm.lt_of_get h3
      have : ren1 h.next B b = b := by unfold ren1; rw [if_neg e]
      rw [this, renL_id (n := hm.next) (fun c hc => by unfold ren1; rw [if_neg (by omega)]) k' (hbm b k' h3)]
      exact hs b k' (by rw [Heap.n0_alloc, h0] at h2; exact h2) h3

end Go.Abs

namespace Go.Abs

def pu (v : Option Value) (h : Heap) : Out := v.map fun v => (v, h)
/-- The part of code at a path: 0 the first part, 1 the second. -/
def codeAt : List Nat → Code → Code
  | [], c => c
  | 0 :: p, .seq a _ => codeAt p a
  | _ :: p, .seq _ b => codeAt p b
  | 0 :: p, .cond _ a _ => codeAt p a
  | _ :: p, .cond _ _ b => codeAt p b
  | _ :: p, .block _ b => codeAt p b
  | _ :: p, .loop b => codeAt p b
  | _ :: p, .scope b => codeAt p b
  | _ :: _, c => c
def partOf (fn : Func) (p : List Nat) : Code :=
  match fn.body with
  | some c => codeAt p c
  | none => .skip
def bOf : Value → Option Bool
  | .bool b => some b
  | _ => none
def newC (cells : List Value) (h : Heap) : Out := some (newRow cells h)
def bldR (z : List Value) (ps : List (Nat × Nat × Value)) : Option Value := (fillL z ps).map fun cs => .agg cs.toArray
def bslR (n : Nat) (z : Value) (len : Nat) (parts : List (Nat × Value)) (h : Heap) : Out :=
  if flatAll z.cells.toList && z.cells.size = n && 0 < n && len * n ≤ 16777216 && oneCells (parts.flatMap fun x => x.2.cells.toList) then
    match fillL (zeros z.cells.toList len) (parts.map fun x => (x.1 * n, n, x.2)) with
    | some cs => some (.slice (some ⟨h.next, 0, none⟩) len len, h.alloc cs)
    | none => none
  else none
def cvI (k : IntKind) (x : Value) (h : Heap) : Out :=
  match x with
  | .int _ n => some (.int k (k.wrap n), h)
  | _ => none
def bsR (n c : Nat) (a : Option Addr) (h : Heap) : Out :=
  match firstA 1 n (.slice a n c) h with
  | some l => match l.mapM asByte with
    | some bs => some (.string ⟨bs.toArray⟩, h)
    | none => none
  | none => none
def cvBS (x : Value) (h : Heap) : Out :=
  match x with
  | .slice a n c => bsR n c a h
  | .string s => some (.string s, h)
  | _ => none
def mkR (n by_ : Nat) (z : Value) (len cap : Value) (h : Heap) : Out :=
  match len, cap with
  | .int .i64 l, .int .i64 c =>
    if 0 ≤ l && l ≤ c && c ≤ 9223372036854775807 && by_ * c ≤ 281474976710656 && flatAll z.cells.toList && z.cells.size = n && 0 < n then
      some (.slice (some ⟨h.next, 0, none⟩) l.toNat c.toNat, h.alloc (zeros z.cells.toList c.toNat))
    else none
  | _, _ => none
def slR (size : Nat) (x : Value) (lo hi mx : Option Value) : Option Value :=
  match x with
  | .string _ => none
  | x => sliceSl size x lo hi mx
def lenS (x : Value) : Option Value :=
  match x with
  | .string s => some (.int .i64 s.size)
  | _ => none
def lenL (x : Value) : Option Value :=
  match x with
  | .slice _ n _ => some (.int .i64 n)
  | _ => none
/-- What comes behind a loop. -/
def endL {α : Type} (y : Option (Ex × Env × Heap)) (r : Env → Heap → Option α) (x : Nat → Env → Heap → Option α) : Option α :=
  match y with
  | some (.ret, e', h') => r e' h'
  | some (.exit i, e', h') => x i e' h'
  | _ => none

end Go.Abs

namespace Go.Abs

abbrev AL := List (Nat × Value)
noncomputable def lkB (e0 : Env) (l : AL) (t : Nat) : Value :=
  List.rec (motive := fun _ => Value) (e0.getD t undef) (fun p _ ih => Bool.rec (motive := fun _ => Value) ih p.2 (Nat.beq p.1 t)) l
def putB (n : Nat) (l : AL) (d : Option Tmp) (v : Value) : AL :=
  match d with
  | some t => match Nat.blt t n with
    | true => (t, v) :: l
    | false => l
  | none => l
noncomputable def expB (n : Nat) (e0 : Env) (l : AL) : Env := (List.range n).map (lkB e0 l)

theorem lkB_nil (e0 : Env) (t : Nat) : lkB e0 [] t = e0.getD t undef := rfl
theorem lkB_cons (e0 : Env) (p : Nat × Value) (l : AL) (t : Nat) : lkB e0 (p :: l) t = if p.1 = t then p.2 else lkB e0 l t := by
  show Bool.rec (motive := fun _ => Value) (lkB e0 l t) p.2 (Nat.beq p.1 t) = _
  cases hb : Nat.beq p.1 t with
  | true => rw [if_pos (Nat.eq_of_beq_eq_true hb)]
  | false => rw [if_neg (Nat.ne_of_beq_eq_false hb)]

theorem getElem?_expB (n : Nat) (e0 : Env) (l : AL) (t : Nat) : (expB n e0 l)[t]? = if t < n then some (lkB e0 l t) else none := by
  unfold expB
  rw [List.getElem?_map]
  by_cases h : t < n
  · rw [if_pos h, List.getElem?_range h]; rfl
  · rw [if_neg h, List.getElem?_eq_none (by simpa using h)]; rfl

theorem expB_nil (e0 : Env) : expB e0.length e0 [] = e0 := by
  apply List.ext_getElem?
  intro i
  rw [getElem?_expB]
  by_cases h : i < e0.length
  · rw [if_pos h, lkB_nil, List.getD_eq_getElem?_getD, List.getElem?_eq_getElem h]; rfl
  · rw [if_neg h, List.getElem?_eq_none (by omega)]

theorem expB_put (n : Nat) (e0 : Env) (l : AL) (d : Option Tmp) (v : Value) : expB n e0 (putB n l d v) = putD (expB n e0 l) d v := by
  cases d with
  | none => rfl
  | some t =>
    apply List.ext_getElem?
    intro i
    unfold putD putB
    simp only
    rw [List.getElem?_set, getElem?_expB]
    have hlen : (expB n e0 l).length = n := by simp [expB]
    rw [hlen]
    cases hb : Nat.blt t n with
    | true =>
      have ht : t < n := by simpa using hb
      simp only [getElem?_expB, lkB_cons, ht, if_true]
      by_cases e : t = i
      · subst e; simp [ht]
      · simp [e]
    | false =>
      have ht : ¬ t < n := by
        intro h
        rw [show Nat.blt t n = true by simpa using h] at hb; cases hb
      simp only [getElem?_expB, ht, if_false]
      by_cases e : t = i
      · subst e; simp [ht]
      · simp [e]

noncomputable def evB (n : Nat) (e0 : Env) (l : AL) : Operand → Value
  | .tmp t => match Nat.blt t n with
    | true => lkB e0 l t
    | false => undef
  | .const v => v
  | .global g => ptr g 0
  | .func f => .func (.func f) #[] #[]

theorem evB_eq (n : Nat) (e0 : Env) (l : AL) : ev (expB n e0 l) = evB n e0 l := by
  funext x
  cases x with
  | tmp t =>
    simp only [ev, evB, List.getD_eq_getElem?_getD, getElem?_expB]
    cases hb : Nat.blt t n with
    | true => have ht : t < n := by simpa using hb
              simp [ht]
    | false =>
      have ht : ¬ t < n := by
        intro h
        rw [show Nat.blt t n = true by simpa using h] at hb; cases hb
      simp [ht]
  | _ => rfl

noncomputable def yieldB (n : Nat) (e0 : Env) (ops : Array Oper) (l : AL) (j : Nat) : Option Bool :=
  match (ops[j]?).bind (·.dst) with
  | some t => match Nat.blt t n with
    | true => bOf (lkB e0 l t)
    | false => none
  | none => none

theorem yieldB_eq (n : Nat) (e0 : Env) (ops : Array Oper) (l : AL) (j : Nat) : yieldA ops (expB n e0 l) j = yieldB n e0 ops l j := by
  unfold yieldA yieldB
  cases (ops[j]?).bind (·.dst) with
  | none => rfl
  | some t =>
    simp only [Option.bind_some, getElem?_expB]
    cases hb : Nat.blt t n with
    | true =>
      have ht : t < n := by simpa using hb
      simp only [ht, if_true]
      cases lkB e0 l t <;> rfl
    | false =>
      have ht : ¬ t < n := by
        intro h
        rw [show Nat.blt t n = true by simpa using h] at hb; cases hb
      simp [ht]

section
variable {α : Type} (P : Program) (C : CallF) (n : Nat) (e0 : Env)

noncomputable def opsB (ops : Array Oper) (os : List Oper) : AL → Heap → (AL → Heap → Option α) → Option α :=
  List.rec (motive := fun _ => AL → Heap → (AL → Heap → Option α) → Option α) (fun l h k => k l h)
    (fun o _ ih l h k =>
      match o.guard with
      | none => thenV (opA P C o (evB n e0 l) h) fun v h' => ih (putB n l o.dst v) h' k
      | some (j, want) => thenV (guardK (yieldB n e0 ops l j == some want) (opA P C o (evB n e0 l) h) h) fun v h' => ih (putB n l o.dst v) h' k) os

theorem opsB_eq (ops : Array Oper) : ∀ (os : List Oper) (l : AL) (h : Heap) (k : AL → Heap → Option α) (kk : Env → Heap → Option α), (∀ l h, k l h = kk (expB n e0 l) h) →
    opsB P C n e0 ops os l h k = opsK P C ops os (expB n e0 l) h kk
  | [], l, h, k, kk, hk => hk l h
  | o :: rest, l, h, k, kk, hk => by
    have ih : ∀ l h, List.rec (motive := fun _ => AL → Heap → (AL → Heap → Option α) → Option α) (fun l h k => k l h)
        (fun o _ ih l h k =>
          match o.guard with
          | none => thenV (opA P C o (evB n e0 l) h) fun v h' => ih (putB n l o.dst v) h' k
          | some (j, want) => thenV (guardK (yieldB n e0 ops l j == some want) (opA P C o (evB n e0 l) h) h) fun v h' => ih (putB n l o.dst v) h' k) rest l h k = opsK P C ops rest (expB n e0 l) h kk := fun l h => opsB_eq ops rest l h k kk hk
    unfold opsB opsK
    simp only [evB_eq, yieldB_eq]
    cases hg : o.guard with
    | none =>
      simp only
      congr 1
      funext v h'
      rw [ih, expB_put]
    | some g =>
      obtain ⟨j, want⟩ := g
      simp only
      congr 1
      funext v h'
      rw [ih, expB_put]

structure Tb where
  l : AL
  h : Heap
  v : Value
  ran : Bool
noncomputable def chkB (os : List (Nat × Oper)) (tr : List Tb) (hs : List Heap) (x : Nat × Nat) : Bool :=
  match os[x.1]?, tr[x.1]?, heapAt (tr.map (·.ran)) hs (madeIn P os x) (if x.2 < x.1 then x.2 else x.2 + 1) with
  | some y, some t, some h => chkR t.ran (opA P C y.2 (evB n e0 t.l) h) t.v
  | some _, some t, none => !t.ran
  | _, _, _ => false
noncomputable def dynB (ops : Array Oper) (os : List (Nat × Oper)) (tr : List Tb) (hEnd : Heap) : Bool :=
  (dynPairs P ops os).foldr (fun x acc => chkB P C n e0 os tr (tr.map (·.h) ++ [hEnd]) x && acc) true
noncomputable def Tb.up (n : Nat) (e0 : Env) (t : Tb) : Tr1 := ⟨expB n e0 t.l, t.h, t.v, t.ran⟩
theorem dynB_eq (ops : Array Oper) (os : List (Nat × Oper)) (tr : List Tb) (hEnd : Heap) : dynB P C n e0 ops os tr hEnd = dynChk P C ops os (tr.map (Tb.up n e0)) hEnd := by
  unfold dynB dynChk
  congr 1
  funext x acc
  congr 1
  unfold chkB chkAt
  have h1 : (tr.map (Tb.up n e0)).map (·.h) = tr.map (·.h) := by simp [List.map_map, Function.comp_def, Tb.up]
  have h2 : (tr.map (Tb.up n e0)).map (·.ran) = tr.map (·.ran) := by simp [List.map_map, Function.comp_def, Tb.up]
  rw [h1, h2, List.getElem?_map]
  cases os[x.1]? with
  | none => rfl
  | some y =>
    cases tr[x.1]? with
    | none => rfl
    | some t =>
      cases heapAt (tr.map (·.ran)) (List.map (fun x => x.h) tr ++ [hEnd]) (madeIn P os x) (if x.2 < x.1 then x.2 else x.2 + 1) with
      | none => rfl
      | some h => simp [Tb.up, evB_eq]

noncomputable def traceB (ops : Array Oper) (os : List (Nat × Oper)) : AL → Heap → (List Tb → AL → Heap → Option α) → Option α :=
  List.rec (motive := fun _ => AL → Heap → (List Tb → AL → Heap → Option α) → Option α) (fun l h k => k [] l h)
    (fun x _ ih l h k =>
      match x.2.guard with
      | none => thenV (opA P C x.2 (evB n e0 l) h) fun v h' => ih (putB n l x.2.dst v) h' fun tr => k (⟨l, h, v, true⟩ :: tr)
      | some (j, want) => thenV (guardK (yieldB n e0 ops l j == some want) (opA P C x.2 (evB n e0 l) h) h) fun v h' => ih (putB n l x.2.dst v) h' fun tr => k (⟨l, h, v, yieldB n e0 ops l j == some want⟩ :: tr)) os

theorem traceB_eq (ops : Array Oper) : ∀ (os : List (Nat × Oper)) (l : AL) (h : Heap) (k : List Tb → AL → Heap → Option α) (kk : List Tr1 → Env → Heap → Option α), (∀ tr l h, k tr l h = kk (tr.map (Tb.up n e0)) (expB n e0 l) h) →
    traceB P C n e0 ops os l h k = traceK P C ops os (expB n e0 l) h kk
  | [], l, h, k, kk, hk => hk [] l h
  | x :: rest, l, h, k, kk, hk => by
    show (match x.2.guard with
      | none => thenV (opA P C x.2 (evB n e0 l) h) fun v h' => traceB P C n e0 ops rest (putB n l x.2.dst v) h' fun tr => k (⟨l, h, v, true⟩ :: tr)
      | some (j, want) => thenV (guardK (yieldB n e0 ops l j == some want) (opA P C x.2 (evB n e0 l) h) h) fun v h' => traceB P C n e0 ops rest (putB n l x.2.dst v) h' fun tr => k (⟨l, h, v, yieldB n e0 ops l j == some want⟩ :: tr)) = _
    unfold traceK
    simp only [evB_eq, yieldB_eq]
    cases hg : x.2.guard with
    | none =>
      simp only
      congr 1
      funext v h'
      rw [traceB_eq ops rest (putB n l x.2.dst v) h' _ (fun tr => kk (⟨expB n e0 l, h, v, true⟩ :: tr)) (fun tr l h => by rw [hk]; rfl), expB_put]
    | some g =>
      obtain ⟨j, want⟩ := g
      simp only
      congr 1
      funext v h'
      rw [traceB_eq ops rest (putB n l x.2.dst v) h' _ (fun tr => kk (⟨expB n e0 l, h, v, yieldB n e0 ops l j == some want⟩ :: tr)) (fun tr l h => by rw [hk]; rfl), expB_put]

noncomputable def regionB (ops : Array Oper) (draw : Bool) (l : AL) (h : Heap) (k : AL → Heap → Option α) : Option α :=
  match draw with
  | false => opsB P C n e0 ops ops.toList l h k
  | true =>
    match lateOk P ops with
    | true => opsB P C n e0 ops ((late P ops).map (·.2)) l h k
    | false => match statOk P ops (late P ops) with
      | true => traceB P C n e0 ops (late P ops) l h fun tr l' h' => match dynB P C n e0 ops (late P ops) tr h' with
        | true => k l' h'
        | false => none
      | false => none

theorem regionB_eq (ops : Array Oper) (draw : Bool) (l : AL) (h : Heap) (k : AL → Heap → Option α) (kk : Env → Heap → Option α) (hk : ∀ l h, k l h = kk (expB n e0 l) h) :
    regionB P C n e0 ops draw l h k = regionK P C ops draw (expB n e0 l) h kk := by
  unfold regionB regionK
  cases draw with
  | false => exact opsB_eq P C n e0 ops _ l h k kk hk
  | true =>
    simp only
    cases lateOk P ops with
    | true => exact opsB_eq P C n e0 ops _ l h k kk hk
    | false =>
      simp only
      cases statOk P ops (late P ops) with
      | false => rfl
      | true =>
        refine traceB_eq P C n e0 ops _ l h _ _ ?_
        intro tr l h
        rw [dynB_eq]
        cases dynChk P C ops (late P ops) (tr.map (Tb.up n e0)) h with
        | true => exact hk l h
        | false => rfl

/-- Code, by its bare recursor: what comes behind is told twice, over the two kinds of environments. -/
noncomputable def codeB (c : Code) : AL → Heap → (AL → Heap → Option α) → (Env → Heap → Option α) → (AL → Heap → Option α) → (Env → Heap → Option α) → (Nat → AL → Heap → Option α) → (Nat → Env → Heap → Option α) → Option α :=
  Code.rec (motive := fun _ => AL → Heap → (AL → Heap → Option α) → (Env → Heap → Option α) → (AL → Heap → Option α) → (Env → Heap → Option α) → (Nat → AL → Heap → Option α) → (Nat → Env → Heap → Option α) → Option α)
    (fun l h k _ _ _ _ _ => k l h)
    (fun _ ops draw l h k _ _ _ _ _ => regionB P C n e0 ops draw l h k)
    (fun _ b ia ib l h k kE r rE x xE => ia l h (fun l' h' => ib l' h' k kE r rE x xE) (fun e' h' => codeK P C b e' h' kE rE xE) r rE x xE)
    (fun q _ _ ia ib l h k kE r rE x xE => match evB n e0 l q with
      | .bool true => ia l h k kE r rE x xE
      | .bool false => ib l h k kE r rE x xE
      | _ => none)
    (fun id _ ib l h k kE r rE x xE => ib l h k kE r rE (fun i l' h' => if i = id then k l' h' else x i l' h') (fun i e' h' => if i = id then kE e' h' else xE i e' h'))
    (fun b _ l h _ _ _ rE _ xE => endL (iter (codeA P C b) rounds (expB n e0 l) h) rE xE)
    (fun _ _ _ _ _ _ _ _ _ _ _ _ _ _ => none)
    (fun i l h _ _ _ _ x _ => x i l h)
    (fun _ ib l h k kE r rE x xE => ib l h k kE r rE x xE)
    (fun _ l h k _ _ _ _ _ => k l h)
    (fun _ _ _ _ _ _ _ _ _ => none)
    (fun l h _ _ r _ _ _ => r l h)
    (fun _ _ _ _ _ _ _ _ _ => none) c

theorem codeB_eq : ∀ (c : Code) (l : AL) (h : Heap) (k : AL → Heap → Option α) (kE : Env → Heap → Option α) (r : AL → Heap → Option α) (rE : Env → Heap → Option α) (x : Nat → AL → Heap → Option α) (xE : Nat → Env → Heap → Option α),
    (∀ l h, k l h = kE (expB n e0 l) h) → (∀ l h, r l h = rE (expB n e0 l) h) → (∀ i l h, x i l h = xE i (expB n e0 l) h) →
    codeB P C n e0 c l h k kE r rE x xE = codeK P C c (expB n e0 l) h kE rE xE
  | .skip, l, h, k, kE, r, rE, x, xE, hk, hr, hx => hk l h
  | .region _ ops d, l, h, k, kE, r, rE, x, xE, hk, hr, hx => regionB_eq P C n e0 ops d l h k kE hk
  | .seq a b, l, h, k, kE, r, rE, x, xE, hk, hr, hx => by
    show codeB P C n e0 a l h (fun l' h' => codeB P C n e0 b l' h' k kE r rE x xE) (fun e' h' => codeK P C b e' h' kE rE xE) r rE x xE = _
    exact codeB_eq a l h _ _ r rE x xE (fun l h => codeB_eq b l h k kE r rE x xE hk hr hx) hr hx
  | .cond q a b, l, h, k, kE, r, rE, x, xE, hk, hr, hx => by
    show (match evB n e0 l q with
      | .bool true => codeB P C n e0 a l h k kE r rE x xE
      | .bool false => codeB P C n e0 b l h k kE r rE x xE
      | _ => none) = _
    unfold codeK
    rw [evB_eq, codeB_eq a l h k kE r rE x xE hk hr hx, codeB_eq b l h k kE r rE x xE hk hr hx]
    try rfl
  | .block id b, l, h, k, kE, r, rE, x, xE, hk, hr, hx => by
    show codeB P C n e0 b l h k kE r rE (fun i l' h' => if i = id then k l' h' else x i l' h') (fun i e' h' => if i = id then kE e' h' else xE i e' h') = _
    exact codeB_eq b l h k kE r rE _ _ hk hr (fun i l h => by simp only [hk, hx])
  | .loop b, l, h, k, kE, r, rE, x, xE, hk, hr, hx => rfl
  | .exit i, l, h, k, kE, r, rE, x, xE, hk, hr, hx => hx i l h
  | .scope b, l, h, k, kE, r, rE, x, xE, hk, hr, hx => codeB_eq b l h k kE r rE x xE hk hr hx
  | .label _, l, h, k, kE, r, rE, x, xE, hk, hr, hx => hk l h
  | .ret, l, h, k, kE, r, rE, x, xE, hk, hr, hx => hr l h
  | .goto _, l, h, k, kE, r, rE, x, xE, hk, hr, hx => rfl
  | .rangeFunc .., l, h, k, kE, r, rE, x, xE, hk, hr, hx => rfl
  | .refuse _, l, h, k, kE, r, rE, x, xE, hk, hr, hx => rfl

/-- Code from a given environment. -/
noncomputable def startB (c : Code) (h : Heap) (kE rE : Env → Heap → Option α) (xE : Nat → Env → Heap → Option α) : Option α :=
  codeB P C n e0 c [] h (fun l h => kE (expB n e0 l) h) kE (fun l h => rE (expB n e0 l) h) rE (fun i l h => xE i (expB n e0 l) h) xE
theorem startB_eq (hn : Nat.beq e0.length n = true) (c : Code) (h : Heap) (kE rE : Env → Heap → Option α) (xE : Nat → Env → Heap → Option α) :
    codeK P C c e0 h kE rE xE = startB P C n e0 c h kE rE xE := by
  unfold startB
  rw [codeB_eq P C n e0 c [] h (fun l h => kE (expB n e0 l) h) kE (fun l h => rE (expB n e0 l) h) rE (fun i l h => xE i (expB n e0 l) h) xE (fun _ _ => rfl) (fun _ _ => rfl) (fun _ _ _ => rfl)]
  obtain rfl := Nat.eq_of_beq_eq_true hn
  rw [expB_nil]
end

noncomputable def bodyB (P : Program) (C : CallF) (fn : Func) (args : List Value) (h : Heap) : Out :=
  match fn.body with
  | none => none
  | some c => startB P C fn.ntmps (args ++ List.replicate (fn.ntmps - args.length) undef) c h (resultsA P fn.results.toList) (resultsA P fn.results.toList) (fun _ _ _ => none)
theorem bodyB_eq (P : Program) (C : CallF) (fn : Func) (args : List Value) (h : Heap) (hn : Nat.ble args.length fn.ntmps = true) : bodyK P C fn args h = bodyB P C fn args h := by
  unfold bodyK bodyB
  cases fn.body with
  | none => rfl
  | some c =>
    refine startB_eq P C _ _ ?_ c h _ _ _
    have := Nat.le_of_ble_eq_true hn
    have h2 : (args ++ List.replicate (fn.ntmps - args.length) undef).length = fn.ntmps := by simp; omega
    rw [h2]
    exact Nat.beq_refl _
noncomputable def roundB (P : Program) (C : CallF) (n : Nat) (b : Code) (e : Env) (h : Heap) : Option (Ex × Env × Heap) :=
  startB P C n e b h (fun e h => some (.normal, e, h)) (fun e h => some (.ret, e, h)) (fun i e h => some (.exit i, e, h))
theorem roundB_eq (P : Program) (C : CallF) (n : Nat) (b : Code) (e : Env) (h : Heap) (hn : Nat.beq e.length n = true) : roundK P C b e h = roundB P C n b e h :=
  startB_eq P C n e hn b h _ _ _

end Go.Abs

namespace Go.Abs

@[simp] theorem thenV_some {α : Type} (v : Value) (h : Heap) (k : Value → Heap → Option α) : thenV (some (v, h)) k = k v h := rfl
@[simp] theorem thenV_none {α : Type} (k : Value → Heap → Option α) : thenV none k = none := rfl
@[simp] theorem pu_some (v : Value) (h : Heap) : pu (some v) h = some (v, h) := rfl
@[simp] theorem guardK_true (o : Out) (h : Heap) : guardK true o h = o := rfl
@[simp] theorem guardK_false (o : Out) (h : Heap) : guardK false o h = some (undef, h) := rfl
@[simp] theorem bOf_bool (b : Bool) : bOf (.bool b) = some b := rfl
@[simp] theorem bOf_undef : bOf undef = none := rfl
@[simp] theorem endL_ret {α : Type} (e : Env) (h : Heap) (r : Env → Heap → Option α) (x : Nat → Env → Heap → Option α) : endL (some (.ret, e, h)) r x = r e h := rfl
@[simp] theorem endL_exit {α : Type} (i : Nat) (e : Env) (h : Heap) (r : Env → Heap → Option α) (x : Nat → Env → Heap → Option α) : endL (some (.exit i, e, h)) r x = x i e h := rfl
@[simp] theorem nilCheck_ptr (b o : Nat) : nilCheckA (ptr b o) = some (ptr b o) := rfl
@[simp] theorem addP_ptr (b o n : Nat) : addP (ptr b o) n = some (ptr b (o + n)) := rfl
@[simp] theorem lenL_slice (p : Option Addr) (n c : Nat) : lenL (.slice p n c) = some (.int .i64 n) := rfl
@[simp] theorem lenS_string (s : ByteArray) : lenS (.string s) = some (.int .i64 s.size) := rfl
@[simp] theorem unA_not (b : Bool) : unA .not (.bool b) = some (.bool !b) := rfl
@[simp] theorem extractA_tuple (vs : Array Value) (i : Nat) : extractA (.tuple vs) i = vs[i]? := rfl
@[simp] theorem cvI_int (k j : IntKind) (n : Int) (h : Heap) : cvI k (.int j n) h = some (.int k (k.wrap n), h) := rfl

section
variable (P : Program) (t : TypeId) (k : IntKind) (a b : Int)
theorem bin_int (op : BinOp) (k' : IntKind) : bin P op t (.int k a) (.int k' b) = binI op k k' a b := by cases op <;> rfl
@[simp] theorem bin_add : bin P .add t (.int k a) (.int k b) = some (.int k (k.wrap (a + b))) := by rw [bin_int]; simp [binI]
@[simp] theorem bin_sub : bin P .sub t (.int k a) (.int k b) = some (.int k (k.wrap (a - b))) := by rw [bin_int]; simp [binI]
@[simp] theorem bin_mul : bin P .mul t (.int k a) (.int k b) = some (.int k (k.wrap (a * b))) := by rw [bin_int]; simp [binI]
theorem bin_quo (hb : b ≠ 0) : bin P .quo t (.int k a) (.int k b) = some (.int k (k.wrap (a.tdiv b))) := by rw [bin_int]; simp [binI, hb]
theorem bin_rem (hb : b ≠ 0) : bin P .rem t (.int k a) (.int k b) = some (.int k (a.tmod b)) := by rw [bin_int]; simp [binI, hb]
@[simp] theorem bin_eql : bin P .eql t (.int k a) (.int k b) = some (.bool (a == b)) := by rw [bin_int]; simp [binI]
@[simp] theorem bin_neq : bin P .neq t (.int k a) (.int k b) = some (.bool (a != b)) := by rw [bin_int]; simp [binI]
@[simp] theorem bin_lss : bin P .lss t (.int k a) (.int k b) = some (.bool (decide (a < b))) := by rw [bin_int]; simp [binI]
@[simp] theorem bin_leq : bin P .leq t (.int k a) (.int k b) = some (.bool (decide (a ≤ b))) := by rw [bin_int]; simp [binI]
@[simp] theorem bin_gtr : bin P .gtr t (.int k a) (.int k b) = some (.bool (decide (a > b))) := by rw [bin_int]; simp [binI]
@[simp] theorem bin_geq : bin P .geq t (.int k a) (.int k b) = some (.bool (decide (a ≥ b))) := by rw [bin_int]; simp [binI]
end

theorem ld1_at {h : Heap} {b o : Nat} {k : Blk} {c : Value} (hg : h.get b = some k) (hc : k[o]? = some c) (hh : isHole c = false := by rfl) : ld1 (ptr b o) h = some (c, h) := by
  unfold ld1 ptr
  simp only [hg, hc, hh, if_true]
theorem ldN_at {h : Heap} {b o n : Nat} {k : Blk} (hg : h.get b = some k) (hc : o + n ≤ k.length) (hh : noHoles ((k.drop o).take n) = true) : ldN n (ptr b o) h = some (.agg ((k.drop o).take n).toArray, h) := by
  unfold ldN ptr
  simp only [hg, hc, hh, and_self, if_true]

/-- A loop by what stands before each round: k rounds are still to come. -/
theorem iter_inv {step : Env → Heap → Option (Ex × Env × Heap)} {Inv : Nat → Env → Heap → Prop} {fin : Ex → Env → Heap → Prop}
    (hs : ∀ k e h, Inv k e h → ∃ x e' h', step e h = some (x, e', h') ∧ ((x = .normal ∧ ∃ j, j < k ∧ Inv j e' h') ∨ (x ≠ .normal ∧ fin x e' h'))) :
    ∀ (k n : Nat) (e : Env) (h : Heap), k < n → Inv k e h → ∃ x e' h', iter step n e h = some (x, e', h') ∧ fin x e' h' := by
  intro k
  induction k using Nat.strongRecOn with
  | _ k ih =>
    intro n e h hn hi
    obtain ⟨m, rfl⟩ : ∃ m, n = m + 1 := ⟨n - 1, by omega⟩
    obtain ⟨x, e', h', h1, h2 | h2⟩ := hs k e h hi
    · obtain ⟨rfl, j, hj, hi2⟩ := h2
      obtain ⟨x, e2, h3, h4, h5⟩ := ih j hj m e' h' (by omega) hi2
      exact ⟨x, e2, h3, by simp only [iter, h1]; exact h4, h5⟩
    · refine ⟨x, e', h', ?_, h2.2⟩
      simp only [iter, h1]
      cases x with
      | normal => exact absurd rfl h2.1
      | ret => rfl
      | exit i => rfl

theorem wrap_i64_if (x : Int) : IntKind.wrap .i64 x = if 9223372036854775808 ≤ x % 18446744073709551616 then x % 18446744073709551616 - 18446744073709551616 else x % 18446744073709551616 := by
  unfold IntKind.wrap
  simp [IntKind.bits, IntKind.signed]
theorem wrap_i64 {x : Int} (h1 : -9223372036854775808 ≤ x) (h2 : x ≤ 9223372036854775807) : IntKind.wrap .i64 x = x := by
  rw [wrap_i64_if]
  split <;> omega
theorem wrap_u64 {x : Int} (h1 : 0 ≤ x) (h2 : x < 18446744073709551616) : IntKind.wrap .u64 x = x := by
  simp only [IntKind.wrap, IntKind.bits, IntKind.signed, Bool.false_and, Bool.false_eq_true, if_false]
  omega
theorem wrap_u32 {x : Int} (h1 : 0 ≤ x) (h2 : x < 4294967296) : IntKind.wrap .u32 x = x := by
  simp only [IntKind.wrap, IntKind.bits, IntKind.signed, Bool.false_and, Bool.false_eq_true, if_false]
  omega
theorem wrap_u16 {x : Int} (h1 : 0 ≤ x) (h2 : x < 65536) : IntKind.wrap .u16 x = x := by
  simp only [IntKind.wrap, IntKind.bits, IntKind.signed, Bool.false_and, Bool.false_eq_true, if_false]
  omega
theorem wrap_u8 {x : Int} (h1 : 0 ≤ x) (h2 : x < 256) : IntKind.wrap .u8 x = x := by
  simp only [IntKind.wrap, IntKind.bits, IntKind.signed, Bool.false_and, Bool.false_eq_true, if_false]
  omega
theorem wrap_u32_mod (x : Int) : IntKind.wrap .u32 x = x % 4294967296 := by
  simp only [IntKind.wrap, IntKind.bits, IntKind.signed, Bool.false_and, Bool.false_eq_true, if_false]
  omega
end Go.Abs

namespace Go.Abs

/-- All that a function is, as far as a contract asks. -/
structure IsFn (P : Program) (f : FuncId) (fn : Func) : Prop where
  at_ : P.funcs[f]? = some fn
  name : (fn.name == "runtime.NumGoroutine") = false
  some_ : fn.body.isSome = true
  ok : codeOk P (partOf fn []) = true

theorem IsFn.body {P : Program} {f : FuncId} {fn : Func} (i : IsFn P f fn) : fn.body = some (partOf fn []) := by
  have := i.some_
  unfold partOf
  cases h : fn.body with
  | none => rw [h] at this; cases this
  | some c => simp [codeAt]

theorem Contract.mk' {P : Program} {C : CallF} (hC : CSound P C) (hm : P.follows .mixedOrders = true) {f : FuncId} {fn : Func} (i : IsFn P f fn) {s : List Value → Heap → Out}
    (told : ∀ args h v h', s args h = some (v, h') → Grow h h' ∧ (bdL h.next args = true → HeapBd h → bdV h'.next v = true ∧ HeapBd h'))
    (body : ∀ args h v h', s args h = some (v, h') → bdL h.next args = true → HeapBd h → ∃ v1 h1 r, bodyK P C fn args h = some (v1, h1) ∧ Gc h v h' v1 h1 r) : Contract P f s :=
  .of_body hC hm i.at_ i.name i.body i.ok (fun a h v h' e => (told a h v h' e).1) (fun a h v h' e => (told a h v h' e).2) (fun a h v h' e h1 h2 _ => body a h v h' e h1 h2)

/-- A function that answers a value without memory, and leaves nothing. -/
theorem Contract.quiet {P : Program} {C : CallF} (hC : CSound P C) (hm : P.follows .mixedOrders = true) {f : FuncId} {fn : Func} (i : IsFn P f fn) {s : List Value → Heap → Out}
    (told : ∀ args h v h', s args h = some (v, h') → h' = h ∧ ∀ n, bdV n v = true)
    (body : ∀ args h v h', s args h = some (v, h') → bdL h.next args = true → HeapBd h → ∃ h1, bodyK P C fn args h = some (v, h1) ∧ ∀ b k, h.get b = some k → h1.get b = some k) : Contract P f s := by
  refine .mk' hC hm i ?_ ?_
  · intro args h v h' e
    obtain ⟨rfl, h2⟩ := told _ _ _ _ e
    exact ⟨Grow.refl _, fun _ h3 => ⟨h2 _, h3⟩⟩
  · intro args h v h' e h1 h2
    obtain ⟨rfl, h3⟩ := told _ _ _ _ e
    obtain ⟨g, h4, h5⟩ := body _ _ _ _ e h1 h2
    exact ⟨v, g, id, h4, .none (h3 _) h2 (fun b k _ h6 => h5 b k h6)⟩

end Go.Abs

namespace Go.Abs

noncomputable def lkF (x : Nat → Value) (l : AL) (t : Nat) : Value :=
  List.rec (motive := fun _ => Value) (x t) (fun p _ ih => Bool.rec (motive := fun _ => Value) ih p.2 (Nat.beq p.1 t)) l
noncomputable def mkE (n : Nat) (x : Nat → Value) (l : AL) : Env := (List.range n).map (lkF x l)
def bs (l : List Value) : Nat → Value := fun i => l.getD i undef

@[simp] theorem lkF_nil (x : Nat → Value) (t : Nat) : lkF x [] t = x t := rfl
theorem lkF_cons (x : Nat → Value) (p : Nat × Value) (l : AL) (t : Nat) : lkF x (p :: l) t = if p.1 = t then p.2 else lkF x l t := by
  show Bool.rec (motive := fun _ => Value) (lkF x l t) p.2 (Nat.beq p.1 t) = _
  cases hb : Nat.beq p.1 t with
  | true => rw [if_pos (Nat.eq_of_beq_eq_true hb)]
  | false => rw [if_neg (Nat.ne_of_beq_eq_false hb)]
@[simp] theorem mkE_length (n : Nat) (x : Nat → Value) (l : AL) : (mkE n x l).length = n := by simp [mkE]
end Go.Abs

namespace Go.Abs

theorem ofInt_natCast (w n : Nat) : BitVec.ofInt w (n : Int) = BitVec.ofNat w n := by simp

section
variable (P : Program) (t : TypeId)
theorem bits_u {k : IntKind} (hk : k.signed = false) (n : Nat) (hn : n < 2 ^ k.bits) : IntKind.wrap k (n : Int) = n := by
  unfold IntKind.wrap
  simp only [hk, Bool.false_and, Bool.false_eq_true, if_false]
  have : ((2 : Int) ^ k.bits) = ((2 ^ k.bits : Nat) : Int) := by simp
  rw [this, ← Int.natCast_emod, Nat.mod_eq_of_lt hn]

theorem bin_xor_nat {k : IntKind} (hk : k.signed = false) {a b : Nat} (ha : a < 2 ^ k.bits) (hb : b < 2 ^ k.bits) : bin P .xor t (.int k a) (.int k b) = some (.int k ((a ^^^ b : Nat) : Int)) := by
  rw [bin_int]
  simp only [binI, ne_eq, not_true, if_false, bitsA, ofInt_natCast, BitVec.toNat_xor, BitVec.toNat_ofNat, Nat.mod_eq_of_lt ha, Nat.mod_eq_of_lt hb]
  rw [bits_u hk _ (Nat.xor_lt_two_pow ha hb)]
theorem bin_and_nat {k : IntKind} (hk : k.signed = false) {a b : Nat} (ha : a < 2 ^ k.bits) (hb : b < 2 ^ k.bits) : bin P .and t (.int k a) (.int k b) = some (.int k ((a &&& b : Nat) : Int)) := by
  rw [bin_int]
  simp only [binI, ne_eq, not_true, if_false, bitsA, ofInt_natCast, BitVec.toNat_and, BitVec.toNat_ofNat, Nat.mod_eq_of_lt ha, Nat.mod_eq_of_lt hb]
  rw [bits_u hk _ (Nat.and_lt_two_pow a hb)]
theorem bin_or_nat {k : IntKind} (hk : k.signed = false) {a b : Nat} (ha : a < 2 ^ k.bits) (hb : b < 2 ^ k.bits) : bin P .or t (.int k a) (.int k b) = some (.int k ((a ||| b : Nat) : Int)) := by
  rw [bin_int]
  simp only [binI, ne_eq, not_true, if_false, bitsA, ofInt_natCast, BitVec.toNat_or, BitVec.toNat_ofNat, Nat.mod_eq_of_lt ha, Nat.mod_eq_of_lt hb]
  rw [bits_u hk _ (Nat.or_lt_two_pow ha hb)]
theorem bin_shr_nat {k k' : IntKind} {a b : Nat} (hb : b ≤ k.bits) : bin P .shr t (.int k a) (.int k' b) = some (.int k ((a / 2 ^ b : Nat) : Int)) := by
  rw [bin_int]
  have h1 : ¬ ((b : Int) < 0) := by omega
  simp only [binI, h1, if_false, Int.toNat_natCast, Nat.min_eq_left hb]
  have : ((2 : Int) ^ b) = ((2 ^ b : Nat) : Int) := by simp
  rw [this, Int.fdiv_eq_ediv_of_nonneg _ (Int.natCast_nonneg _)]
  rfl
end
end Go.Abs

namespace Go.Abs

/-- All blocks but some are as they were. -/
structure Kept (h h' : Heap) (B : Nat → Prop) : Prop where
  n0 : h'.n0 = h.n0
  next : h.next ≤ h'.next
  get : ∀ c, c < h.next → ¬ B c → h'.get c = h.get c

theorem Kept.refl (h : Heap) (B : Nat → Prop) : Kept h h B := ⟨rfl, Nat.le_refl _, fun _ _ _ => rfl⟩
theorem Kept.trans {a b c : Heap} {B : Nat → Prop} (x : Kept a b B) (y : Kept b c B) : Kept a c B :=
  ⟨y.n0.trans x.n0, Nat.le_trans x.next y.next, fun d hd hb => (y.get d (Nat.lt_of_lt_of_le hd x.next) hb).trans (x.get d hd hb)⟩
theorem Kept.mono {a b : Heap} {B B' : Nat → Prop} (x : Kept a b B) (hB : ∀ c, c < a.next → B c → B' c) : Kept a b B' :=
  ⟨x.n0, x.next, fun d hd hb => x.get d hd (fun h => hb (hB d hd h))⟩
theorem Kept.alloc (h : Heap) (k : Blk) (B : Nat → Prop) : Kept h (h.alloc k) B :=
  ⟨rfl, by simp, fun c hc _ => by rw [Heap.get_alloc, if_neg (by omega)]⟩
theorem Kept.set {h : Heap} {b : Nat} {k k' : Blk} {B : Nat → Prop} (hb : h.n0 ≤ b) (hg : h.get b = some k) (hB : h.next ≤ b ∨ B b) : Kept h (h.set b k') B :=
  ⟨rfl, by simp, fun c hc hn => by
    by_cases e : c = b
    · subst e; rcases hB with h1 | h1
      · omega
      · exact absurd h1 hn
    · exact Heap.get_set_other hb (h.lt_of_get hg) _ e⟩

theorem splice_one (k : List Value) (o : Nat) (v : Value) (ho : o < k.length) : splice k o [v] = k.set o v := by
  unfold splice
  rw [List.set_eq_take_append_cons_drop, if_pos ho]
  simp
theorem stN1_at {h : Heap} {b o : Nat} {k : Blk} {v : Value} (hg : h.get b = some k) (ho : o < k.length) (hn : h.n0 ≤ b) (hc : v.cells = #[v]) (hv : v.oneCell' = true) :
    stN 1 (ptr b o) v h = some (undef, h.set b (k.set o v)) := by
  unfold stN ptr
  simp only [hc, List.size_toArray, List.length_cons, List.length_nil, Nat.zero_add, if_true]
  unfold stL
  simp only [hg, List.length_cons, List.length_nil, Nat.zero_add]
  rw [if_pos (by simp [hn, oneCells, hv]; omega), splice_one k o v ho]
  rfl
end Go.Abs

namespace Go.Abs

noncomputable def mkF (n : Nat) (x : Nat → Value) : Env := (List.range n).map x
noncomputable def up (x : Nat → Value) (l : AL) : Nat → Value := lkF x l
@[simp] theorem up_nil (x : Nat → Value) (t : Nat) : up x [] t = x t := rfl
theorem up_cons (x : Nat → Value) (s : Nat) (v : Value) (l : AL) (t : Nat) : up x ((s, v) :: l) t = if s = t then v else up x l t := lkF_cons ..
@[simp] theorem mkF_length (n : Nat) (x : Nat → Value) : (mkF n x).length = n := by simp [mkF]

theorem link_roundF {P : Program} {C : CallF} {n : Nat} {b : Code} {T : (Nat → Value) → Heap → Option (Ex × Env × Heap)} (hT : ∀ x h, roundB P C n b (mkF n x) h = T x h) (x : Nat → Value) (h : Heap) :
    codeA P C b (mkF n x) h = T x h := by
  rw [← roundK_eq, roundB_eq P C n b _ h (by rw [mkF_length]; exact Nat.beq_refl n), ← hT]
theorem link_partF {α : Type} {P : Program} {C : CallF} {n : Nat} {b : Code} {kE rE : Env → Heap → Option α} {xE : Nat → Env → Heap → Option α} {T : (Nat → Value) → Heap → Option α}
    (hT : ∀ x h, startB P C n (mkF n x) b h kE rE xE = T x h) (x : Nat → Value) (h : Heap) :
    codeK P C b (mkF n x) h kE rE xE = T x h := by
  rw [startB_eq P C n (mkF n x) (by rw [mkF_length]; exact Nat.beq_refl n), ← hT]

/-- A loop by what stands before each round: at most k rounds are still to come. -/
theorem loop_inv {P : Program} {C : CallF} {n : Nat} {b : Code} {T : (Nat → Value) → Heap → Option (Ex × Env × Heap)} (hT : ∀ x h, codeA P C b (mkF n x) h = T x h)
    {Inv : Nat → (Nat → Value) → Heap → Prop} {fin : Ex → (Nat → Value) → Heap → Prop}
    (hs : ∀ k x h, Inv k x h → ∃ ex x' h', T x h = some (ex, mkF n x', h') ∧ ((ex = .normal ∧ ∃ j, j < k ∧ Inv j x' h') ∨ (ex ≠ .normal ∧ fin ex x' h')))
    {k : Nat} {x : Nat → Value} {h : Heap} (hk : k < rounds) (hi : Inv k x h) :
    ∃ ex x' h', iter (codeA P C b) rounds (mkF n x) h = some (ex, mkF n x', h') ∧ fin ex x' h' := by
  obtain ⟨ex, e', h', h1, x', rfl, h2⟩ := iter_inv (step := codeA P C b) (Inv := fun k e h => ∃ x, e = mkF n x ∧ Inv k x h) (fin := fun ex e h => ∃ x, e = mkF n x ∧ fin ex x h)
    (by
      rintro k _ h ⟨x, rfl, hi⟩
      obtain ⟨ex, x', h', h1, h2⟩ := hs k x h hi
      refine ⟨ex, mkF n x', h', (hT x h).trans h1, ?_⟩
      rcases h2 with ⟨h2, j, hj, h3⟩ | ⟨h2, h3⟩
      · exact .inl ⟨h2, j, hj, x', rfl, h3⟩
      · exact .inr ⟨h2, x', rfl, h3⟩)
    k rounds (mkF n x) h hk ⟨x, rfl, hi⟩
  exact ⟨ex, x', h', h1, h2⟩

end Go.Abs

namespace Go.Abs

def fnOk (P : Program) (fn : Func) : Bool := !(fn.name == "runtime.NumGoroutine") && match fn.body with | some c => codeOk P c | none => false

section
variable {P : Program} {C : CallF}

theorem ld_bd {t : TypeId} {x v : Value} {h h' : Heap} (hb : HeapBd h) (hx : bdV h.next x = true) (e : ld P t x h = some (v, h')) : bdV h.next v = true := by
  have hC : CSound P (fun _ _ _ => none) := ⟨by simp, by simp, by simp, by simp⟩
  have := opA_bd (P := P) (C := fun _ _ _ => none) (o := { dst := none, type := 0, op := .load t (.const x), after := #[], guard := none, pos := default }) (ρ := fun o => match o with | .const v => v | _ => undef) hC hb
    (by
      intro y hy
      have : y = .const x := by simpa [Op.operands] using hy
      subst this; exact hx) (v := v) (h' := h') e
  have hh : h' = h := by
    unfold ld at e
    split at e
    · unfold ldN at e; split at e
      · split at e
        · split at e
          · cases e; rfl
          · cases e
        · cases e
      · cases e
    · unfold ld1 at e
      repeat' split at e
      all_goals first
        | (cases e; done)
        | (simp only [Option.some.injEq, Prod.mk.injEq] at e; exact e.2.symm)
    · cases e
  subst hh; exact this.1

theorem resultA_bd {r : ResultVar} {e : Env} {h : Heap} {v : Value} (hb : HeapBd h) (he : bdL h.next e = true) (x : resultA P r e h = some v) : bdV h.next v = true := by
  have key : ∀ t, bdV h.next (e.getD t undef) = true := by
    intro t
    rw [List.getD_eq_getElem?_getD]
    cases ht : e[t]? with
    | none => rfl
    | some y => exact bdL_iff.1 he y (List.mem_of_getElem? ht)
  cases r with
  | tmp t => simp only [resultA, Option.some.injEq] at x; subst x; exact key t
  | cell a t =>
    simp only [resultA, Option.map_eq_some_iff] at x
    obtain ⟨⟨y, h'⟩, h1, rfl⟩ := x
    exact ld_bd hb (key a) h1

theorem resultsA_bd {rs : List ResultVar} {e : Env} {h h' : Heap} {v : Value} (hb : HeapBd h) (he : bdL h.next e = true) (x : resultsA P rs e h = some (v, h')) : bdV h'.next v = true ∧ HeapBd h' := by
  have hh := resultsA_grow x
  subst hh
  refine ⟨?_, hb⟩
  unfold resultsA at x
  split at x
  · simp only [Option.map_eq_some_iff, Prod.mk.injEq] at x
    obtain ⟨v1, hv1, rfl, _⟩ := x
    exact resultA_bd hb he hv1
  · simp only [Option.map_eq_some_iff, Prod.mk.injEq] at x
    obtain ⟨vs, hvs, rfl, _⟩ := x
    show bdL _ vs = true
    rw [bdL_iff]
    intro y hy
    have : ∀ (rs : List ResultVar) (vs : List Value), rs.mapM (fun r => resultA P r e h') = some vs → ∀ y ∈ vs, bdV h'.next y = true := by
      intro rs
      induction rs with
      | nil => intro vs hvs y hy; simp at hvs; subst hvs; cases hy
      | cons r rs ih =>
        intro vs hvs y hy
        simp only [List.mapM_cons, Option.bind_eq_bind, Option.bind_eq_some_iff, Option.pure_def, Option.some.injEq] at hvs
        obtain ⟨a, ha, b, hb2, rfl⟩ := hvs
        rcases List.mem_cons.1 hy with rfl | hy
        · exact resultA_bd hb he ha
        · exact ih b hb2 y hy
    exact this _ _ hvs y hy

theorem bodyA_grow (hC : CSound P C) {fn : Func} {args : List Value} {h h' : Heap} {v : Value} (he : bodyA P C fn args h = some (v, h')) : Grow h h' := by
  unfold bodyA at he
  split at he
  · cases he
  · rename_i c hb
    cases hc : codeA P C c (args ++ List.replicate (fn.ntmps - args.length) undef) h with
    | none => rw [hc] at he; cases he
    | some y =>
      obtain ⟨ex, e1, h2⟩ := y
      rw [hc] at he
      have hgrow : resultsA P fn.results.toList e1 h2 = some (v, h') := by
        cases ex with
        | normal => exact he
        | ret => exact he
        | exit i => cases he
      rw [resultsA_grow hgrow]
      exact codeA_grow hC c hc

theorem bodyA_bd (hC : CSound P C) {fn : Func} {args : List Value} {h h' : Heap} {v : Value} (hok : fnOk P fn = true) (hg : P.globals.size ≤ h.n0) (he : bodyA P C fn args h = some (v, h')) (hba : bdL h.next args = true) (hbh : HeapBd h) :
    bdV h'.next v = true ∧ HeapBd h' := by
  unfold bodyA at he
  split at he
  · cases he
  · rename_i c hb
    have hco : codeOk P c = true := by
      unfold fnOk at hok
      rw [hb] at hok
      simp only [Bool.and_eq_true] at hok
      exact hok.2
    cases hc : codeA P C c (args ++ List.replicate (fn.ntmps - args.length) undef) h with
    | none => rw [hc] at he; cases he
    | some y =>
      obtain ⟨ex, e1, h2⟩ := y
      rw [hc] at he
      have hr : resultsA P fn.results.toList e1 h2 = some (v, h') := by
        cases ex with
        | normal => exact he
        | ret => exact he
        | exit i => cases he
      obtain ⟨h3, h4⟩ := codeA_bd hC c hco hg (bdL_append hba (bdL_iff.2 fun x hx => by rw [List.eq_of_mem_replicate hx]; rfl)) hbh hc
      exact resultsA_bd h4 h3 hr
end

/-- The heap of a run that begins with nothing. -/
def bare (P : Program) : Heap := ⟨P.globals.size, fun _ => none, .nil, 0⟩
theorem bare_get (P : Program) (b : Nat) : (bare P).get b = none := by
  unfold Heap.get bare
  simp only [Nat.add_zero]
  split
  · rfl
  · rfl

/-- What a function without arguments answers in the empty heap it answers in every heap, and leaves that as it was. -/
theorem Contract.closed {P : Program} {C : CallF} (hC : CSound P C) {f : FuncId} {v : Value} (hv : flat v = true) (hr : ∃ h1, C f [] (bare P) = some (v, h1)) :
    Contract P f fun args h => match args with | [] => some (v, h) | _ => none := by
  obtain ⟨h1, hr⟩ := hr
  have hbd : ∀ n, bdV n v = true := fun n => bdV_flat hv
  refine ⟨hC.fn _ _ _ _ _ hr, ?_, ?_, ?_⟩
  · intro args h v' h' e
    cases args with
    | nil => cases e; exact Grow.refl _
    | cons => cases e
  · intro args h v' h' e _ hb
    cases args with
    | nil => cases e; exact ⟨hbd _, hb⟩
    | cons => cases e
  · intro args h v' h' e _ hbh hg μ w args' S hfr r
    cases args with
    | cons => cases e
    | nil =>
      cases e
      have ha : args' = [] := List.length_eq_zero_iff.1 r.1.symm
      subst ha
      have S0 : Sim (μ.cut P.globals.size) (bare P) w := by
        refine ⟨?_, ?_, ?_, Nat.le_trans hg S.size, ?_⟩
        · intro b cs _ hc; cases hc
        · intro b k _ hk; rw [bare_get] at hk; cases hk
        · intro b b' k k' L L' _ _ _ hk; rw [bare_get] at hk; cases hk
        · intro b hb
          obtain ⟨L, h2, h3⟩ := S.low b (Nat.lt_of_lt_of_le hb hg)
          exact ⟨L, Mu.cut_some h2 hb, h3⟩
      have hno : ∀ B, ¬ Own (μ.cut P.globals.size) (bare P) B := by
        rintro B ⟨b, k, L, _, hk, _⟩
        rw [bare_get] at hk; cases hk
      refine (hC.run _ _ _ _ _ hr rfl (fun b k hk => by rw [bare_get] at hk; cases hk) (Nat.le_refl _) (μ.cut P.globals.size) w [] S0
        (fun b hb _ => by
          have : ¬ b < P.globals.size := Nat.not_lt.2 hb
          simp [Mu.cut, this]) (LRel.nil _)).mono ?_
      rintro e w' ⟨μ1, v1, rfl, S1, St, hv1⟩
      have same : ∀ (B : Nat) (x : Obj), w.heap[B]? = some x → w'.heap[B]? = some x := by
        intro B x hx
        rw [St.same B (Array.getElem?_eq_some_iff.1 hx).1 (hno B)]; exact hx
      refine ⟨μ, v1, rfl, ⟨?_, ?_, S.inj, Nat.le_trans S.size St.size, S.low⟩, ⟨fun _ _ => rfl, rfl, rfl, Nat.le_refl _, St.os, St.tape, St.output, St.size, fun B hB _ => St.same B hB (hno B), fun B hB => .inl hB⟩, ?_⟩
      · intro b cs hb hc
        obtain ⟨L, arr, T, fr, h2, h3, h4, h5, h6⟩ := S.old b cs hb hc
        exact ⟨L, arr, T, fr, h2, h3, h4, same _ _ h5, h6⟩
      · intro b k hb hk
        obtain ⟨L, arr, T, fr, h2, h3, h4, h5⟩ := S.new b k hb hk
        exact ⟨L, arr, T, fr, h2, h3, same _ _ h4, h5⟩
      · rw [hv1.flat_eq hv]; exact .flat hv

end Go.Abs

