/-
  The abstract machine: operations one behind the other; what grows.
  Conditions: the calls' summaries are sound (CSound).
-/
import Derived.Test.YtcmfgmhadeeieaaA8
import Derived.LoopN
namespace Go.Abs

/-- Nothing that was there has gone from the heap's count. -/
def Grow (h h' : Heap) : Prop := h.next ≤ h'.next ∧ h'.n0 = h.n0 ∧ h'.old = h.old
theorem Grow.refl (h : Heap) : Grow h h := ⟨Nat.le_refl _, rfl, rfl⟩
theorem Grow.trans {a b c : Heap} (x : Grow a b) (y : Grow b c) : Grow a c := ⟨Nat.le_trans x.1 y.1, y.2.1.trans x.2.1, y.2.2.trans x.2.2⟩
theorem Grow.alloc (h : Heap) (k : Blk) : Grow h (h.alloc k) := ⟨by simp, rfl, rfl⟩
theorem Grow.kill_alloc (h : Heap) (b : Nat) (k : Blk) : Grow h ((h.kill b).alloc k) := ⟨by simp, rfl, rfl⟩
theorem Grow.of_stL {b off : Nat} {xs : List Value} {h h' : Heap} (e : stL b off xs h = some h') : Grow h h' := by
  unfold stL at e
  split at e
  · split at e
    · cases e; exact ⟨Nat.le_refl _, rfl, rfl⟩
    · cases e
  · cases e

section ops
variable {P : Program} {C : CallF} {h h' : Heap} {v : Value}

theorem grow_append {size by_ : Nat} {s x : Value} (e : appendA size by_ s x h = some (v, h')) : Grow h h' := by
  unfold appendA at e
  repeat' split at e
  all_goals first
    | (cases e; done)
    | (simp only [Option.some.injEq, Prod.mk.injEq] at e; obtain ⟨_, rfl⟩ := e; first | exact Grow.refl _ | exact Grow.alloc _ _ | exact Grow.kill_alloc _ _ _)
    | (simp only [Option.map_eq_some_iff, Prod.mk.injEq] at e; obtain ⟨h1, hs, _, rfl⟩ := e; exact Grow.of_stL hs)

theorem grow_copy {size : Nat} {s x : Value} (e : copyA size s x h = some (v, h')) : Grow h h' := by
  unfold copyA at e
  simp only at e
  repeat' split at e
  all_goals first
    | (cases e; done)
    | (simp only [Option.some.injEq, Prod.mk.injEq] at e; obtain ⟨_, rfl⟩ := e; exact Grow.refl _)
    | (simp only [Option.map_eq_some_iff, Prod.mk.injEq] at e; obtain ⟨h1, hs, _, rfl⟩ := e; exact Grow.of_stL hs)
theorem grow_clear {size : Nat} {t : TypeId} {s : Value} (e : clearA P t size s h = some (v, h')) : Grow h h' := by
  unfold clearA at e
  repeat' split at e
  all_goals first
    | (cases e; done)
    | (simp only [Option.some.injEq, Prod.mk.injEq] at e; obtain ⟨_, rfl⟩ := e; exact Grow.refl _)
    | (simp only [Option.map_eq_some_iff, Prod.mk.injEq] at e; obtain ⟨h1, hs, _, rfl⟩ := e; exact Grow.of_stL hs)
theorem grow_builtin {b : Builtin} {ts : List TypeId} {args : List Value} (e : builtinA P b ts args h = some (v, h')) : Grow h h' := by
  unfold builtinA at e
  split at e
  · repeat' split at e
    all_goals first
      | (cases e; done)
      | exact grow_append e
  · split at e
    · simp only [Option.bind_eq_some_iff] at e; obtain ⟨n, _, e⟩ := e; exact grow_copy e
    · cases e
  · split at e
    · simp only [Option.bind_eq_some_iff] at e; obtain ⟨n, _, e⟩ := e; exact grow_clear e
    · cases e
  · simp only [Option.map_eq_some_iff, Prod.mk.injEq] at e; obtain ⟨_, _, _, rfl⟩ := e; exact Grow.refl _
  · simp only [Option.map_eq_some_iff, Prod.mk.injEq] at e; obtain ⟨_, _, _, rfl⟩ := e; exact Grow.refl _
  · simp only [Option.map_eq_some_iff, Prod.mk.injEq] at e; obtain ⟨_, _, _, rfl⟩ := e; exact Grow.refl _
  · cases e

theorem opA_grow (hC : CSound P C) {o : Oper} {ρ : Operand → Value} (e : opA P C o ρ h = some (v, h')) : Grow h h' := by
  have pure_of : ∀ {r : Option Value}, r.map (fun v => (v, h)) = some (v, h') → Grow h h' := by
    intro r e
    simp only [Option.map_eq_some_iff, Prod.mk.injEq] at e
    obtain ⟨x, _, _, rfl⟩ := e
    exact Grow.refl _
  unfold opA at e
  simp only at e
  split at e
  · cases e; exact Grow.refl _
  · cases e; exact Grow.refl _
  · split at e
    · cases e; exact Grow.refl _
    · cases e
  · unfold zero at e
    repeat' split at e
    all_goals first
      | (cases e; done)
      | (simp only [newRow, Option.some.injEq, Prod.mk.injEq] at e; obtain ⟨_, rfl⟩ := e; exact Grow.alloc _ _)
  · unfold box at e
    split at e
    · simp only [newRow, Option.some.injEq, Prod.mk.injEq] at e; obtain ⟨_, rfl⟩ := e; exact Grow.alloc _ _
    · cases e
  · exact pure_of e
  · unfold buildSliceA at e
    repeat' split at e
    all_goals first
      | (cases e; done)
      | (simp only [Option.some.injEq, Prod.mk.injEq] at e; obtain ⟨_, rfl⟩ := e; exact Grow.alloc _ _)
  · unfold ld at e
    split at e
    · unfold ldN at e
      repeat' split at e
      all_goals first
        | (cases e; done)
        | (simp only [Option.some.injEq, Prod.mk.injEq] at e; obtain ⟨_, rfl⟩ := e; exact Grow.refl _)
    · unfold ld1 at e
      repeat' split at e
      all_goals first
        | (cases e; done)
        | (simp only [Option.some.injEq, Prod.mk.injEq] at e; obtain ⟨_, rfl⟩ := e; exact Grow.refl _)
    · cases e
  · unfold st at e
    split at e
    · unfold stN at e
      split at e
      · split at e
        · simp only [Option.map_eq_some_iff, Prod.mk.injEq] at e; obtain ⟨h1, hs, _, rfl⟩ := e; exact Grow.of_stL hs
        · cases e
      · cases e
    · cases e
  · exact pure_of e
  · exact pure_of e
  · exact pure_of e
  · unfold convA at e
    split at e
    · cases e; exact Grow.refl _
    · cases e; exact Grow.refl _
    · repeat' split at e
      all_goals first
        | (cases e; done)
        | (simp only [Option.some.injEq, Prod.mk.injEq] at e; obtain ⟨_, rfl⟩ := e; exact Grow.alloc _ _)
    · repeat' split at e
      all_goals first
        | (cases e; done)
        | (cases e; exact Grow.refl _)
    · repeat' split at e
      all_goals first
        | (cases e; done)
        | (cases e; exact Grow.refl _)
    · cases e
  · unfold makeA at e
    repeat' split at e
    all_goals first
      | (cases e; done)
      | (simp only [Option.some.injEq, Prod.mk.injEq] at e; obtain ⟨_, rfl⟩ := e; exact Grow.alloc _ _)
  · exact pure_of e
  · exact pure_of e
  · exact pure_of e
  · exact pure_of e
  · exact pure_of e
  · exact pure_of e
  · split at e
    · exact grow_builtin e
    · unfold callA at e
      split at e
      · exact hC.grow _ _ _ _ _ e
      · cases e
    · cases e
  · cases e

theorem opA_bd (hC : CSound P C) {o : Oper} {ρ : Operand → Value} (hb : HeapBd h) (hρ : ∀ x ∈ o.op.operands.toList, bdV h.next (ρ x) = true) (e : opA P C o ρ h = some (v, h')) : bdV h'.next v = true ∧ HeapBd h' := by
  have pure_of : ∀ {r : Option Value}, (∀ v, r = some v → bdV h.next v = true) → r.map (fun v => (v, h)) = some (v, h') → bdV h'.next v = true ∧ HeapBd h' := by
    intro r hr e
    simp only [Option.map_eq_some_iff, Prod.mk.injEq] at e
    obtain ⟨x, rfl, rfl, rfl⟩ := e
    exact ⟨hr x rfl, hb⟩
  have hop : ∀ op, o.op = op → (∀ x ∈ op.operands.toList, bdV h.next (ρ x) = true) := fun op h => h ▸ hρ
  have hparts : ∀ {parts : Array (Nat × Operand)}, (∀ x ∈ parts.toList.map (·.2), bdV h.next (ρ x) = true) → ∀ p ∈ parts.toList.map (fun (i, x) => (i, ρ x)), bdV h.next p.2 = true := by
    intro parts hp p hm
    obtain ⟨q, hq, rfl⟩ := List.mem_map.1 hm
    exact hp q.2 (List.mem_map.2 ⟨q, hq, rfl⟩)
  unfold opA at e
  simp only at e
  split at e
  · rename_i x heq; cases e; exact ⟨hop _ heq x (by simp [Op.operands]), hb⟩
  · rename_i x heq; cases e; exact ⟨hop _ heq x (by simp [Op.operands]), hb⟩
  · rename_i c x y heq
    split at e
    · rename_i t _
      cases e
      refine ⟨?_, hb⟩
      cases t
      · exact hop _ heq y (by simp [Op.operands])
      · exact hop _ heq x (by simp [Op.operands])
    · cases e
  · unfold zero at e
    split at e
    · split at e
      · rename_i hf
        simp only [newRow, Option.some.injEq, Prod.mk.injEq] at e
        obtain ⟨rfl, rfl⟩ := e
        exact ⟨by simp [bdV, ptr], hb.alloc (bdL_flat hf)⟩
      · cases e
    · cases e
  · rename_i t x heq
    unfold box at e
    split at e
    · simp only [newRow, Option.some.injEq, Prod.mk.injEq] at e
      obtain ⟨rfl, rfl⟩ := e
      exact ⟨by simp [bdV, ptr], hb.alloc (bdL_mono (Nat.le_succ _) (bdL_cells (hop _ heq x (by simp [Op.operands]))))⟩
    · cases e
  · rename_i t parts heq
    exact pure_of (fun v hv => bd_build (hparts fun x hx => hop _ heq x (by simpa [Op.operands] using hx)) hv) e
  · rename_i t len parts heq
    exact bd_buildSlice hb (hparts fun x hx => hop _ heq x (by simpa [Op.operands] using hx)) e
  · exact bd_ld hb e
  · rename_i t x y heq
    exact bd_st hb (hop _ heq y (by simp [Op.operands])) e
  · rename_i x heq
    exact pure_of (fun v hv => bd_nil (hop _ heq x (by simp [Op.operands])) hv) e
  · exact pure_of (fun v hv => bdV_flat (bin_flat hv)) e
  · exact pure_of (fun v hv => bdV_flat (un_flat hv)) e
  · rename_i s d x heq
    exact bd_conv hb (hop _ heq x (by simp [Op.operands])) e
  · exact bd_make hb e
  · rename_i t x lo hi mx heq
    exact pure_of (fun v hv => bd_slice (hop _ heq x (by simp [Op.operands])) hv) e
  · rename_i t x i heq
    exact pure_of (fun v hv => bd_fieldAt (hop _ heq x (by simp [Op.operands])) hv) e
  · rename_i t x i heq
    exact pure_of (fun v hv => bd_field (hop _ heq x (by simp [Op.operands])) hv) e
  · rename_i t x i heq
    exact pure_of (fun v hv => bd_indexAt (hop _ heq x (by simp [Op.operands])) hv) e
  · rename_i t x i heq
    exact pure_of (fun v hv => bd_index (hop _ heq x (by simp [Op.operands])) hv) e
  · rename_i x i heq
    exact pure_of (fun v hv => bd_extract (hop _ heq x (by simp [Op.operands])) hv) e
  · rename_i c heq
    have hargs : bdL h.next (c.args.toList.map ρ) = true := by
      rw [bdL_iff]
      intro y hy
      obtain ⟨x, hx, rfl⟩ := List.mem_map.1 hy
      exact hop _ heq x (by simp only [Op.operands, Call.operands, Array.toList_append, List.mem_append]; exact .inr hx)
    split at e
    · exact bd_builtin hb hargs e
    · rename_i f hcv
      unfold callA at e
      split at e
      · rename_i i first captured hfe
        have hff := hop _ heq f (by simp [Op.operands, Call.operands, hcv])
        rw [hfe] at hff
        obtain ⟨lf⟩ := first
        obtain ⟨lc⟩ := captured
        simp only [bdV, Bool.and_eq_true] at hff
        exact hC.bd _ _ _ _ _ e (bdL_append (bdL_append hff.1 hargs) hff.2) hb
      · cases e
    · cases e
  · cases e

theorem bd_putD {n : Nat} {e : Env} {d : Option Tmp} {v : Value} (he : bdL n e = true) (hv : bdV n v = true) : bdL n (putD e d v) = true := by
  cases d with
  | none => exact he
  | some t => exact bdL_set he hv
theorem bd_ev {e : Env} {x : Operand} {h : Heap} (hg : P.globals.size ≤ h.n0) (he : bdL h.next e = true) (hx : opdOk P x = true) : bdV h.next (ev e x) = true := by
  cases x with
  | tmp t => exact bdL_getD he
  | const v => exact bdV_flat hx
  | global g =>
    have hlt : g < P.globals.size := by simpa [opdOk] using hx
    have := h.n0_le_next
    simp only [ev, ptr, bdV, decide_eq_true_eq]
    omega
  | func f => rfl

/-- The frame's values on both sides. -/
def ERel (μ : Mu) (e : Env) (a : Act) : Prop := LRel μ e a.tmps.toList ∧ a.defers = []

theorem ERel.mono {μ μ' : Mu} {e : Env} {a : Act} (r : ERel μ e a) (hm : ∀ b L, μ b = some L → μ' b = some L) : ERel μ' e a := ⟨r.1.mono hm, r.2⟩

theorem ERel.put {μ : Mu} {e : Env} {a : Act} (r : ERel μ e a) (d : Option Tmp) {x y : Value} (hv : VRel μ x y) : ERel μ (putD e d x) (a.put d y) := by
  cases d with
  | none => exact r
  | some t =>
    refine ⟨?_, r.2⟩
    simp only [putD, Act.put]
    rw [Array.toList_setIfInBounds]
    exact r.1.set t hv

theorem ev_rel {μ : Mu} {h : Heap} {w : World} {e : Env} {a : Act} (S : Sim μ h w) (hg : P.globals.size ≤ h.n0) (r : ERel μ e a) {x : Operand} (hx : opdOk P x = true) : VRel μ (ev e x) (a.eval x) := by
  cases x with
  | tmp t =>
    have := r.1.getD t
    simpa [ev, Act.eval] using this
  | const v => exact .flat hx
  | global g =>
    have hlt : g < P.globals.size := by simpa [opdOk] using hx
    obtain ⟨L, hL, hB, hO⟩ := S.low g (by omega)
    have := VRel.ptr (off := 0) hL
    rw [hB, hO] at this
    exact this
  | func f => exact .flat rfl

theorem VRel.bool_eq {μ : Mu} {x y : Value} (h : VRel μ x y) (b : Bool) : y = .bool b ↔ x = .bool b := by
  constructor
  · rintro rfl; cases h; rfl
  · rintro rfl; exact h.bool

theorem yield_rel {μ : Mu} {ops : Array Oper} {e : Env} {a : Act} (r : ERel μ e a) (j : Nat) : yieldA ops e j = yielded ops a.tmps j := by
  unfold yieldA yielded
  cases hd : (ops[j]?).bind (·.dst) with
  | none => rfl
  | some t =>
    simp only [Option.bind_some]
    cases hx : e[t]? with
    | none =>
      have : a.tmps[t]? = none := by
        have h1 := r.1.1
        have h2 : a.tmps.toList.length = a.tmps.size := Array.length_toList
        rw [List.getElem?_eq_none_iff] at hx
        rw [Array.getElem?_eq_none_iff]
        omega
      rw [this]
    | some x =>
      obtain ⟨y, hy, hv⟩ := r.1.get hx
      have hy' : a.tmps[t]? = some y := by simpa using hy
      rw [hy']
      cases hv with
      | flat h => rfl
      | _ => rfl

theorem want_rel {μ : Mu} {ops : Array Oper} {o : Oper} {e : Env} {a : Act} (r : ERel μ e a) : wantA ops o e = Region.wanted o (yielded ops a.tmps) := by
  unfold wantA Region.wanted
  cases o.guard with
  | none => rfl
  | some p => obtain ⟨j, b⟩ := p; simp only; rw [yield_rel r j]

/-- What is shown behind a piece of a run. -/
def Behind (μ : Mu) (h : Heap) (w : World) (e' : Env) (h' : Heap) (a' : Act) (w' : World) : Prop :=
  ∃ μ', Sim μ' h' w' ∧ Step μ h w μ' h' w' ∧ ERel μ' e' a'

theorem opsA_sound (hC : CSound P C) {ops : Array Oper} {Q : Exit → Act → World → Prop} : ∀ (l : List Oper) (k : Nat) {μ : Mu} {e e' : Env} {h h' : Heap} {a : Act} {w : World}, ops.toList.drop k = l → l.all (operOk P) = true →
    opsA P C ops l e h = some (e', h') → P.globals.size ≤ h.n0 → bdL h.next e = true → HeapBd h → Sim μ h w → Free μ h h' → ERel μ e a → (∀ a' w', Behind μ h w e' h' a' w' → Q .normal a' w') → wpOps P ops Q (List.range' k l.length) a w
  | [], k, μ, e, e', h, h', a, w, _, _, he, _, _, _, S, _, r, hQ => by
    simp only [opsA, Option.some.injEq, Prod.mk.injEq] at he
    obtain ⟨rfl, rfl⟩ := he
    simp only [List.length_nil, List.range'_zero, wpOps]
    exact hQ a w ⟨μ, S, .same_world, r⟩
  | o :: l, k, μ, e, e', h, h', a, w, hd, hok, he, hg, hbe, hbh, S, hf, r, hQ => by
    simp only [opsA] at he
    simp only [List.all_cons, Bool.and_eq_true] at hok
    have hko : ops[k]? = some o := by
      have : ops.toList[k]? = some o := by
        have := congrArg (fun l => l[0]?) hd
        simpa using this
      simpa using this
    have hd' : ops.toList.drop (k + 1) = l := by
      have := congrArg (List.drop 1) hd
      rw [List.drop_drop] at this
      simpa [Nat.add_comm] using this
    split at he
    · rename_i e1 h1 hs
      unfold stepA at hs
      simp only [List.length_cons, List.range'_succ, wpOps, hko, want_rel (ops := ops) r] at hs ⊢
      by_cases hw : Region.wanted o (yielded ops a.tmps) = true
      · rw [if_pos hw] at hs ⊢
        split at hs
        · rename_i v h1' hop
          simp only [Option.some.injEq, Prod.mk.injEq] at hs
          obtain ⟨rfl, rfl⟩ := hs
          have hgr := opA_grow hC hop
          have hgr2 : ∀ (l : List Oper) {e e' : Env} {h h' : Heap}, opsA P C ops l e h = some (e', h') → Grow h h' := by
            intro l
            induction l with
            | nil => intro e e' h h' he; simp only [opsA, Option.some.injEq, Prod.mk.injEq] at he; obtain ⟨_, rfl⟩ := he; exact Grow.refl _
            | cons o l ih =>
              intro e e' h h' he
              simp only [opsA] at he
              split at he
              · rename_i e1 h1 hs
                unfold stepA at hs
                split at hs
                · split at hs
                  · rename_i v hv hop; cases hs; exact (opA_grow hC hop).trans (ih he)
                  · cases hs
                · cases hs; exact ih he
              · cases he
          have hgr3 := hgr2 _ he
          have hbo : ∀ x ∈ o.op.operands.toList, bdV h.next (ev e x) = true := fun x hx => bd_ev hg hbe (List.all_eq_true.1 hok.1 x hx)
          obtain ⟨hbv, hbh1⟩ := opA_bd hC hbh hbo hop
          refine .inl (opA_sound hC (ρ := ev e) S (hf.first hgr3.1) (fun x hx => ev_rel S hg r (List.all_eq_true.1 hok.1 x hx)) hg (fun _ _ _ _ => ⟨hbo, hbh⟩) hop _ _ ?_)
          intro μ1 v' w1 hS hSt hv
          refine opsA_sound hC l (k + 1) hd' hok.2 he (by rw [hgr.2.1]; exact hg) (bd_putD (bdL_mono hgr.1 hbe) hbv) hbh1 hS (hf.second hSt) ((r.mono (hSt.mono (hf.first hgr3.1))).put o.dst hv) ?_
          rintro a' w' ⟨μ2, hS2, hSt2, r2⟩
          exact hQ a' w' ⟨μ2, hS2, hSt.trans hSt2, r2⟩
        · cases hs
      · rw [if_neg hw] at hs ⊢
        simp only [Option.some.injEq, Prod.mk.injEq] at hs
        obtain ⟨rfl, rfl⟩ := hs
        exact opsA_sound hC l (k + 1) hd' hok.2 he hg (bd_putD hbe rfl) hbh S hf (r.put o.dst undef_rel) hQ
    · cases he

theorem region_seq_sound (hC : CSound P C) {id : Nat} {ops : Array Oper} {Q : Exit → Act → World → Prop} {μ : Mu} {e e' : Env} {h h' : Heap} {a : Act} {w : World} (hok : ops.toList.all (operOk P) = true)
    (he : opsA P C ops ops.toList e h = some (e', h')) (hg : P.globals.size ≤ h.n0) (hbe : bdL h.next e = true) (hbh : HeapBd h) (S : Sim μ h w) (hf : Free μ h h') (r : ERel μ e a) (hQ : ∀ a' w', Behind μ h w e' h' a' w' → Q .normal a' w') :
    (Code.region id ops false).wp P Q a w := by
  refine wp_region ?_
  have := opsA_sound hC (ops := ops) (Q := Q) ops.toList 0 rfl hok he hg hbe hbh S hf r hQ
  rwa [Array.length_toList, ← List.range_eq_range'] at this

end ops
end Go.Abs
