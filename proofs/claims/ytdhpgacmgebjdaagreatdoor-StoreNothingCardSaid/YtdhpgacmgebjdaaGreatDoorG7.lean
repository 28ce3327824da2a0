/-
  The abstract machine: code and bodies do what the evaluator says.
  Conditions: the calls' summaries are sound (CSound); the program follows the mixed orders.
  The abstract machine in passing style: the code with what comes behind it, as the walk's texts are printed; it says what codeA says.
  Conditions: none (definitions and lemmas).
  The abstract machine: a function's body run is the function called; contracts; what a run leaves behind unseen is dropped and what is left is numbered anew.
  Conditions: as each theorem states.
  The abstract machine: contracts of functions, and how one is shown of a function's body.
  Conditions: as each theorem states.
  The abstract machine's operations with their types resolved: the words of the printed texts.
  Conditions: none (definitions).
  The abstract machine in passing style once more, over environments that only grow, and by bare recursors: the form that the kernel reduces well.
  Conditions: none (definitions and lemmas).
  The abstract machine: rules for reading the printed texts.
  Conditions: none (lemmas).
-/
import Derived.Test.YtdhpgacmgebjdaaGreatDoorG6
import Derived.LoopNIn
namespace Go.Abs
noncomputable section

def exOf : Ex → Exit
  | .normal => .normal
  | .ret => .ret
  | .exit i => .exit i

section code
variable {P : Program} {C : CallF}

theorem endLoopA_some {l : Nat} {e e' : Env} {h h' : Heap} {x : Ex} (he : endLoopA l e h = some (x, e', h')) :
    ∃ st pend tmps params assign body, h.getB l = some (.obj (.loop st pend tmps params assign body)) ∧ st ≠ .busy ∧ x = pend.getD .normal ∧ e' = e ∧ h' = h.setO l (.loop .exhausted pend tmps params assign body) := by
  unfold endLoopA at he
  split at he
  · rename_i st pend tmps params assign body hg
    split at he
    · cases he
    · rename_i hb
      cases he
      exact ⟨st, pend, tmps, params, assign, body, hg, hb, rfl, rfl, rfl⟩
  · cases he
theorem rangeA_some {g : Operand} {params : Array Tmp} {assign body : Code} {e e' : Env} {h h' : Heap} {x : Ex} (he : codeA P C (.rangeFunc g params assign body) e h = some (x, e', h')) :
    ∃ i first captured v h2, ev e g = .func (.func i) first captured ∧ (∃ fn, P.funcs[i]? = some fn ∧ (fn.name == "runtime.NumGoroutine") = false ∧ fn.body.isNone = false) ∧
      C i (first.toList ++ [.func (.yield h.next) #[] #[]] ++ captured.toList) (h.allocB (.obj (.loop .ready none e params.toList assign body))) = some (v, h2) ∧ endLoopA h.next e h2 = some (x, e', h') := by
  simp only [codeA] at he
  split at he
  · rename_i i first captured hev
    split at he
    · rename_i hi
      split at he
      · rename_i v h2 hc
        refine ⟨i, first, captured, v, h2, hev, ?_, hc, he⟩
        unfold hasBody at hi
        split at hi
        · rename_i fn hf
          rw [Bool.and_eq_true, Bool.not_eq_true'] at hi
          exact ⟨fn, hf, hi.2, by rw [Option.isNone_eq_false_iff]; exact hi.1⟩
        · cases hi
      · cases he
    · cases he
  · cases he

theorem opsA_grow (hC : CSound P C) {ops : Array Oper} : ∀ (l : List Oper) {e e' : Env} {h h' : Heap}, opsA P C ops l e h = some (e', h') → Grow h h'
  | [], e, e', h, h', he => by simp only [opsA, Option.some.injEq, Prod.mk.injEq] at he; obtain ⟨_, rfl⟩ := he; exact Grow.refl _
  | o :: l, e, e', h, h', he => by
    simp only [opsA] at he
    split at he
    · rename_i e1 h1 hs
      unfold stepA at hs
      split at hs
      · split at hs
        · rename_i v hv hop; cases hs; exact (opA_grow hC hop).trans (opsA_grow hC l he)
        · cases hs
      · cases hs; exact opsA_grow hC l he
    · cases he

theorem regionA_grow (hC : CSound P C) {ops : Array Oper} {d : Bool} {e e' : Env} {h h' : Heap} (he : regionA P C ops d e h = some (e', h')) : Grow h h' := by
  unfold regionA at he
  split at he
  · split at he
    · split at he
      · rename_i tr e1 h1 htr
        split at he
        · simp only [Option.some.injEq, Prod.mk.injEq] at he
          obtain ⟨rfl, rfl⟩ := he
          obtain ⟨E, H, V, R, e0, h0, en, hn, T, _⟩ := trace_tra htr
          rw [← h0, ← hn]
          exact T.grow hC (Nat.zero_le _) (Nat.le_refl _)
        · cases he
      · cases he
    · cases he
  · exact opsA_grow hC _ he

theorem iter_grow {step : Env → Heap → Option (Ex × Env × Heap)} (hs : ∀ e h x e' h', step e h = some (x, e', h') → Grow h h') : ∀ (n : Nat) {e e' : Env} {h h' : Heap} {x : Ex}, iter step n e h = some (x, e', h') → Grow h h'
  | 0, e, e', h, h', x, he => by cases he
  | n + 1, e, e', h, h', x, he => by
    simp only [iter] at he
    split at he
    · rename_i e1 h1 h2; exact (hs _ _ _ _ _ h2).trans (iter_grow hs n he)
    · exact hs _ _ _ _ _ he

theorem codeA_grow (hC : CSound P C) : ∀ (c : Code) {e e' : Env} {h h' : Heap} {x : Ex}, codeA P C c e h = some (x, e', h') → Grow h h'
  | .skip, e, e', h, h', x, he => by simp only [codeA, Option.some.injEq, Prod.mk.injEq] at he; obtain ⟨_, _, rfl⟩ := he; exact Grow.refl _
  | .region _ ops d, e, e', h, h', x, he => by
    simp only [codeA] at he
    split at he
    · rename_i e1 h1 h2; cases he; exact regionA_grow hC h2
    · cases he
  | .seq a b, e, e', h, h', x, he => by
    simp only [codeA] at he
    split at he
    · rename_i e1 h1 h2; exact (codeA_grow hC a h2).trans (codeA_grow hC b he)
    · exact codeA_grow hC a he
  | .cond c a b, e, e', h, h', x, he => by
    simp only [codeA] at he
    split at he
    · exact codeA_grow hC a he
    · exact codeA_grow hC b he
    · cases he
  | .block i b, e, e', h, h', x, he => by
    simp only [codeA] at he
    split at he
    · rename_i j e1 h1 h2
      simp only [Option.some.injEq, Prod.mk.injEq] at he
      obtain ⟨_, _, rfl⟩ := he
      exact codeA_grow hC b h2
    · exact codeA_grow hC b he
  | .loop b, e, e', h, h', x, he => by
    simp only [codeA] at he
    exact iter_grow (fun _ _ _ _ _ h => codeA_grow hC b h) _ he
  | .exit _, e, e', h, h', x, he => by simp only [codeA, Option.some.injEq, Prod.mk.injEq] at he; obtain ⟨_, _, rfl⟩ := he; exact Grow.refl _
  | .scope b, e, e', h, h', x, he => by simp only [codeA] at he; exact codeA_grow hC b he
  | .label _, e, e', h, h', x, he => by simp only [codeA, Option.some.injEq, Prod.mk.injEq] at he; obtain ⟨_, _, rfl⟩ := he; exact Grow.refl _
  | .ret, e, e', h, h', x, he => by simp only [codeA, Option.some.injEq, Prod.mk.injEq] at he; obtain ⟨_, _, rfl⟩ := he; exact Grow.refl _
  | .goto _, e, e', h, h', x, he => by cases he
  | .rangeFunc .., e, e', h, h', x, he => by
    obtain ⟨i, first, captured, v, h2, _, _, hc, hl⟩ := rangeA_some he
    obtain ⟨_, _, _, _, _, _, _, _, _, _, rfl⟩ := endLoopA_some hl
    exact ((Grow.allocO _ _).trans (hC.grow _ _ _ _ _ hc)).trans (Grow.setO _ _ _)
  | .refuse _, e, e', h, h', x, he => by cases he

theorem opsA_bd (hC : CSound P C) {ops : Array Oper} : ∀ (l : List Oper) {e e' : Env} {h h' : Heap}, l.all (operOk P) = true → P.globals.size ≤ h.n0 → bdL h.next e = true → HeapBd h → opsA P C ops l e h = some (e', h') → bdL h'.next e' = true ∧ HeapBd h'
  | [], e, e', h, h', _, _, he, hh, h1 => by simp only [opsA, Option.some.injEq, Prod.mk.injEq] at h1; obtain ⟨rfl, rfl⟩ := h1; exact ⟨he, hh⟩
  | o :: l, e, e', h, h', hok, hg, he, hh, h1 => by
    simp only [List.all_cons, Bool.and_eq_true] at hok
    simp only [opsA] at h1
    split at h1
    · rename_i e1 h2 hs
      unfold stepA at hs
      split at hs
      · split at hs
        · rename_i v hv hop
          cases hs
          have hgr := opA_grow hC hop
          obtain ⟨g1, g2⟩ := opA_bd hC hh (fun x hm => bd_ev hg he (List.all_eq_true.1 hok.1 x hm)) hop
          exact opsA_bd hC l hok.2 (by rw [hgr.2.1]; exact hg) (bd_putD (bdL_mono hgr.1 he) g1) g2 h1
        · cases hs
      · cases hs; exact opsA_bd hC l hok.2 hg (bd_putD he rfl) hh h1
    · cases h1

theorem regionA_bd (hC : CSound P C) {ops : Array Oper} {d : Bool} {e e' : Env} {h h' : Heap} (hok : ops.toList.all (operOk P) = true) (hg : P.globals.size ≤ h.n0) (hbe : bdL h.next e = true) (hbh : HeapBd h)
    (he : regionA P C ops d e h = some (e', h')) : bdL h'.next e' = true ∧ HeapBd h' := by
  unfold regionA at he
  split at he
  · split at he
    · split at he
      · rename_i tr e1 h1 htr
        split at he
        · simp only [Option.some.injEq, Prod.mk.injEq] at he
          obtain ⟨rfl, rfl⟩ := he
          obtain ⟨E, H, V, R, e0, h0, en, hn, T, _⟩ := trace_tra htr
          rw [← en, ← hn]
          exact T.bd hC (by rw [h0]; exact hg) (fun p x hx => List.all_eq_true.1 hok x.2 (by rw [Array.mem_toList_iff]; exact Array.mem_of_getElem? (mem_late.1 (List.mem_of_getElem? hx)))) (by rw [h0, e0]; exact hbe) (by rw [h0]; exact hbh) _ (Nat.le_refl _)
        · cases he
      · cases he
    · cases he
  · exact opsA_bd hC _ hok hg hbe hbh he

theorem iter_bd (hC : CSound P C) {b : Code} (hb : ∀ e h x e' h', P.globals.size ≤ h.n0 → bdL h.next e = true → HeapBd h → codeA P C b e h = some (x, e', h') → bdL h'.next e' = true ∧ HeapBd h') :
    ∀ (n : Nat) {e e' : Env} {h h' : Heap} {x : Ex}, P.globals.size ≤ h.n0 → bdL h.next e = true → HeapBd h → iter (codeA P C b) n e h = some (x, e', h') → bdL h'.next e' = true ∧ HeapBd h'
  | 0, e, e', h, h', x, _, _, _, he => by cases he
  | n + 1, e, e', h, h', x, hg, hbe, hbh, he => by
    simp only [iter] at he
    split at he
    · rename_i e1 h1 h2
      obtain ⟨g1, g2⟩ := hb _ _ _ _ _ hg hbe hbh h2
      exact iter_bd hC hb n (by rw [(codeA_grow hC b h2).2.1]; exact hg) g1 g2 he
    · exact hb _ _ _ _ _ hg hbe hbh he

theorem codeA_bd (hC : CSound P C) : ∀ (c : Code) {e e' : Env} {h h' : Heap} {x : Ex}, codeOk P c = true → P.globals.size ≤ h.n0 → bdL h.next e = true → HeapBd h → codeA P C c e h = some (x, e', h') → bdL h'.next e' = true ∧ HeapBd h'
  | .skip, e, e', h, h', x, _, _, hbe, hbh, he => by simp only [codeA, Option.some.injEq, Prod.mk.injEq] at he; obtain ⟨_, rfl, rfl⟩ := he; exact ⟨hbe, hbh⟩
  | .region _ ops d, e, e', h, h', x, hok, hg, hbe, hbh, he => by
    simp only [codeOk] at hok
    simp only [codeA] at he
    split at he
    · rename_i e1 h1 h2; cases he; exact regionA_bd hC hok hg hbe hbh h2
    · cases he
  | .seq a b, e, e', h, h', x, hok, hg, hbe, hbh, he => by
    simp only [codeOk, Bool.and_eq_true] at hok
    simp only [codeA] at he
    split at he
    · rename_i e1 h1 h2
      obtain ⟨g1, g2⟩ := codeA_bd hC a hok.1 hg hbe hbh h2
      exact codeA_bd hC b hok.2 (by rw [(codeA_grow hC a h2).2.1]; exact hg) g1 g2 he
    · exact codeA_bd hC a hok.1 hg hbe hbh he
  | .cond c a b, e, e', h, h', x, hok, hg, hbe, hbh, he => by
    simp only [codeOk, Bool.and_eq_true] at hok
    simp only [codeA] at he
    split at he
    · exact codeA_bd hC a hok.1.2 hg hbe hbh he
    · exact codeA_bd hC b hok.2 hg hbe hbh he
    · cases he
  | .block i b, e, e', h, h', x, hok, hg, hbe, hbh, he => by
    simp only [codeOk] at hok
    simp only [codeA] at he
    split at he
    · rename_i j e1 h1 h2
      simp only [Option.some.injEq, Prod.mk.injEq] at he
      obtain ⟨_, rfl, rfl⟩ := he
      exact codeA_bd hC b hok hg hbe hbh h2
    · exact codeA_bd hC b hok hg hbe hbh he
  | .loop b, e, e', h, h', x, hok, hg, hbe, hbh, he => by
    simp only [codeOk] at hok
    simp only [codeA] at he
    exact iter_bd hC (fun _ _ _ _ _ h1 h2 h3 h4 => codeA_bd hC b hok h1 h2 h3 h4) _ hg hbe hbh he
  | .exit _, e, e', h, h', x, _, _, hbe, hbh, he => by simp only [codeA, Option.some.injEq, Prod.mk.injEq] at he; obtain ⟨_, rfl, rfl⟩ := he; exact ⟨hbe, hbh⟩
  | .scope b, e, e', h, h', x, hok, hg, hbe, hbh, he => by simp only [codeOk] at hok; simp only [codeA] at he; exact codeA_bd hC b hok hg hbe hbh he
  | .label _, e, e', h, h', x, _, _, hbe, hbh, he => by simp only [codeA, Option.some.injEq, Prod.mk.injEq] at he; obtain ⟨_, rfl, rfl⟩ := he; exact ⟨hbe, hbh⟩
  | .ret, e, e', h, h', x, _, _, hbe, hbh, he => by simp only [codeA, Option.some.injEq, Prod.mk.injEq] at he; obtain ⟨_, rfl, rfl⟩ := he; exact ⟨hbe, hbh⟩
  | .goto _, e, e', h, h', x, _, _, _, _, he => by cases he
  | .rangeFunc g params assign body, e, e', h, h', x, hok, hg, hbe, hbh, he => by
    simp only [codeOk] at hok
    obtain ⟨i, first, captured, v, h2, hev, hi, hc, hl⟩ := rangeA_some he
    obtain ⟨st, pend, tmps, ps, as, bo, hgl, _, _, rfl, rfl⟩ := endLoopA_some hl
    have hv := bd_ev hg hbe hok
    rw [hev] at hv
    obtain ⟨lf⟩ := first
    obtain ⟨lc⟩ := captured
    simp only [bdV, Bool.and_eq_true] at hv
    have hal : HeapBd (h.allocB (.obj (.loop .ready none e' params.toList assign body))) := hbh.allocO (bdL_mono (Nat.le_succ _) hbe)
    obtain ⟨h3, h4⟩ := hC.bd _ _ _ _ _ hc (bdL_append (bdL_append (bdL_mono (by simp) hv.2.1) (by simp [bdL, bdV, bdF])) (bdL_mono (by simp) hv.2.2)) hal
    have hgr := hC.grow _ _ _ _ _ hc
    have hob := h4.obj _ _ hgl
    refine ⟨bdL_mono ?_ hbe, h4.setO (h2.n0_of_obj hgl) hgl hob⟩
    have := hgr.1
    simp only [Heap.next_allocB] at this
    simp only [Heap.next_setO]; omega
  | .refuse _, e, e', h, h', x, _, _, _, _, he => by cases he

/-- The marks of the loops over functions that a frame has run. -/
def marksOf (rs : List Nat) : List Deferred := rs.map fun r => { target := .collected r, args := #[] }
structure Marks (s : Nat) (μ : Mu) (h : Heap) (w : World) (rs : List Nat) : Prop where
  dup : rs.Nodup
  at_ : ∀ r ∈ rs, s ≤ r ∧ w.heap[r]? = some (.deferred (some [])) ∧ ¬ Own μ h r
theorem Marks.step {s : Nat} {μ μ' : Mu} {h h' : Heap} {w w' : World} {rs : List Nat} (m : Marks s μ h w rs) (st : Step μ h w μ' h' w') : Marks s μ' h' w' rs := by
  refine ⟨m.dup, fun r hr => ?_⟩
  obtain ⟨h1, h2, h3⟩ := m.at_ r hr
  have hlt := (Array.getElem?_eq_some_iff.1 h2).1
  refine ⟨h1, by rw [st.same r hlt h3]; exact h2, fun ho => ?_⟩
  rcases st.own r ho with h4 | h4
  · exact h3 h4
  · omega
/-- The loop whose round a frame runs has its record. -/
def RoOk (ro : Option Nat) (w : World) : Prop := ∀ l, ro = some l → ∃ r, w.heap[l]? = some (Obj.loop r)
theorem RoOk.step {ro : Option Nat} {μ μ' : Mu} {h h' : Heap} {w w' : World} (m : RoOk ro w) (st : Step μ h w μ' h' w') : RoOk ro w' := fun l hl => by
  obtain ⟨r, hr⟩ := m l hl
  exact st.loops l r hr

/-- What is shown behind a piece of code. -/
def BehindM (s : Nat) (μ : Mu) (h : Heap) (w : World) (e' : Env) (h' : Heap) (a' : Act) (w' : World) : Prop :=
  ∃ μ' rs, Sim μ' h' w' ∧ Step μ h w μ' h' w' ∧ ERel (marksOf rs) μ' e' a' ∧ Marks s μ' h' w' rs

/-- What is shown of a piece of code. -/
def CodeGood (P : Program) (C : CallF) (c : Code) : Prop :=
  ∀ (ro : Option Nat) (nd s : Nat) (rs : List Nat) (e e' : Env) (h h' : Heap) (x : Ex) (μ : Mu) (a : Act) (w : World) (Q : Exit → Act → World → Prop), codeA P C c e h = some (x, e', h') → P.globals.size ≤ h.n0 → bdL h.next e = true → HeapBd h → Sim μ h w → Free μ h h' →
    ERel (marksOf rs) μ e a → Marks s μ h w rs → s ≤ w.heap.size → RoOk ro w → (∀ a' w', BehindM s μ h w e' h' a' w' → Q (exOf x) a' w') → c.wpIn (Fr ro) nd P Q a w

theorem BehindM.trans {s : Nat} {μ μ1 : Mu} {h h1 h2 : Heap} {w w1 w2 : World} {e2 : Env} {a2 : Act} (st : Step μ h w μ1 h1 w1) (b : BehindM s μ1 h1 w1 e2 h2 a2 w2) : BehindM s μ h w e2 h2 a2 w2 := by
  obtain ⟨μ2, rs, hS, hSt, hr, hm⟩ := b
  exact ⟨μ2, rs, hS, st.trans hSt, hr, hm⟩
theorem Behind.m {s : Nat} {rs : List Nat} {μ : Mu} {h h' : Heap} {w w' : World} {e' : Env} {a' : Act} (m : Marks s μ h w rs) (b : Behind (marksOf rs) μ h w e' h' a' w') : BehindM s μ h w e' h' a' w' := by
  obtain ⟨μ', hS, hSt, hr⟩ := b
  exact ⟨μ', rs, hS, hSt, hr, m.step hSt⟩

theorem roundsIn_succ' {F : Fence} {n : Nat} {Q : Exit → Act → World → Prop} {c : Code} (k : Nat) (a : Act) (w : World) : Code.roundsIn F n P c Q (k + 1) a w = c.wpIn F n P (Exit.then (Code.roundsIn F n P c Q k) Q) a w := rfl

theorem iter_good (hC : CSound P C) {b : Code} (hb : CodeGood P C b)
    (hbd : ∀ e h x e' h', P.globals.size ≤ h.n0 → bdL h.next e = true → HeapBd h → codeA P C b e h = some (x, e', h') → bdL h'.next e' = true ∧ HeapBd h') : ∀ (n : Nat) {e e' : Env} {h h' : Heap} {x : Ex} {ro : Option Nat} {nd s : Nat} {rs : List Nat} {μ : Mu} {a : Act} {w : World} {Q : Exit → Act → World → Prop}, iter (codeA P C b) n e h = some (x, e', h') →
    P.globals.size ≤ h.n0 → bdL h.next e = true → HeapBd h → Sim μ h w → Free μ h h' → ERel (marksOf rs) μ e a → Marks s μ h w rs → s ≤ w.heap.size → RoOk ro w → (∀ a' w', BehindM s μ h w e' h' a' w' → Q (exOf x) a' w') → Code.roundsIn (Fr ro) nd P b Q n a w
  | 0, _, _, _, _, _, _, _, _, _, _, _, _, _, he, _, _, _, _, _, _, _, _, _, _ => by cases he
  | n + 1, e, e', h, h', x, ro, nd, s, rs, μ, a, w, Q, he, hg, hbe, hbh, S, hf, r, hmk, hsz, hro, hQ => by
    rw [roundsIn_succ']
    simp only [iter] at he
    split at he
    · rename_i e1 h1 h2
      have hgr := codeA_grow hC b h2
      have hgr2 := iter_grow (fun _ _ _ _ _ h => codeA_grow hC b h) _ he
      refine hb _ _ s rs _ _ _ _ _ _ _ _ _ h2 hg hbe hbh S (hf.first hgr2.1) r hmk hsz hro ?_
      rintro a1 w1 ⟨μ1, rs1, hS, hSt, hr, hmk1⟩
      exact iter_good hC hb hbd n he (by rw [hgr.2.1]; exact hg) (hbd _ _ _ _ _ hg hbe hbh h2).1 (hbd _ _ _ _ _ hg hbe hbh h2).2 hS (hf.second hSt) hr hmk1 (Nat.le_trans hsz hSt.size) (hro.step hSt) (fun a' w' hb' => hQ a' w' (hb'.trans hSt))
    · rename_i hne
      refine hb _ _ s rs _ _ _ _ _ _ _ _ _ he hg hbe hbh S hf r hmk hsz hro ?_
      intro a1 w1 hb1
      have hq := hQ a1 w1 hb1
      cases x with
      | normal => exact absurd he (hne _ _)
      | ret => exact hq
      | exit i => exact hq

theorem run_enterLoop_in {w : World} {l₀ : Nat} {r₀ : Loop} (fn : FuncId) (tmps : Array Value) (ps : Array Tmp) (assign body : Code) (hr : w.heap[l₀]? = some (Obj.loop r₀)) :
    (Instr.enterLoop fn tmps ps assign body (some l₀)).run P w =
      .ok (w.heap.size, []) (w.alloc (.loop { state := .ready, pending := none, fn, tmps, params := ps, assign, body, defers := r₀.defers })) := by
  unfold Instr.enterLoop
  simp only [bind_assoc, pure_bind, Sem.run_bind, run_getLoop hr, run_newObj_alloc, Result.andThen, Sem.run_pure]

section scope
variable {b : Frame} {a : Act} {k : List Item} {cs : List Frame} {w : World}
theorem stepR_scope {c : Code} : step P (lone (b.atR a (.code (.scope c) :: k)) cs w) = .next (lone (b.atR a (.code c :: .inScope c :: k)) cs w) :=
  step_lone_go (by simp [stepG, stepG.exec, Frame.atR])
theorem stepR_inScope {c : Code} : step P (lone (b.atR a (.inScope c :: k)) cs w) = .next (lone (b.atR a k) cs w) :=
  step_lone_go (by simp [stepG, stepG.exec, Frame.atR])
theorem wpIn_scope_straight {F : Fence} {n : Nat} {Q : Exit → Act → World → Prop} {c : Code} (h : c.wpIn F n P (Exit.noGoto Q) a w) : (Code.scope c).wpIn F n P Q a w := by
  intro b k cs hro hb hr
  have h0 : (lone (b.atR a (.code (.scope c) :: k)) cs w).fenced P F := fenced_calm hb hr rfl
  obtain ⟨e, a₁, w₁, hq, harr⟩ := h b (.inScope c :: k) cs hro hb hr
  cases e with
  | normal => exact ⟨.normal, a₁, w₁, hq, .head h0 stepR_scope (StepsIn.trans harr (.one (fenced_calm hb hr rfl) stepR_inScope))⟩
  | exit id =>
    have hx : exitTo id (.inScope c :: k) = exitTo id k := by simp [exitTo]
    exact ⟨.exit id, a₁, w₁, hq, fun k' hk => .head h0 stepR_scope (harr.1 k' (by rw [hx]; exact hk)),
      fun hr' hk => let ⟨k₁, h1, h2⟩ := harr.2 hr' (by rw [hx]; exact hk); ⟨k₁, h1, .head h0 stepR_scope h2⟩⟩
  | goto l => exact hq.elim
  | ret => exact ⟨_, a₁, w₁, hq, .of_steps (.one h0 stepR_scope) harr⟩
  | panic ch => exact ⟨_, a₁, w₁, hq, .of_steps (.one h0 stepR_scope) harr⟩
  | outgrown => exact ⟨_, a₁, w₁, hq, .of_steps (.one h0 stepR_scope) harr⟩
end scope

theorem code_of_ex {F : Fence} {n : Nat} {Q : Exit → Act → World → Prop} {a : Act} {w : World} {x : Ex} (h : Q (exOf x) a w) : (exCode x).wpIn F n P Q a w := by
  cases x with
  | normal => exact wpIn_skip h
  | ret => exact wpIn_ret h
  | exit i => exact wpIn_exit h

theorem range_good (hC : CSound P C) {g : Operand} {params : Array Tmp} {assign body : Code} (hok : codeOk P (.rangeFunc g params assign body) = true) : CodeGood P C (.rangeFunc g params assign body) := by
  intro ro nd s rs e e' h h' x μ a w Q he hg hbe hbh S hf r hmk hsz hro hQ
  simp only [codeOk] at hok
  obtain ⟨i, first, captured, v, h2, hev, ⟨fn0, hfn, hname, hbody⟩, hc, hl⟩ := rangeA_some he
  have hi : i < P.funcs.size := (Array.getElem?_eq_some_iff.1 hfn).1
  obtain ⟨st, pend, tmps, ps, as, bo, hgl, hst, rfl, rfl, rfl⟩ := endLoopA_some hl
  have hgr := hC.grow _ _ _ _ _ hc
  have hgr1 : h.next + 1 ≤ h2.next := by have := hgr.1; simpa using this
  have hbv := bd_ev hg hbe hok
  have hal : HeapBd (h.allocB (.obj (.loop .ready none e' params.toList assign body))) := hbh.allocO (bdL_mono (Nat.le_succ _) hbe)
  have hrv := ev_rel S hg r hok
  rw [hev] at hbv hrv
  obtain ⟨fg, first', captured', hfe, hfg, hr1, hr2⟩ := hrv.func_iff
  cases hfg
  have hba : bdL (h.allocB (.obj (.loop .ready none e' params.toList assign body))).next (first.toList ++ [.func (.yield h.next) #[] #[]] ++ captured.toList) = true := by
    obtain ⟨lf⟩ := first
    obtain ⟨lc⟩ := captured
    simp only [bdV, Bool.and_eq_true] at hbv
    exact bdL_append (bdL_append (bdL_mono (by simp) hbv.2.1) (by simp [bdL, bdV, bdF])) (bdL_mono (by simp) hbv.2.2)
  have hfree1 : Free μ h (h.allocB (.obj (.loop .ready none e' params.toList assign body))) := fun b h1 h3 => hf b h1 (by simp at h3; simp only [Heap.next_setO]; omega)
  -- the rest, the record laid
  have main : ∀ (fn : FuncId) (l : Nat) (rs' : List Nat) (w1 : World) (ob : Loop), (Instr.enterLoop fn a.tmps params assign body ro).run P w = .ok (l, marksOf rs') w1 → w.heap.size ≤ l → w1.heap.size = l + 1 →
      (∀ C, C < w.heap.size → w1.heap[C]? = w.heap[C]?) → w1.heap[l]? = some (Obj.loop ob) → w1.os = w.os → w1.tape = w.tape → w1.output = w.output → w.drawn ≤ w1.drawn →
      ob.state = .ready → ob.pending = none → ob.tmps = a.tmps → ob.params = params → ob.assign = assign → ob.body = body →
      (∀ r ∈ rs', w.heap.size ≤ r ∧ r ≠ l ∧ w1.heap[r]? = some (.deferred (some []))) → rs'.Nodup →
      ∃ (l : Nat) (mark : List Deferred) (w₁ : World) (d : Deferred) (w₁' : World) (f : FuncId) (args : Array Value) (w₂ : World),
      (Instr.enterLoop fn a.tmps params assign body (Fr ro).round).run P w = .ok (l, mark) w₁ ∧
      (resolve a.eval (rangeCall g l) 0).run P w₁ = .ok d w₁' ∧
      (∀ f', Target.leads P w₁' d.target d.args = some f' → (Fr ro).fn f') ∧
      (invoke d.target d.args).run P w₁' = .ok (.enter f args) w₂ ∧
      ((Fr ro).depth.isSome = true → 1 ≤ nd) ∧
      CallsIn (Fr ro) (nd - 1) P f args w₂ (rangePost (Fr ro) nd P l Q { a with defers := mark ++ a.defers }) := by
    intro fn l rs' w1 ob hent hl1 hl2 hold hnew ho ht hp hdw q1 q2 q3 q4 q5 q6 hrs hnd
    obtain ⟨S1, St1⟩ := S.allocO (o := .loop .ready none e' params.toList assign body) hfree1 (ob := .loop ob) (w1 := w1) (B := l) ho ht hp hl1 hl2 hold hnew
      ⟨q1, by rw [q2]; rfl, by rw [q3]; exact r.1.mono (Mu.put_mono (hfree1 _ (Nat.le_refl _) (by simp))), by rw [q4], q5, q6⟩ hdw
    have hmono := Mu.put_mono (L := ⟨l, 0, 0, 0⟩) (hfree1 _ (Nat.le_refl _) (by simp))
    have hyl : VRel (μ.put h.next ⟨l, 0, 0, 0⟩) (.func (.yield h.next) #[] #[]) (.func (.yield l) #[] #[]) := .func ⟨_, Mu.put_same _ _ _, rfl⟩ rfl (by simp) rfl (by simp)
    have hall := ((hr1.mono hmono).append (LRel.cons hyl (LRel.nil _))).append (hr2.mono hmono)
    have hfree2 : Free (μ.put h.next ⟨l, 0, 0, 0⟩) (h.allocB (.obj (.loop .ready none e' params.toList assign body))) h2 := (Free.second (h'' := h2) (fun b h1 h3 => hf b h1 h3) St1)
    have hcalls := (hC.run _ _ _ _ _ hc hi hba hal (by simpa using hg) _ w1 _ S1 hfree2 hall).calls hfn hname hbody
    refine ⟨l, marksOf rs', w1, { target := .fn (.func i) captured', args := first' ++ #[.func (.yield l) #[] #[]] }, w1, i, _, w1, hent, ?_, fun _ _ => trivial, ?_, (fun h => by cases h), (calls_fr (r := ro) (n := nd - 1) hcalls).mono ?_⟩
    · unfold resolve
      simp only [hfe, Deferred.ofValue, List.map_toArray, List.map_cons, List.map_nil, show a.eval (.const (.func (.yield l) #[] #[])) = .func (.yield l) #[] #[] from rfl]
      rfl
    · simp only [invoke, callFunc, Sem.run_bind, run_program, Result.andThen_ok, hfn, hname, hbody, Bool.false_eq_true, if_false, Sem.run_pure]
      congr 2
      apply Array.ext'
      simp
    · rintro en w3 ⟨μ3, v3, rfl, S3, St3, hv3⟩
      -- the record behind the call
      have hμ3 : μ3 h.next = some ⟨l, 0, 0, 0⟩ := St3.mono hfree2 _ _ (Mu.put_same _ _ _)
      obtain ⟨L, ob3, g1, g2, g3, g4, g5⟩ := S3.obj h.next _ (h2.n0_of_obj hgl) hgl
      rw [hμ3] at g1; cases g1
      cases ob3 with
      | loop r3 =>
        obtain ⟨k1, k2, k3, k4, k5, k6⟩ := g3
        have hend : (Instr.endLoop l).run P w3 = .ok r3.pending (w3.putObj l (.loop { r3 with state := .exhausted })) := run_endLoop g2 (by rw [k1]; exact hst)
        refine ⟨r3.pending, _, hend, ?_⟩
        obtain ⟨S4, St4⟩ := S3.setO (o' := .loop .exhausted pend tmps ps as bo) (ob' := .loop { r3 with state := .exhausted }) hgl hμ3 ⟨rfl, k2, k3, k4, k5, k6⟩
        have StA := (St1.trans St3).trans St4
        have hq : Q (exOf (pend.getD .normal)) { a with defers := marksOf rs' ++ a.defers } (w3.putObj l (.loop { r3 with state := .exhausted })) := by
          refine hQ _ _ ⟨μ3, rs' ++ rs, S4, StA, ⟨?_, ?_⟩, ?_⟩
          · exact r.1.mono (StA.mono hf)
          · rw [r.2]; simp [marksOf]
          · have hm1 := hmk.step StA
            have hnew2 : ∀ r ∈ rs', ¬ Own μ h r := by
              rintro r hr ⟨b, k, L, o1, o2, o3, o4⟩
              obtain ⟨L2, ob2, p1, p2, p3⟩ := S.place o1 o2
              rw [p1] at o3; cases o3
              have := (Array.getElem?_eq_some_iff.1 p2).1
              have := (hrs r hr).1
              omega
            have own1 : ∀ r ∈ rs', ¬ Own (μ.put h.next ⟨l, 0, 0, 0⟩) (h.allocB (.obj (.loop .ready none e' params.toList assign body))) r := by
              rintro r hr ⟨b, k, L, o1, o2, o3, o4⟩
              rw [h.getB_allocB] at o2
              by_cases eb : b = h.next
              · subst eb
                rw [Mu.put_same] at o3
                cases o3
                exact (hrs r hr).2.1 o4.symm
              · rw [if_neg eb] at o2
                rw [Mu.put_other _ _ eb] at o3
                exact hnew2 r hr ⟨b, k, L, o1, o2, o3, o4⟩
            have mk1 : Marks s (μ.put h.next ⟨l, 0, 0, 0⟩) (h.allocB (.obj (.loop .ready none e' params.toList assign body))) w1 rs' :=
              ⟨hnd, fun r hr => ⟨Nat.le_trans hsz (hrs r hr).1, (hrs r hr).2.2, own1 r hr⟩⟩
            have mk2 := mk1.step (St3.trans St4)
            refine ⟨?_, fun r hr => ?_⟩
            · rw [List.nodup_append]
              refine ⟨hnd, hmk.dup, fun x hx y hy e => ?_⟩
              have h5 := (hrs x hx).1
              have h6 := (Array.getElem?_eq_some_iff.1 (hmk.at_ y hy).2.1).1
              omega
            · rcases List.mem_append.1 hr with h5 | h5
              · exact mk2.at_ r h5
              · exact hm1.at_ r h5
        generalize w3.putObj l (.loop { r3 with state := .exhausted }) = W at hq ⊢
        generalize r3.pending = q at k2 ⊢
        subst k2
        cases pend with
        | none => exact hq
        | some y => exact code_of_ex hq
      | _ => exact g3.elim
  refine wpIn_rangeFunc fun fn _ => ?_
  cases ro with
  | none =>
    refine main fn (w.heap.size + 1) [w.heap.size] _ _ (run_enterLoop_outer fn a.tmps params assign body) (Nat.le_succ _) (by simp) ?_ (by
      have := World.alloc_heap_new (w.alloc (.deferred (some []))) (.loop { state := .ready, pending := none, fn, tmps := a.tmps, params, assign, body, defers := w.heap.size })
      simpa using this) rfl rfl rfl (Nat.le_refl _) rfl rfl rfl rfl rfl rfl ?_ (by simp)
    · intro C hC
      rw [alloc_below _ _ _ (by simp; omega), alloc_below _ _ _ hC]
    · intro r hr
      rw [List.mem_singleton.1 hr]
      refine ⟨Nat.le_refl _, by omega, ?_⟩
      rw [alloc_below _ _ _ (by simp)]
      exact World.alloc_heap_new w _
  | some l₀ =>
    obtain ⟨r₀, hr₀⟩ := hro l₀ rfl
    exact main fn w.heap.size [] _ _ (run_enterLoop_in fn a.tmps params assign body hr₀) (Nat.le_refl _) (by simp) (fun C hC => alloc_below _ _ _ hC) (World.alloc_heap_new w _) rfl rfl rfl (Nat.le_refl _) rfl rfl rfl rfl rfl rfl (by simp) (by simp)

theorem codeA_sound (hC : CSound P C) (hm : P.follows .mixedOrders = true) : ∀ (c : Code), codeOk P c = true → CodeGood P C c
  | .skip, _ => by
    intro ro nd s rs e e' h h' x μ a w Q he hg hbe hbh S hf r hmk hsz hro hQ
    simp only [codeA, Option.some.injEq, Prod.mk.injEq] at he
    obtain ⟨rfl, rfl, rfl⟩ := he
    exact wpIn_skip (hQ a w ⟨μ, rs, S, .same_world, r, hmk⟩)
  | .region id ops d, hok => by
    intro ro nd s rs e e' h h' x μ a w Q he hg hbe hbh S hf r hmk hsz hro hQ
    simp only [codeOk] at hok
    simp only [codeA] at he
    split at he
    · rename_i e1 h1 h2
      cases he
      cases d with
      | true => exact region_draw_sound hC hm hok h2 hg hbe hbh S hf r (fun a' w' hb => hQ a' w' (hb.m hmk))
      | false => exact region_seq_sound hC hok (by simpa [regionA] using h2) hg hbe hbh S hf r (fun a' w' hb => hQ a' w' (hb.m hmk))
    · cases he
  | .seq b c, hok => by
    intro ro nd s rs e e' h h' x μ a w Q he hg hbe hbh S hf r hmk hsz hro hQ
    simp only [codeOk, Bool.and_eq_true] at hok
    simp only [codeA] at he
    refine wpIn_seq ?_
    split at he
    · rename_i e1 h1 h2
      have hgr := codeA_grow hC b h2
      have hgr2 := codeA_grow hC c he
      refine codeA_sound hC hm b hok.1 _ _ s rs _ _ _ _ _ _ _ _ _ h2 hg hbe hbh S (hf.first hgr2.1) r hmk hsz hro ?_
      rintro a1 w1 ⟨μ1, rs1, hS, hSt, hr, hmk1⟩
      exact codeA_sound hC hm c hok.2 _ _ s rs1 _ _ _ _ _ _ _ _ _ he (by rw [hgr.2.1]; exact hg) (codeA_bd hC b hok.1 hg hbe hbh h2).1 (codeA_bd hC b hok.1 hg hbe hbh h2).2 hS (hf.second hSt) hr hmk1 (Nat.le_trans hsz hSt.size) (hro.step hSt) (fun a' w' hb' => hQ a' w' (hb'.trans hSt))
    · rename_i hne
      refine codeA_sound hC hm b hok.1 _ _ s rs _ _ _ _ _ _ _ _ _ he hg hbe hbh S hf r hmk hsz hro ?_
      intro a1 w1 hb1
      have hq := hQ a1 w1 hb1
      cases x with
      | normal => exact absurd he (hne _ _)
      | ret => exact hq
      | exit i => exact hq
  | .cond c x y, hok => by
    intro ro nd s rs e e' h h' ex μ a w Q he hg hbe hbh S hf r hmk hsz hro hQ
    simp only [codeOk, Bool.and_eq_true] at hok
    simp only [codeA] at he
    have hv := ev_rel S hg r hok.1.1
    split at he
    · rename_i h1
      rw [h1] at hv
      exact wpIn_cond_true hv.bool (codeA_sound hC hm x hok.1.2 _ _ s rs _ _ _ _ _ _ _ _ _ he hg hbe hbh S hf r hmk hsz hro hQ)
    · rename_i h1
      rw [h1] at hv
      exact wpIn_cond_false hv.bool (codeA_sound hC hm y hok.2 _ _ s rs _ _ _ _ _ _ _ _ _ he hg hbe hbh S hf r hmk hsz hro hQ)
    · cases he
  | .block id b, hok => by
    intro ro nd s rs e e' h h' x μ a w Q he hg hbe hbh S hf r hmk hsz hro hQ
    simp only [codeOk] at hok
    simp only [codeA] at he
    refine wpIn_block ?_
    split at he
    · rename_i j e1 h1 h2
      simp only [Option.some.injEq, Prod.mk.injEq] at he
      obtain ⟨rfl, rfl, rfl⟩ := he
      refine codeA_sound hC hm b hok _ _ s rs _ _ _ _ _ _ _ _ _ h2 hg hbe hbh S hf r hmk hsz hro ?_
      intro a' w' hb'
      have hq := hQ a' w' hb'
      simp only [exOf, Exit.inBlock]
      by_cases hj : j = id
      · rw [if_pos hj] at hq ⊢; exact hq
      · rw [if_neg hj] at hq ⊢; exact hq
    · rename_i hne
      refine codeA_sound hC hm b hok _ _ s rs _ _ _ _ _ _ _ _ _ he hg hbe hbh S hf r hmk hsz hro ?_
      intro a' w' hb'
      have hq := hQ a' w' hb'
      cases x with
      | normal => exact hq
      | ret => exact hq
      | exit i => exact absurd he (hne _ _ _)
  | .loop b, hok => by
    intro ro nd s rs e e' h h' x μ a w Q he hg hbe hbh S hf r hmk hsz hro hQ
    simp only [codeOk] at hok
    simp only [codeA] at he
    exact wpIn_loop_rounds _ (iter_good hC (codeA_sound hC hm b hok) (fun _ _ _ _ _ h1 h2 h3 h4 => codeA_bd hC b hok h1 h2 h3 h4) _ he hg hbe hbh S hf r hmk hsz hro hQ)
  | .exit i, _ => by
    intro ro nd s rs e e' h h' x μ a w Q he hg hbe hbh S hf r hmk hsz hro hQ
    simp only [codeA, Option.some.injEq, Prod.mk.injEq] at he
    obtain ⟨rfl, rfl, rfl⟩ := he
    exact wpIn_exit (hQ a w ⟨μ, rs, S, .same_world, r, hmk⟩)
  | .scope b, hok => by
    intro ro nd s rs e e' h h' x μ a w Q he hg hbe hbh S hf r hmk hsz hro hQ
    simp only [codeOk] at hok
    simp only [codeA] at he
    refine wpIn_scope_straight (codeA_sound hC hm b hok _ _ s rs _ _ _ _ _ _ _ _ _ he hg hbe hbh S hf r hmk hsz hro ?_)
    intro a' w' hb'
    have hq := hQ a' w' hb'
    cases x <;> exact hq
  | .label _, _ => by
    intro ro nd s rs e e' h h' x μ a w Q he hg hbe hbh S hf r hmk hsz hro hQ
    simp only [codeA, Option.some.injEq, Prod.mk.injEq] at he
    obtain ⟨rfl, rfl, rfl⟩ := he
    exact wpIn_label (hQ a w ⟨μ, rs, S, .same_world, r, hmk⟩)
  | .ret, _ => by
    intro ro nd s rs e e' h h' x μ a w Q he hg hbe hbh S hf r hmk hsz hro hQ
    simp only [codeA, Option.some.injEq, Prod.mk.injEq] at he
    obtain ⟨rfl, rfl, rfl⟩ := he
    exact wpIn_ret (hQ a w ⟨μ, rs, S, .same_world, r, hmk⟩)
  | .goto _, hok => by simp [codeOk] at hok
  | .rangeFunc g params assign body, hok => range_good hC hok
  | .refuse _, hok => by simp [codeOk] at hok

theorem resultsA_grow {rs : List ResultVar} {e : Env} {h h' : Heap} {v : Value} (he : resultsA P rs e h = some (v, h')) : h' = h := by
  unfold resultsA at he
  split at he
  · simp only [Option.map_eq_some_iff, Prod.mk.injEq] at he; obtain ⟨_, _, _, rfl⟩ := he; rfl
  · simp only [Option.map_eq_some_iff, Prod.mk.injEq] at he; obtain ⟨_, _, _, rfl⟩ := he; rfl

def resV (tmps : Array Value) : ResultVar → Sem Value
  | .tmp t => pure (tmps.getD t undef)
  | .cell b t => do loadVar t (← asAddr (tmps.getD b undef))
theorem results_eq (fn : Func) (tmps : Array Value) : results fn tmps = (do let vs ← fn.results.mapM (resV tmps); pure (if h : vs.size = 1 then vs[0] else .tuple vs)) := rfl

theorem resultA_sound {D : List Deferred} {μ : Mu} {h : Heap} {w : World} {e : Env} {a : Act} (S : Sim μ h w) (r : ERel D μ e a) {x : ResultVar} {v : Value} (hv : resultA P x e h = some v) :
    ∃ v', (resV a.tmps x).run P w = .ok v' w ∧ VRel μ v v' := by
  cases x with
  | tmp t =>
    simp only [resultA, Option.some.injEq] at hv
    subst hv
    refine ⟨_, rfl, ?_⟩
    have := r.1.getD t
    simpa using this
  | cell b t =>
    simp only [resultA, Option.map_eq_some_iff] at hv
    obtain ⟨⟨v1, h1⟩, hl, rfl⟩ := hv
    have hr : VRel μ (e.getD b undef) (a.tmps.getD b undef) := by have := r.1.getD b; simpa using this
    obtain ⟨_, r', hrun, hv'⟩ := ld_sound S hr hl
    refine ⟨r', ?_, hv'⟩
    simp only [resV, Instr.loadAt, Sem.run_bind] at hrun ⊢
    cases hx : a.tmps.getD b undef with
    | pointer p =>
      rw [hx] at hrun
      cases p with
      | none => simp [Instr.sureAddr] at hrun
      | some q => simpa [Instr.sureAddr, asAddr] using hrun
    | _ => rw [hx] at hrun; simp [Instr.sureAddr] at hrun

theorem mapM_rel {D : List Deferred} {μ : Mu} {h : Heap} {w : World} {e : Env} {a : Act} (S : Sim μ h w) (r : ERel D μ e a) : ∀ {rs : List ResultVar} {vs : List Value}, rs.mapM (fun r => resultA P r e h) = some vs →
    ∃ vs', (rs.mapM (resV a.tmps)).run P w = .ok vs' w ∧ LRel μ vs vs'
  | [], vs, hv => by simp at hv; subst hv; exact ⟨[], by simp, LRel.nil μ⟩
  | x :: rs, vs, hv => by
    rw [List.mapM_cons] at hv
    simp only [bind, Option.bind_eq_some_iff, pure, Option.some.injEq] at hv
    obtain ⟨v, hv1, vs1, hv2, rfl⟩ := hv
    obtain ⟨v', h1, h2⟩ := resultA_sound S r hv1
    obtain ⟨vs', h3, h4⟩ := mapM_rel S r hv2
    refine ⟨v' :: vs', ?_, LRel.cons h2 h4⟩
    rw [List.mapM_cons, Sem.run_bind]
    rw [h1]
    simp only [Result.andThen_ok, Sem.run_bind]
    rw [h3]
    simp

theorem mapM_length {α β : Type} {f : α → Option β} : ∀ {l : List α} {r : List β}, l.mapM f = some r → l.length = r.length
  | [], r, h => by simp at h; subst h; rfl
  | x :: l, r, h => by
    rw [List.mapM_cons] at h
    simp only [bind, Option.bind_eq_some_iff, pure, Option.some.injEq] at h
    obtain ⟨a, _, r1, h2, rfl⟩ := h
    simp [mapM_length h2]

theorem resultsA_sound {D : List Deferred} {μ : Mu} {h h' : Heap} {w : World} {e : Env} {a : Act} (S : Sim μ h w) (r : ERel D μ e a) {fn : Func} {v : Value} (hv : resultsA P fn.results.toList e h = some (v, h')) :
    ∃ v', (results fn a.tmps).run P w = .ok v' w ∧ VRel μ v v' := by
  have main : ∀ {vs : List Value}, fn.results.toList.mapM (fun r => resultA P r e h) = some vs → ∃ vs', (fn.results.mapM (resV a.tmps)).run P w = .ok vs'.toArray w ∧ LRel μ vs vs' := by
    intro vs hvs
    obtain ⟨vs', h1, h2⟩ := mapM_rel S r hvs
    refine ⟨vs', ?_, h2⟩
    rw [Array.mapM_eq_mapM_toList, Sem.run_map, h1]
    rfl
  unfold resultsA at hv
  split at hv
  · rename_i x hx
    simp only [Option.map_eq_some_iff, Prod.mk.injEq] at hv
    obtain ⟨v1, hv1, rfl, rfl⟩ := hv
    obtain ⟨vs', h1, h2⟩ := main (vs := [v1]) (by rw [hx]; simp [hv1])
    have hl := h2.1
    match vs', hl with
    | [v'], _ =>
      refine ⟨v', ?_, h2.head⟩
      rw [results_eq, Sem.run_bind]
      rw [h1]
      simp
  · rename_i hne
    simp only [Option.map_eq_some_iff, Prod.mk.injEq] at hv
    obtain ⟨vs, hvs, rfl, rfl⟩ := hv
    obtain ⟨vs', h1, h2⟩ := main hvs
    refine ⟨.tuple vs'.toArray, ?_, .of_list_tuple h2⟩
    rw [results_eq, Sem.run_bind]
    rw [h1]
    simp only [Result.andThen_ok, Sem.run_pure]
    have hlen : vs'.length ≠ 1 := by
      rw [← h2.1, ← mapM_length hvs]
      intro h1'
      obtain ⟨x, hx⟩ := List.length_eq_one_iff.1 h1'
      exact hne x hx
    rw [dif_neg (by simpa using hlen)]

end code
end
end Go.Abs

namespace Go.Abs
noncomputable section

/-- A result, handed on. -/
def thenV {α : Type} (r : Out) (k : Value → Heap → Option α) : Option α :=
  match r with
  | some (v, h) => k v h
  | none => none

/-- An operation under a guard. -/
def guardK (g : Bool) (o : Out) (h : Heap) : Out :=
  match g with
  | true => o
  | false => some (undef, h)

def opsK {α : Type} (P : Program) (C : CallF) (ops : Array Oper) : List Oper → Env → Heap → (Env → Heap → Option α) → Option α
  | [], e, h, k => k e h
  | o :: rest, e, h, k =>
    match o.guard with
    | none => thenV (opA P C o (ev e) h) fun v h' => opsK P C ops rest (putD e o.dst v) h' k
    | some (j, want) => thenV (guardK (yieldA ops e j == some want) (opA P C o (ev e) h) h) fun v h' => opsK P C ops rest (putD e o.dst v) h' k

theorem opsK_eq {α : Type} (P : Program) (C : CallF) (ops : Array Oper) : ∀ (l : List Oper) (e : Env) (h : Heap) (k : Env → Heap → Option α),
    opsK P C ops l e h k = match opsA P C ops l e h with | some (e', h') => k e' h' | none => none
  | [], e, h, k => rfl
  | o :: rest, e, h, k => by
    unfold opsK opsA stepA wantA thenV
    cases hg : o.guard with
    | none =>
      simp only [if_true]
      cases opA P C o (ev e) h with
      | none => rfl
      | some r => exact opsK_eq P C ops rest _ _ k
    | some g =>
      obtain ⟨j, want⟩ := g
      simp only
      by_cases hy : (yieldA ops e j == some want) = true
      · simp only [hy, if_true, guardK]
        cases opA P C o (ev e) h with
        | none => rfl
        | some r => exact opsK_eq P C ops rest _ _ k
      · rw [if_neg hy]
        rw [Bool.not_eq_true] at hy
        simp only [hy, guardK]
        exact opsK_eq P C ops rest _ _ k

theorem mem_zipIdx_get {α : Type} {l : List α} {x : α} {i : Nat} : (x, i) ∈ l.zipIdx ↔ l[i]? = some x := by
  constructor
  · intro h
    obtain ⟨j, hj⟩ := List.getElem?_of_mem h
    rw [List.getElem?_zipIdx, Option.map_eq_some_iff] at hj
    obtain ⟨z, hz, he⟩ := hj
    simp only [Prod.mk.injEq, Nat.zero_add] at he
    obtain ⟨rfl, rfl⟩ := he
    exact hz
  · intro h
    have : l.zipIdx[i]? = some (x, i) := by rw [List.getElem?_zipIdx, h]; simp
    exact List.mem_of_getElem? this

/-- No reader stands beside an effect that it does not hang on, nor that on it, nor behind what makes memory and that it does not hang on. -/
def dynTriv (P : Program) (ops : Array Oper) (l : List (Nat × Oper)) : Bool :=
  let m := befM ops
  l.zipIdx.all fun x => !(kindOf P x.1.2 == .read) || l.zipIdx.all fun y => !(hard P y.1.2 y.2 x.2) || befB m x.1.1 y.1.1 || befB m y.1.1 x.1.1

theorem dynTriv_ok {P : Program} {C : CallF} {ops : Array Oper} {l : List (Nat × Oper)} (ht : dynTriv P ops l = true) (tr : List Tr1) (hE : Heap) : dynOk P C ops l tr hE = true := by
  unfold dynOk
  unfold dynTriv at ht
  simp only [List.all_eq_true, Bool.or_eq_true, Bool.not_eq_true', Bool.and_eq_false_iff] at ht ⊢
  intro x hx
  by_cases hr : (kindOf P x.1.1.2 == .read && x.1.2.ran) = true
  · right
    obtain ⟨⟨x1, t⟩, i⟩ := x
    have hx1 : (x1, i) ∈ l.zipIdx := by
      rw [mem_zipIdx_get] at hx ⊢
      exact (List.getElem?_zip_eq_some.1 hx).1
    intro y hy
    have hy1 := List.mem_filter.1 hy
    left
    rcases ht (x1, i) hx1 with h1 | h1
    · rw [h1] at hr; simp at hr
    · rcases h1 y hy1.1 with (h2 | h2) | h2
      · rw [hy1.2] at h2; cases h2
      · exact .inl h2
      · exact .inr h2
  · left
    cases h1 : (kindOf P x.1.1.2 == .read) with
    | false => simp
    | true => rw [h1] at hr; simpa using hr

theorem trace_ops {P : Program} {C : CallF} {ops : Array Oper} : ∀ (l : List (Nat × Oper)) (e : Env) (h : Heap),
    (traceA P C ops l e h).map (·.2) = opsA P C ops (l.map (·.2)) e h
  | [], e, h => rfl
  | (i, o) :: rest, e, h => by
    simp only [traceA, List.map_cons, opsA, stepA]
    by_cases hw : wantA ops o e = true
    · rw [if_pos hw, if_pos hw]
      cases opA P C o (ev e) h with
      | none => rfl
      | some r =>
        obtain ⟨v, h'⟩ := r
        simp only
        have := trace_ops (P := P) (C := C) (ops := ops) rest (putD e o.dst v) h'
        rw [← this]
        cases traceA P C ops rest (putD e o.dst v) h' <;> rfl
    · rw [if_neg hw, if_neg hw]
      simp only
      have := trace_ops (P := P) (C := C) (ops := ops) rest (putD e o.dst undef) h
      rw [← this]
      cases traceA P C ops rest (putD e o.dst undef) h <;> rfl

def lateOk (P : Program) (ops : Array Oper) : Bool := statOk P ops (late P ops) && dynTriv P ops (late P ops)

/-- Readers and effects that do not hang on one another, by their places. -/
def dynPairs (P : Program) (ops : Array Oper) (l : List (Nat × Oper)) : List (Nat × Nat) :=
  let m := befM ops
  (l.zipIdx.filter fun x => kindOf P x.1.2 == .read).flatMap fun x =>
    (l.zipIdx.filter fun y => hard P y.1.2 y.2 x.2 && !(befB m x.1.1 y.1.1 || befB m y.1.1 x.1.1)).map fun y => (x.2, y.2)
def chkR (ran : Bool) (r : Out) (v : Value) : Bool := !ran || same r v
def chkAt (P : Program) (C : CallF) (l : List (Nat × Oper)) (tr : List Tr1) (hs : List Heap) (x : Nat × Nat) : Bool :=
  match l[x.1]?, tr[x.1]?, heapAt (tr.map (·.ran)) hs (madeIn P l x) (if x.2 < x.1 then x.2 else x.2 + 1) with
  | some y, some t, some h => chkR t.ran (opA P C y.2 (ev t.e) h) t.v
  | some _, some t, none => !t.ran
  | _, _, _ => false
def dynChk (P : Program) (C : CallF) (ops : Array Oper) (l : List (Nat × Oper)) (tr : List Tr1) (hEnd : Heap) : Bool :=
  (dynPairs P ops l).foldr (fun x acc => chkAt P C l tr (tr.map (·.h) ++ [hEnd]) x && acc) true

theorem foldr_all {α : Type} (f : α → Bool) : ∀ l : List α, l.foldr (fun x acc => f x && acc) true = l.all f
  | [] => rfl
  | x :: l => by simp only [List.foldr_cons, List.all_cons, foldr_all f l]

theorem dynChk_eq {P : Program} {C : CallF} {ops : Array Oper} {l : List (Nat × Oper)} {tr : List Tr1} {hEnd : Heap} (hlen : tr.length = l.length) : dynChk P C ops l tr hEnd = dynOk P C ops l tr hEnd := by
  unfold dynChk dynOk
  rw [foldr_all, Bool.eq_iff_iff]
  simp only [List.all_eq_true]
  have hz : ∀ (x : Nat × Oper) (t : Tr1) (i : Nat), ((x, t), i) ∈ (l.zip tr).zipIdx ↔ l[i]? = some x ∧ tr[i]? = some t := by
    intro x t i
    rw [mem_zipIdx_get, List.getElem?_zip_eq_some]
  constructor
  · rintro h ⟨⟨x, t⟩, i⟩ hx
    obtain ⟨hx1, hx2⟩ := (hz x t i).1 hx
    simp only [Bool.or_eq_true, Bool.not_eq_true', Bool.and_eq_false_iff, List.all_eq_true]
    by_cases hr : (kindOf P x.2 == .read) = true
    · by_cases hran : t.ran = true
      · right
        rintro ⟨y, j⟩ hy
        rw [List.mem_filter, mem_zipIdx_get] at hy
        simp only at hy ⊢
        by_cases hb : (befB (befM ops) x.1 y.1 || befB (befM ops) y.1 x.1) = true
        · left; simpa using hb
        · right
          have hp : (i, j) ∈ dynPairs P ops l := by
            unfold dynPairs
            simp only [List.mem_flatMap, List.mem_filter, List.mem_map]
            exact ⟨(x, i), ⟨mem_zipIdx_get.2 hx1, hr⟩, (y, j), ⟨mem_zipIdx_get.2 hy.1, by simp only [hy.2, Bool.true_and]; simpa using hb⟩, rfl⟩
          have := h _ hp
          unfold chkAt at this
          simp only [hx1, hx2] at this
          split at this
          · rename_i h1 h2 h3
            cases h1; cases h2
            rw [h3]
            simpa [chkR, hran] using this
          · rename_i h1 h2 h3
            cases h2
            rw [hran] at this; simp at this
          · simp at this
      · left; right; simpa using hran
    · left; left; simpa using hr
  · rintro h ⟨i, j⟩ hp
    unfold dynPairs at hp
    simp only [List.mem_flatMap, List.mem_filter, List.mem_map] at hp
    obtain ⟨⟨x, i'⟩, ⟨hx1, hr⟩, ⟨y, j'⟩, ⟨hy1, hy2⟩, he⟩ := hp
    simp only [Prod.mk.injEq] at he
    obtain ⟨rfl, rfl⟩ := he
    rw [mem_zipIdx_get] at hx1 hy1
    simp only [Bool.and_eq_true] at hr hy2
    have hi : i' < tr.length := by rw [hlen]; exact (List.getElem?_eq_some_iff.1 hx1).1
    have ht : tr[i']? = some tr[i'] := List.getElem?_eq_getElem hi
    have hq := h ((x, tr[i']), i') ((hz _ _ _).2 ⟨hx1, ht⟩)
    simp only [hr, Bool.true_and, Bool.or_eq_true, Bool.not_eq_true', List.all_eq_true] at hq
    unfold chkAt
    simp only [hx1, ht]
    have key : tr[i'].ran = true → (match heapAt (tr.map (·.ran)) (List.map (fun x => x.h) tr ++ [hEnd]) (madeIn P l (i', j')) (if j' < i' then j' else j' + 1) with | some h => same (opA P C x.2 (ev tr[i'].e) h) tr[i'].v | none => false) = true := by
      intro hran
      rcases hq with hq | hq
      · rw [hran] at hq; cases hq
      · have := hq (y, j') (List.mem_filter.2 ⟨mem_zipIdx_get.2 hy1, hy2.1⟩)
        simp only at this
        have hy3 := hy2.2
        rcases this with h1 | h1
        · have h1' : (befB (befM ops) x.1 y.1 || befB (befM ops) y.1 x.1) = true := by simpa using h1
          simp [h1'] at hy3
        · exact h1
    split
    · rename_i h1 h2 h3
      cases h1; cases h2
      unfold chkR
      cases hran : tr[i'].ran with
      | false => rfl
      | true => have := key hran; rw [h3] at this; simpa using this
    · rename_i h1 h2 h3
      cases h2
      cases hran : tr[i'].ran with
      | false => rfl
      | true => have := key hran; rw [h3] at this; simp at this
    · rename_i h1 h2
      cases hh : heapAt (tr.map (·.ran)) (List.map (fun x => x.h) tr ++ [hEnd]) (madeIn P l (i', j')) (if j' < i' then j' else j' + 1) with
      | some hp' => exact absurd hh (h1 _ _ _ rfl rfl)
      | none => exact absurd hh (h2 _ _ rfl rfl)

def traceK {α : Type} (P : Program) (C : CallF) (ops : Array Oper) : List (Nat × Oper) → Env → Heap → (List Tr1 → Env → Heap → Option α) → Option α
  | [], e, h, k => k [] e h
  | x :: rest, e, h, k =>
    match x.2.guard with
    | none => thenV (opA P C x.2 (ev e) h) fun v h' => traceK P C ops rest (putD e x.2.dst v) h' fun tr => k (⟨e, h, v, true⟩ :: tr)
    | some (j, want) => thenV (guardK (yieldA ops e j == some want) (opA P C x.2 (ev e) h) h) fun v h' => traceK P C ops rest (putD e x.2.dst v) h' fun tr => k (⟨e, h, v, yieldA ops e j == some want⟩ :: tr)

theorem traceK_eq {α : Type} (P : Program) (C : CallF) (ops : Array Oper) : ∀ (l : List (Nat × Oper)) (e : Env) (h : Heap) (k : List Tr1 → Env → Heap → Option α),
    traceK P C ops l e h k = match traceA P C ops l e h with | some (tr, e', h') => k tr e' h' | none => none
  | [], e, h, k => rfl
  | (i, o) :: rest, e, h, k => by
    unfold traceK traceA wantA thenV
    simp only
    cases hg : o.guard with
    | none =>
      simp only [if_true]
      cases opA P C o (ev e) h with
      | none => rfl
      | some r =>
        simp only
        rw [traceK_eq P C ops rest]
        cases traceA P C ops rest (putD e o.dst r.1) r.2 <;> rfl
    | some g =>
      obtain ⟨j, want⟩ := g
      simp only
      by_cases hy : (yieldA ops e j == some want) = true
      · simp only [hy, if_true, guardK]
        cases opA P C o (ev e) h with
        | none => rfl
        | some r =>
          simp only
          rw [traceK_eq P C ops rest]
          cases traceA P C ops rest (putD e o.dst r.1) r.2 <;> rfl
      · rw [if_neg hy]
        rw [Bool.not_eq_true] at hy
        simp only [hy, guardK]
        rw [traceK_eq P C ops rest]
        cases traceA P C ops rest (putD e o.dst undef) h <;> rfl

theorem traceA_length {P : Program} {C : CallF} {ops : Array Oper} : ∀ {l : List (Nat × Oper)} {e e' : Env} {h h' : Heap} {tr : List Tr1}, traceA P C ops l e h = some (tr, e', h') → tr.length = l.length
  | [], e, e', h, h', tr, ht => by simp only [traceA, Option.some.injEq, Prod.mk.injEq] at ht; rw [← ht.1]; rfl
  | (i, o) :: rest, e, e', h, h', tr, ht => by
    simp only [traceA] at ht
    split at ht
    · split at ht
      · split at ht
        · rename_i r h5
          obtain ⟨e2, h2⟩ := r
          simp only [Option.some.injEq, Prod.mk.injEq] at ht
          obtain ⟨rfl, _⟩ := ht
          simp [traceA_length h5]
        · cases ht
      · cases ht
    · split at ht
      · rename_i r h5
        obtain ⟨e2, h2⟩ := r
        simp only [Option.some.injEq, Prod.mk.injEq] at ht
        obtain ⟨rfl, _⟩ := ht
        simp [traceA_length h5]
      · cases ht

def regionK {α : Type} (P : Program) (C : CallF) (ops : Array Oper) (draw : Bool) (e : Env) (h : Heap) (k : Env → Heap → Option α) : Option α :=
  match draw with
  | false => opsK P C ops ops.toList e h k
  | true =>
    match lateOk P ops with
    | true => opsK P C ops ((late P ops).map (·.2)) e h k
    | false => match statOk P ops (late P ops) with
      | true => traceK P C ops (late P ops) e h fun tr e' h' => match dynChk P C ops (late P ops) tr h' with
        | true => k e' h'
        | false => none
      | false => none

theorem regionK_eq {α : Type} (P : Program) (C : CallF) (ops : Array Oper) (draw : Bool) (e : Env) (h : Heap) (k : Env → Heap → Option α) :
    regionK P C ops draw e h k = match regionA P C ops draw e h with | some (e', h') => k e' h' | none => none := by
  unfold regionK
  cases draw with
  | false => simp only [opsK_eq, regionA]; rfl
  | true =>
    simp only
    cases hl : lateOk P ops with
    | false =>
      simp only [traceK_eq, regionA, if_true]
      cases hs : statOk P ops (late P ops) with
      | false => rfl
      | true =>
        simp only [if_true]
        cases ht : traceA P C ops (late P ops) e h with
        | none => rfl
        | some r =>
          obtain ⟨tr, e', h'⟩ := r
          simp only
          rw [dynChk_eq (traceA_length ht)]
          cases dynOk P C ops (late P ops) tr h' <;> rfl
    | true =>
      simp only [lateOk, Bool.and_eq_true] at hl
      simp only [opsK_eq, regionA, if_true, hl.1, ← trace_ops]
      cases ht : traceA P C ops (late P ops) e h with
      | none => rfl
      | some r =>
        obtain ⟨tr, e', h'⟩ := r
        simp [dynTriv_ok hl.2]

/-- Code, and what comes behind it: on the way on, on a return, on an exit. -/
def codeK {α : Type} (P : Program) (C : CallF) : Code → Env → Heap → (Env → Heap → Option α) → (Env → Heap → Option α) → (Nat → Env → Heap → Option α) → Option α
  | .skip, e, h, n, _, _ => n e h
  | .region _ ops draw, e, h, n, _, _ => regionK P C ops draw e h n
  | .seq a b, e, h, n, r, x => codeK P C a e h (fun e' h' => codeK P C b e' h' n r x) r x
  | .cond c a b, e, h, n, r, x => match ev e c with
    | .bool true => codeK P C a e h n r x
    | .bool false => codeK P C b e h n r x
    | _ => none
  | .block id b, e, h, n, r, x => codeK P C b e h n r (fun i e' h' => if i = id then n e' h' else x i e' h')
  | .loop b, e, h, _, r, x => match iter (codeA P C b) rounds e h with
    | some (.ret, e', h') => r e' h'
    | some (.exit i, e', h') => x i e' h'
    | _ => none
  | .exit i, e, h, _, _, x => x i e h
  | .scope b, e, h, n, r, x => codeK P C b e h n r x
  | .label _, e, h, n, _, _ => n e h
  | .ret, e, h, _, r, _ => r e h
  | .goto _, _, _, _, _, _ => none
  | .rangeFunc g ps a b, e, h, n, r, x => match codeA P C (.rangeFunc g ps a b) e h with
    | some (.normal, e', h') => n e' h'
    | some (.ret, e', h') => r e' h'
    | some (.exit i, e', h') => x i e' h'
    | none => none
  | .refuse _, _, _, _, _, _ => none

theorem iter_not_normal {step : Env → Heap → Option (Ex × Env × Heap)} : ∀ (n : Nat) (e : Env) (h : Heap) {e' : Env} {h' : Heap}, iter step n e h ≠ some (.normal, e', h')
  | 0, _, _, _, _ => by simp [iter]
  | n + 1, e, h, e', h' => by
    unfold iter
    split
    · exact iter_not_normal n _ _
    · rename_i hne
      exact hne e' h'

def endK {α : Type} (n r : Env → Heap → Option α) (x : Nat → Env → Heap → Option α) : Option (Ex × Env × Heap) → Option α
  | some (.normal, e, h) => n e h
  | some (.ret, e, h) => r e h
  | some (.exit i, e, h) => x i e h
  | none => none

theorem codeK_eq {α : Type} (P : Program) (C : CallF) : ∀ (c : Code) (e : Env) (h : Heap) (n r : Env → Heap → Option α) (x : Nat → Env → Heap → Option α),
    codeK P C c e h n r x = endK n r x (codeA P C c e h)
  | .skip, e, h, n, r, x => rfl
  | .region id ops d, e, h, n, r, x => by
    simp only [codeK, codeA, regionK_eq]
    cases regionA P C ops d e h <;> rfl
  | .seq a b, e, h, n, r, x => by
    simp only [codeK, codeA]
    rw [codeK_eq P C a]
    cases ha : codeA P C a e h with
    | none => rfl
    | some y =>
      obtain ⟨ex, e', h'⟩ := y
      cases ex with
      | normal => simp only [endK]; exact codeK_eq P C b _ _ _ _ _
      | ret => rfl
      | exit i => rfl
  | .cond c a b, e, h, n, r, x => by
    simp only [codeK, codeA]
    generalize ev e c = v
    cases v with
    | bool t =>
      cases t with
      | true => exact codeK_eq P C a _ _ _ _ _
      | false => exact codeK_eq P C b _ _ _ _ _
    | _ => rfl
  | .block id b, e, h, n, r, x => by
    simp only [codeK, codeA]
    rw [codeK_eq P C b]
    cases hb : codeA P C b e h with
    | none => rfl
    | some y =>
      obtain ⟨ex, e', h'⟩ := y
      cases ex with
      | normal => rfl
      | ret => rfl
      | exit i =>
        simp only [endK]
        by_cases hi : i = id
        · simp [hi]
        · simp [hi]
  | .loop b, e, h, n, r, x => by
    simp only [codeK, codeA]
    cases hb : iter (codeA P C b) rounds e h with
    | none => rfl
    | some y =>
      obtain ⟨ex, e', h'⟩ := y
      cases ex with
      | normal => exact absurd hb (iter_not_normal _ _ _)
      | ret => rfl
      | exit i => rfl
  | .exit i, e, h, n, r, x => rfl
  | .scope b, e, h, n, r, x => by simp only [codeK, codeA]; exact codeK_eq P C b _ _ _ _ _
  | .label _, e, h, n, r, x => rfl
  | .ret, e, h, n, r, x => rfl
  | .goto _, e, h, n, r, x => rfl
  | .rangeFunc g ps a b, e, h, n, r, x => by
    simp only [codeK]
    cases codeA P C (.rangeFunc g ps a b) e h with
    | none => rfl
    | some y => obtain ⟨ex, e', h'⟩ := y; cases ex <;> rfl
  | .refuse _, e, h, n, r, x => rfl

def bodyK (P : Program) (C : CallF) (fn : Func) (args : List Value) (h : Heap) : Out :=
  match fn.body with
  | none => none
  | some c => codeK P C c (args ++ List.replicate (fn.ntmps - args.length) undef) h (resultsA P fn.results.toList) (resultsA P fn.results.toList) (fun _ _ _ => none)

theorem bodyK_eq (P : Program) (C : CallF) (fn : Func) (args : List Value) (h : Heap) : bodyK P C fn args h = bodyA P C fn args h := by
  unfold bodyK bodyA
  cases fn.body with
  | none => rfl
  | some c =>
    simp only [codeK_eq]
    cases codeA P C c (args ++ List.replicate (fn.ntmps - args.length) undef) h with
    | none => rfl
    | some y =>
      obtain ⟨ex, e', h'⟩ := y
      cases ex <;> rfl

/-- One round of a loop, in passing style. -/
def roundK (P : Program) (C : CallF) (b : Code) (e : Env) (h : Heap) : Option (Ex × Env × Heap) :=
  codeK P C b e h (fun e h => some (.normal, e, h)) (fun e h => some (.ret, e, h)) (fun i e h => some (.exit i, e, h))
theorem roundK_eq (P : Program) (C : CallF) (b : Code) (e : Env) (h : Heap) : roundK P C b e h = codeA P C b e h := by
  unfold roundK
  rw [codeK_eq]
  cases codeA P C b e h with
  | none => rfl
  | some y =>
    obtain ⟨ex, e', h'⟩ := y
    cases ex <;> rfl

end
end Go.Abs

namespace Go.Abs
noncomputable section

/-- A mark is taken: nothing that the machine knows changes. -/
theorem Sim.shut {μ : Mu} {h : Heap} {w : World} (S : Sim μ h w) {r : Nat} {x : Option (List Deferred)} (hr : w.heap[r]? = some (Obj.deferred x)) (o : Obj) : Sim μ h (w.putObj r o) := by
  have key : ∀ {B : Nat} {ob : Obj}, w.heap[B]? = some ob → (∀ y, ob ≠ .deferred y) → (w.putObj r o).heap[B]? = some ob := by
    intro B ob hB hne
    rw [World.putObj_heap_other (by rintro rfl; rw [hr] at hB; cases hB; exact hne _ rfl)]; exact hB
  refine ⟨?_, ?_, ?_, S.inj, by simpa using S.size, S.low⟩
  · intro b cs hb hc
    obtain ⟨L, a, T, f, h1, h2, h3, h4, h5⟩ := S.old b cs hb hc
    exact ⟨L, a, T, f, h1, h2, h3, key h4 (by intro y hy; cases hy), h5⟩
  · intro b k hb hg
    obtain ⟨L, a, T, f, h1, h2, h4, h5⟩ := S.new b k hb hg
    exact ⟨L, a, T, f, h1, h2, key h4 (by intro y hy; cases hy), h5⟩
  · intro b ob hb hg
    obtain ⟨L, ob', h1, h2, h3, h4⟩ := S.obj b ob hb hg
    refine ⟨L, ob', h1, key h2 ?_, h3, h4⟩
    rintro y rfl
    cases ob <;> exact h3

theorem leaves_marks {P : Program} {nd : Nat} {fn : Func} {a : Act} {R : Ending → World → Prop} {μ μ0 : Mu} {h h0 : Heap} {w0 : World} :
    ∀ (rs : List Nat) {w : World}, Sim μ h w → Step μ0 h0 w0 μ h w → Marks w0.heap.size μ h w rs →
    (∀ w, Sim μ h w → Step μ0 h0 w0 μ h w → ∃ v, (results fn a.tmps).run P w = .ok v w ∧ R (.returned v) w) →
    LeavesInM (Fr none) nd P fn a.tmps R (marksOf rs) .returning w
  | [], w, S, St, m, hR => hR w S St
  | r :: rs, w, S, St, m, hR => by
    obtain ⟨h1, h2, h3⟩ := m.at_ r (by simp)
    have hd := List.nodup_cons.1 m.dup
    refine ⟨by simp, .inl ⟨r, _, rfl, run_takeDeferred h2, ?_⟩⟩
    refine leaves_marks rs (S.shut h2 _) ?_ ⟨hd.2, ?_⟩ hR
    · refine ⟨St.ext, St.n0, St.old, St.next, St.os, St.tape, St.output, by simpa using St.size, ?_, St.own, ?_, St.drawn⟩
      · intro B hB hO
        rw [World.putObj_heap_other (by omega)]; exact St.same B hB hO
      · intro B q hB
        obtain ⟨q', hq⟩ := St.loops B q hB
        have := (Array.getElem?_eq_some_iff.1 hB).1
        exact ⟨q', by rw [World.putObj_heap_other (by omega)]; exact hq⟩
    · intro q hq
      obtain ⟨k1, k2, k3⟩ := m.at_ q (by simp [hq])
      refine ⟨k1, ?_, k3⟩
      rw [World.putObj_heap_other (by rintro rfl; exact hd.1 hq)]; exact k2

theorem body_sound {P : Program} {C : CallF} (hC : CSound P C) (hm : P.follows .mixedOrders = true) {f : FuncId} {fn : Func} {c : Code} (hf : P.funcs[f]? = some fn) (hb : fn.body = some c) (hok : codeOk P c = true)
    {args : List Value} {h h' : Heap} {v : Value} (he : bodyA P C fn args h = some (v, h')) (hg : P.globals.size ≤ h.n0) (hba : bdL h.next args = true) (hbh : HeapBd h)
    {μ : Mu} {w : World} {args' : List Value} (S : Sim μ h w) (hfr : Free μ h h') (r : LRel μ args args') :
    Calls P f args'.toArray w (After μ h w v h') := by
  unfold bodyA at he
  rw [hb] at he
  simp only at he
  refine fr_calls (r := none) (n := 0) (callsIn_of_wp_marks hf hb trivial ?_ rfl)
  have hbe : bdL h.next (args ++ List.replicate (fn.ntmps - args.length) undef) = true :=
    bdL_append hba (bdL_iff.2 fun x hx => by rw [List.eq_of_mem_replicate hx]; rfl)
  have her : ERel (marksOf []) μ (args ++ List.replicate (fn.ntmps - args.length) undef) { tmps := args'.toArray ++ Array.replicate (fn.ntmps - args'.toArray.size) undef, defers := [] } := by
    refine ⟨?_, rfl⟩
    have h1 : args.length = args'.length := r.1
    simp only [Array.toList_append, Array.toList_replicate, List.size_toArray]
    rw [h1]
    exact r.append (LRel.replicate μ _ (VRel.undef μ))
  cases hc : codeA P C c (args ++ List.replicate (fn.ntmps - args.length) undef) h with
  | none => rw [hc] at he; cases he
  | some y =>
    obtain ⟨ex, e1, h1⟩ := y
    rw [hc] at he
    have hgrow : resultsA P fn.results.toList e1 h1 = some (v, h') := by
      cases ex with
      | normal => exact he
      | ret => exact he
      | exit i => cases he
    obtain rfl := resultsA_grow hgrow
    refine codeA_sound hC hm c hok none 0 w.heap.size [] _ _ _ _ _ _ _ _ _ hc hg hbe hbh S hfr her ⟨by simp, by simp⟩ (Nat.le_refl _) (fun l hl => by cases hl) ?_
    rintro a' w' ⟨μ', rs, hS, hSt, hr, hmk⟩
    have fin := leaves_marks (P := P) (nd := 0) (fn := fn) (a := a') (R := After μ h w v h') rs hS hSt hmk (fun w2 S2 St2 => by
      obtain ⟨v', h3, h4⟩ := resultsA_sound (P := P) (w := w2) S2 hr hgrow
      exact ⟨v', h3, μ', v', rfl, S2, St2, h4⟩)
    have hd : a'.defers = marksOf rs := hr.2
    cases ex with
    | normal => simp only [exOf, bodyPostM, hd]; exact fin
    | ret => simp only [exOf, bodyPostM, hd]; exact fin
    | exit i => cases he

theorem putAll_rel {μ : Mu} : ∀ {e e' : List Value} (ps : List Tmp) {xs ys : List Value}, LRel μ e e' → LRel μ xs ys → LRel μ (putAll e (ps.zip xs)) ((ps.zip ys).foldl (fun (t : List Value) (p : Tmp × Value) => t.set p.1 p.2) e')
  | e, e', [], xs, ys, he, hx => he
  | e, e', p :: ps, [], [], he, hx => he
  | e, e', p :: ps, [], _ :: _, he, hx => by have := hx.1; simp at this
  | e, e', p :: ps, _ :: _, [], he, hx => by have := hx.1; simp at this
  | e, e', p :: ps, x :: xs, y :: ys, he, hx => by
    simp only [List.zip_cons_cons, putAll, List.foldl_cons]
    exact putAll_rel ps (he.set p hx.head) hx.tail
theorem zipfold_set (ps : Array Tmp) (ys : List Value) (t : Array Value) : ((ps.zip ys.toArray).foldl (fun tmps (p : Tmp × Value) => tmps.setIfInBounds p.1 p.2) t).toList = (ps.toList.zip ys).foldl (fun (t : List Value) (p : Tmp × Value) => t.set p.1 p.2) t.toList := by
  rw [← Array.foldl_toList, Array.toList_zip]
  simp only
  generalize ps.toList.zip ys = l
  induction l generalizing t with
  | nil => rfl
  | cons p l ih => simp only [List.foldl_cons]; rw [ih]; simp

theorem bd_putAll {n : Nat} : ∀ {e : Env} (ps : List Tmp) {xs : List Value}, bdL n e = true → bdL n xs = true → bdL n (putAll e (ps.zip xs)) = true
  | e, [], xs, he, hx => he
  | e, p :: ps, [], he, hx => he
  | e, p :: ps, x :: xs, he, hx => by
    simp only [bdL, Bool.and_eq_true] at hx
    exact bd_putAll ps (bdL_set he hx.1) hx.2

theorem roundA_some {P : Program} {C : CallF} {l : Nat} {args : List Value} {h h' : Heap} {v : Value} (he : roundA P C l args h = some (v, h')) :
    ∃ st p0 t0 q0 assign body e1 h1 p1 t1 q1 a1 b1 x e2 h2, h.getB l = some (.obj (.loop st p0 t0 q0 assign body)) ∧ args.length = q0.length ∧ codeOk P assign = true ∧ codeOk P body = true ∧
      codeA P C assign (putAll t0 (q0.zip args)) h = some (.normal, e1, h1) ∧ h1.getB l = some (.obj (.loop .ready p1 t1 q1 a1 b1)) ∧
      codeA P C body e1 (h1.setO l (.loop .busy p1 t1 q1 a1 b1)) = some (x, e2, h2) ∧ endRoundA l x h2 = some (v, h') := by
  unfold roundA at he
  split at he
  · rename_i st p0 t0 q0 assign body hg
    split at he
    · rename_i hc
      split at he
      · rename_i e1 h1 hca
        split at he
        · rename_i p1 t1 q1 a1 b1 hg1
          split at he
          · rename_i x e2 h2 hcb
            exact ⟨st, p0, t0, q0, assign, body, e1, h1, p1, t1, q1, a1, b1, x, e2, h2, hg, hc.1, hc.2.1, hc.2.2, hca, hg1, hcb, he⟩
          · cases he
        · cases he
      · cases he
    · cases he
  · cases he
theorem endRoundA_some {l : Nat} {x : Ex} {h h' : Heap} {v : Value} (he : endRoundA l x h = some (v, h')) :
    ∃ st p t q a b, h.getB l = some (.obj (.loop st p t q a b)) ∧ v = .bool (x == .normal) ∧ h' = h.setO l (.loop (if x = .normal then .ready else .done) (if x = .normal then none else some x) t q a b) := by
  unfold endRoundA at he
  split at he
  · rename_i st p t q a b hg
    cases he
    exact ⟨st, p, t, q, a, b, hg, rfl, rfl⟩
  · cases he

theorem roundA_grow {P : Program} {C : CallF} (hC : CSound P C) {l : Nat} {args : List Value} {h h' : Heap} {v : Value} (he : roundA P C l args h = some (v, h')) : Grow h h' := by
  obtain ⟨st, p0, t0, q0, assign, body, e1, h1, p1, t1, q1, a1, b1, x, e2, h2, hg, hlen, ho1, ho2, hca, hg1, hcb, hend⟩ := roundA_some he
  obtain ⟨_, _, _, _, _, _, _, _, rfl⟩ := endRoundA_some hend
  exact (((codeA_grow hC _ hca).trans (Grow.setO _ _ _)).trans (codeA_grow hC _ hcb)).trans (Grow.setO _ _ _)

theorem roundA_bd {P : Program} {C : CallF} (hC : CSound P C) {l : Nat} {args : List Value} {h h' : Heap} {v : Value} (he : roundA P C l args h = some (v, h')) (hgl : P.globals.size ≤ h.n0) (hba : bdL h.next args = true) (hbh : HeapBd h) :
    bdV h'.next v = true ∧ HeapBd h' := by
  obtain ⟨st, p0, t0, q0, assign, body, e1, h1, p1, t1, q1, a1, b1, x, e2, h2, hg, hlen, ho1, ho2, hca, hg1, hcb, hend⟩ := roundA_some he
  obtain ⟨_, _, _, _, _, _, hg2, rfl, rfl⟩ := endRoundA_some hend
  have hg1' := codeA_grow hC _ hca
  obtain ⟨k1, k2⟩ := codeA_bd hC _ ho1 hgl (bd_putAll q0 (hbh.obj _ _ hg) hba) hbh hca
  have hob1 := k2.obj _ _ hg1
  obtain ⟨k3, k4⟩ := codeA_bd hC _ ho2 (h := h1.setO l (.loop .busy p1 t1 q1 a1 b1)) (by rw [Heap.n0_setO, hg1'.2.1]; exact hgl) (by simpa using k1) (k2.setO (h1.n0_of_obj hg1) hg1 hob1) hcb
  have hob2 := k4.obj _ _ hg2
  exact ⟨rfl, k4.setO (h2.n0_of_obj hg2) hg2 hob2⟩

theorem round_sound {P : Program} {C : CallF} (hC : CSound P C) (hm : P.follows .mixedOrders = true) {l : Nat} {args : List Value} {h h' : Heap} {v : Value} (he : roundA P C l args h = some (v, h')) (hgl : P.globals.size ≤ h.n0)
    (hba : bdL h.next args = true) (hbh : HeapBd h) {μ : Mu} {w : World} {args' : List Value} {L : Loc} (S : Sim μ h w) (hfr : Free μ h h') (r : LRel μ args args') (hL : μ l = some L) :
    ∃ fn tmps assign body, (Instr.yield L.blk args'.toArray).run P w = .ok (.round L.blk fn tmps assign body) w ∧ ∀ n, RoundIn (Fr none) n P L.blk fn tmps assign body w (After μ h w v h') := by
  obtain ⟨st, p0, t0, q0, assign, body, e1, h1, p1, t1, q1, a1, b1, x, e2, h2, hg, hlen, ho1, ho2, hca, hg1, hcb, hend⟩ := roundA_some he
  obtain ⟨s3, p3, t3, q3, a3, b3, hg3, rfl, rfl⟩ := endRoundA_some hend
  have gr1 := codeA_grow hC _ hca
  have gr2 := codeA_grow hC _ hcb
  have gr2n : h1.next ≤ h2.next := by have := gr2.1; simpa using this
  obtain ⟨L0, ob, g1, g2, g3, g4, g5⟩ := S.obj l _ (h.n0_of_obj hg) hg
  rw [hL] at g1; cases g1
  cases ob with
  | loop R =>
    obtain ⟨k1, k2, k3, k4, k5, k6⟩ := g3
    have hsz : args'.toArray.size = R.params.size := by
      have h5 := r.1
      have h6 : R.params.toList.length = R.params.size := Array.length_toList
      rw [k4] at h6
      simp only [List.size_toArray]
      omega
    refine ⟨R.fn, _, R.assign, R.body, run_yield g2 hsz, fun n => ?_⟩
    rw [k5, k6]
    have hbe := bd_putAll q0 (hbh.obj _ _ hg) hba
    obtain ⟨bd1, bd2⟩ := codeA_bd hC _ ho1 hgl hbe hbh hca
    have hob1 := bd2.obj _ _ hg1
    have hfr' : ∀ b, h.next ≤ b → b < h2.next → μ b = none := fun b h5 h6 => hfr b h5 h6
    refine roundIn_of_wpIn (F := Fr none) trivial ?_
    refine codeA_sound hC hm assign ho1 (some L.blk) n w.heap.size [] _ _ _ _ _ _ _ _ _ hca hgl hbe hbh S (fun b h5 h6 => hfr' b h5 (by omega)) ?_ ⟨by simp, by simp⟩ (Nat.le_refl _) (fun l' hl' => by cases hl'; exact ⟨R, g2⟩) ?_
    · refine ⟨?_, rfl⟩
      have hfe := zipfold_set R.params args' R.tmps
      have hp := putAll_rel q0 k3 r
      rw [← k4] at hp ⊢
      rw [← hfe] at hp
      exact hp
    · rintro a' w1 ⟨μ1, rs1, S1, St1, er1, mk1⟩
      have hμ1 : μ1 l = some L := St1.mono (fun b h5 h6 => hfr' b h5 (by omega)) _ _ hL
      obtain ⟨L1, ob1, j1, j2, j3, j4, j5⟩ := S1.obj l _ (h1.n0_of_obj hg1) hg1
      rw [hμ1] at j1; cases j1
      cases ob1 with
      | loop R1 =>
        obtain ⟨m1, m2, m3, m4, m5, m6⟩ := j3
        refine ⟨_, run_beginRound j2 m1, ?_⟩
        obtain ⟨S2, St2⟩ := S1.setO (o' := .loop .busy p1 t1 q1 a1 b1) (ob' := .loop { R1 with state := .busy }) hg1 hμ1 ⟨rfl, m2, m3, m4, m5, m6⟩
        refine codeA_sound hC hm body ho2 (some L.blk) n w.heap.size rs1 _ _ _ _ _ _ _ _ _ hcb (by rw [Heap.n0_setO, gr1.2.1]; exact hgl) (by simpa using bd1) (bd2.setO (h1.n0_of_obj hg1) hg1 hob1) S2 ?_ er1 (mk1.step St2) ?_ ?_ ?_
        · intro b h5 h6
          rw [St1.ext b (.inr (by simpa using h5))]
          have := gr1.1
          exact hfr' b (by simp at h5; omega) h6
        · have := St1.size
          simpa using this
        · intro l' hl'
          cases hl'
          exact ⟨_, World.putObj_heap_same (Array.getElem?_eq_some_iff.1 j2).1⟩
        · rintro a'' w3 ⟨μ3, rs3, S3, St3, er3, mk3⟩
          have StA := (St1.trans St2).trans St3
          have hμ3 : μ3 l = some L := StA.mono (fun b h5 h6 => hfr' b h5 h6) _ _ hL
          obtain ⟨L3, ob3, n1, n2, n3, n4, n5⟩ := S3.obj l _ (h2.n0_of_obj hg3) hg3
          rw [hμ3] at n1; cases n1
          cases ob3 with
          | loop R3 =>
            obtain ⟨o1, o2, o3, o4, o5, o6⟩ := n3
            have fin : ∀ (j : Option Code), j = (if x = .normal then none else some (exCode x)) → ∃ v w', (Instr.endRound L.blk j).run P w3 = .ok v w' ∧ After μ h w (.bool (x == .normal)) (h2.setO l (.loop (if x = .normal then .ready else .done) (if x = .normal then none else some x) t3 q3 a3 b3)) (.returned v) w' := by
              intro j hj
              refine ⟨_, _, run_endRound j n2, ?_⟩
              obtain ⟨S4, St4⟩ := S3.setO (o' := .loop (if x = .normal then .ready else .done) (if x = .normal then none else some x) t3 q3 a3 b3)
                (ob' := .loop { R3 with state := if j.isNone then .ready else .done, pending := j }) hg3 hμ3 (by
                  refine ⟨?_, ?_, o3, o4, o5, o6⟩
                  · subst hj; by_cases hx : x = .normal <;> simp [hx]
                  · subst hj; by_cases hx : x = .normal <;> simp [hx])
              refine ⟨μ3, _, rfl, S4, StA.trans St4, ?_⟩
              have : j.isNone = (x == .normal) := by subst hj; by_cases hx : x = .normal <;> simp [hx]
              rw [this]
              exact .flat rfl
            cases x with
            | normal => exact fin none rfl
            | ret => exact fin (some .ret) rfl
            | exit i => exact fin (some (.exit i)) rfl
          | _ => exact n3.elim
      | _ => exact j3.elim
  | _ => exact g3.elim

/-! Values with other block numbers. -/
def renF (r : Nat → Nat) : Fn → Fn
  | .yield l => .yield (r l)
  | f => f

mutual
def renV (r : Nat → Nat) : Value → Value
  | .pointer (some a) => .pointer (some ⟨r a.block, a.off, a.spot⟩)
  | .slice (some a) l c => .slice (some ⟨r a.block, a.off, a.spot⟩) l c
  | .agg ⟨l⟩ => .agg ⟨renL r l⟩
  | .tuple ⟨l⟩ => .tuple ⟨renL r l⟩
  | .map (some b) => .map (some (r b))
  | .func f ⟨a⟩ ⟨b⟩ => .func (renF r f) ⟨renL r a⟩ ⟨renL r b⟩
  | .iface t v => .iface t (renV r v)
  | v => v
def renL (r : Nat → Nat) : List Value → List Value
  | [] => []
  | x :: l => renV r x :: renL r l
end

theorem renL_map (r : Nat → Nat) : ∀ l, renL r l = l.map (renV r)
  | [] => rfl
  | x :: l => by simp [renL, renL_map r l]

theorem flat_ren (r : Nat → Nat) (v : Value) (h : flat (renV r v) = true) : flat v = true ∧ renV r v = v := by
  cases v with
  | pointer p => cases p with
    | none => exact ⟨rfl, rfl⟩
    | some a => simp [renV, flat] at h
  | slice p l c => cases p with
    | none => exact ⟨rfl, rfl⟩
    | some a => simp [renV, flat] at h
  | agg a => obtain ⟨l⟩ := a; simp [renV, flat] at h
  | tuple a => obtain ⟨l⟩ := a; simp [renV, flat] at h
  | func f a b =>
    obtain ⟨a⟩ := a
    obtain ⟨b⟩ := b
    cases f with
    | func i =>
      simp only [renV, renF, flat, Bool.and_eq_true, List.isEmpty_toArray, List.isEmpty_iff, renL_map, List.map_eq_nil_iff] at h
      obtain ⟨rfl, rfl⟩ := h
      exact ⟨rfl, rfl⟩
    | _ => simp [renV, renF, flat] at h
  | map m => cases m with
    | none => exact ⟨rfl, rfl⟩
    | some b => simp [renV, flat] at h
  | iface t v => simp [renV, flat] at h
  | _ => exact ⟨h, rfl⟩

theorem LRel.of_ren {μ : Mu} {r : Nat → Nat} {l l' : List Value} (h : LRel μ (renL r l) l') (ih : ∀ x ∈ l, ∀ y, VRel μ (renV r x) y → VRel (fun b => μ (r b)) x y) : LRel (fun b => μ (r b)) l l' := by
  rw [renL_map] at h
  refine ⟨by have := h.1; simpa using this, fun i x y hx hy => ?_⟩
  exact ih x (List.mem_of_getElem? hx) y (h.2 i (renV r x) y (by simp [hx]) hy)

mutual
theorem VRel.of_ren {μ : Mu} {r : Nat → Nat} : ∀ (v : Value) {v' : Value}, VRel μ (renV r v) v' → VRel (fun b => μ (r b)) v v'
  | .pointer none, v', h => by have := h.flat_eq rfl; subst this; exact .flat rfl
  | .pointer (some ⟨b, o, s⟩), v', h => by
    simp only [renV] at h
    cases h with
    | flat h => simp [flat] at h
    | ptr h => exact .ptr h
  | .slice none l c, v', h => by have := h.flat_eq rfl; subst this; exact .flat rfl
  | .slice (some ⟨b, o, s⟩) l c, v', h => by
    simp only [renV] at h
    cases h with
    | flat h => simp [flat] at h
    | slice h => exact .slice h
    | hid h a b c d e => exact .hid h a b c d e
    | hemp h => exact .hemp h
    | zer => exact .zer
  | .agg ⟨l⟩, v', h => by
    simp only [renV] at h
    obtain ⟨ys, rfl, hl⟩ := h.agg_iff
    exact .of_list_agg (LRel.of_ren' l hl)
  | .tuple ⟨l⟩, v', h => by
    simp only [renV] at h
    obtain ⟨ys, rfl, hl⟩ := h.tuple_iff
    exact .of_list_tuple (LRel.of_ren' l hl)
  | .func f ⟨a⟩ ⟨b⟩, v', h => by
    by_cases hf : flat (renV r (.func f ⟨a⟩ ⟨b⟩)) = true
    · obtain ⟨h1, h2⟩ := flat_ren r _ hf
      have h3 := h.flat_eq hf
      rw [h2] at h3
      subst h3
      exact .flat h1
    · simp only [renV] at h hf
      cases h with
      | flat h => exact absurd h hf
      | @func _ g _ ys _ zs hfr h1 h2 h3 h4 =>
        have q1 : LRel μ (renL r a) ys.toList := ⟨by simpa using h1, fun i x y hx hy => h2 i x y (by simpa using hx) (by simpa using hy)⟩
        have q2 : LRel μ (renL r b) zs.toList := ⟨by simpa using h3, fun i x y hx hy => h4 i x y (by simpa using hx) (by simpa using hy)⟩
        have p1 := LRel.of_ren' a q1
        have p2 := LRel.of_ren' b q2
        refine .func ?_ (by simpa using p1.1) (fun i x y hx hy => p1.2 i x y (by simpa using hx) (by simpa using hy)) (by simpa using p2.1) (fun i x y hx hy => p2.2 i x y (by simpa using hx) (by simpa using hy))
        cases f with
        | yield l => exact hfr
        | _ => exact hfr
  | .iface t v, v', h => by
    simp only [renV] at h
    cases h with
    | flat h => simp [flat] at h
    | iface h => exact .iface (VRel.of_ren v h)
  | .bool _, v', h => by have := h.flat_eq rfl; subst this; exact .flat rfl
  | .int _ _, v', h => by have := h.flat_eq rfl; subst this; exact .flat rfl
  | .float _ _, v', h => by have := h.flat_eq rfl; subst this; exact .flat rfl
  | .complex _ _ _, v', h => by have := h.flat_eq rfl; subst this; exact .flat rfl
  | .string _, v', h => by have := h.flat_eq rfl; subst this; exact .flat rfl
  | .map none, v', h => by have := h.flat_eq rfl; subst this; exact .flat rfl
  | .map (some _), v', h => by
    simp only [renV] at h
    cases h with
    | flat h => simp [flat] at h
    | map h => exact .map h
  | .chan none, v', h => by have := h.flat_eq rfl; subst this; exact .flat rfl
  | .chan (some _), v', h => by
    simp only [renV] at h
    cases h with
    | flat h => simp [flat] at h
  | .nilFunc, v', h => by have := h.flat_eq rfl; subst this; exact .flat rfl
  | .nilIface, v', h => by have := h.flat_eq rfl; subst this; exact .flat rfl
theorem LRel.of_ren' {μ : Mu} {r : Nat → Nat} : ∀ (l : List Value) {l' : List Value}, LRel μ (renL r l) l' → LRel (fun b => μ (r b)) l l'
  | [], l', h => by
    have := h.1
    simp only [renL, List.length_nil] at this
    obtain rfl := List.eq_nil_of_length_eq_zero this.symm
    exact LRel.nil _
  | x :: l, l', h => by
    simp only [renL] at h
    match l', h with
    | [], h => have := h.1; simp at this
    | y :: l', h => exact .cons (VRel.of_ren x h.head) (LRel.of_ren' l h.tail)
end

end
end Go.Abs

namespace Go.Abs
noncomputable section

mutual
theorem renV_id {r : Nat → Nat} {n : Nat} (hr : ∀ b, b < n → r b = b) : ∀ (v : Value), bdV n v = true → renV r v = v
  | .pointer none, _ => rfl
  | .pointer (some ⟨b, o, s⟩), h => by simp only [bdV, decide_eq_true_eq] at h; simp only [renV, hr b h]
  | .slice none l c, _ => rfl
  | .slice (some ⟨b, o, s⟩) l c, h => by simp only [bdV, decide_eq_true_eq] at h; simp only [renV, hr b h]
  | .agg ⟨l⟩, h => by simp only [renV]; rw [renL_id hr l h]
  | .tuple ⟨l⟩, h => by simp only [renV]; rw [renL_id hr l h]
  | .func f ⟨a⟩ ⟨b⟩, h => by
    simp only [bdV, Bool.and_eq_true] at h
    simp only [renV]
    rw [renL_id hr a h.2.1, renL_id hr b h.2.2]
    cases f with
    | yield l => simp only [bdF, decide_eq_true_eq] at h; simp only [renF, hr l h.1]
    | _ => rfl
  | .iface t v, h => by simp only [bdV] at h; simp only [renV]; rw [renV_id hr v h]
  | .bool _, _ => rfl
  | .int _ _, _ => rfl
  | .float _ _, _ => rfl
  | .complex _ _ _, _ => rfl
  | .string _, _ => rfl
  | .map none, _ => rfl
  | .map (some b), h => by simp only [bdV, decide_eq_true_eq] at h; simp only [renV, hr b h]
  | .chan _, _ => rfl
  | .nilFunc, _ => rfl
  | .nilIface, _ => rfl
theorem renL_id {r : Nat → Nat} {n : Nat} (hr : ∀ b, b < n → r b = b) : ∀ (l : List Value), bdL n l = true → renL r l = l
  | [], _ => rfl
  | x :: l, h => by
    simp only [bdL, Bool.and_eq_true] at h
    simp only [renL]
    rw [renV_id hr x h.1, renL_id hr l h.2]
end

/-- Objects with other block numbers. -/
def renO (r : Nat → Nat) : MObj → MObj
  | .map es c => .map (es.map fun x => (renV r x.1, renV r x.2.1, x.2.2)) c
  | .iter m a b c => .iter (m.map r) a b c
  | .loop st p t q a b => .loop st p (renL r t) q a b
def renB (r : Nat → Nat) : BB → BB
  | .cells k => .cells (renL r k)
  | .obj o => .obj (renO r o)
theorem renO_id {r : Nat → Nat} {n : Nat} (hr : ∀ b, b < n → r b = b) {o : MObj} (h : bdO n o = true) : renO r o = o := by
  cases o with
  | map es c =>
    simp only [bdO, List.all_eq_true, Bool.and_eq_true] at h
    simp only [renO]
    congr 1
    have : es.map (fun x => (renV r x.1, renV r x.2.1, x.2.2)) = es.map id := List.map_congr_left fun x hx => by
      have := h x hx
      rw [renV_id hr x.1 this.1, renV_id hr x.2.1 this.2]; rfl
    rw [this, List.map_id]
  | iter m a b c =>
    cases m with
    | none => rfl
    | some q => simp only [bdO, decide_eq_true_eq] at h; simp only [renO, Option.map_some, hr q h]
  | loop st p t q a b => simp only [renO]; rw [renL_id hr t h]
/-- A block leads to given numbers alone. -/
def bdB (n : Nat) : BB → Bool
  | .cells k => bdL n k
  | .obj o => bdO n o
theorem renB_id {r : Nat → Nat} {n : Nat} (hr : ∀ b, b < n → r b = b) {x : BB} (h : bdB n x = true) : renB r x = x := by
  cases x with
  | cells k => simp only [renB, renL_id hr k h]
  | obj o => simp only [renB, renO_id hr h]
theorem HeapBd.bb {h : Heap} (hb : HeapBd h) {b : Nat} {x : BB} (hg : h.getB b = some x) : bdB h.next x = true := by
  cases x with
  | cells k => exact hb b k (h.get_of_getB hg)
  | obj o => exact hb.obj b o hg
theorem MRel.of_ren {μ : Mu} {r : Nat → Nat} {o : MObj} {ob : Obj} (h : MRel μ (renO r o) ob) : MRel (fun b => μ (r b)) o ob := by
  cases o with
  | map es c =>
    cases ob with
    | map es' c' =>
      obtain ⟨h1, h2, h3⟩ := h
      refine ⟨h1, by simpa using h2, fun i x e hx he => ?_⟩
      have := h3 i (renV r x.1, renV r x.2.1, x.2.2) e (by simp [hx]) he
      exact ⟨VRel.of_ren _ this.1, VRel.of_ren _ this.2.1, this.2.2⟩
    | _ => exact h.elim
  | iter m a b c =>
    cases ob with
    | mapIter m' a' b' c' =>
      obtain ⟨h1, h2⟩ := h
      refine ⟨?_, h2⟩
      cases m with
      | none => cases m' with
        | none => trivial
        | some B => exact h1
      | some q => cases m' with
        | none => exact h1
        | some B => exact h1
    | _ => exact h.elim
  | loop st p t q a b =>
    cases ob with
    | loop R =>
      obtain ⟨h1, h2, h3, h4⟩ := h
      exact ⟨h1, h2, LRel.of_ren' _ h3, h4⟩
    | _ => exact h.elim
/-- What a run left is what is told, but for blocks that nobody knows, and for the new blocks' numbers. -/
structure Gc (h : Heap) (v : Value) (h' : Heap) (v1 : Value) (h1 : Heap) (r : Nat → Nat) : Prop where
  low : ∀ b, b < h.next → r b = b
  new : ∀ b, h.next ≤ b → b < h'.next → h.next ≤ r b
  inj : ∀ b b', h.next ≤ b → b < h'.next → h.next ≤ b' → b' < h'.next → r b = r b' → b = b'
  val : v1 = renV r v
  get : ∀ b k, h'.n0 ≤ b → h'.getB b = some k → h1.getB (r b) = some (renB r k)
theorem Gc.getC {h : Heap} {v : Value} {h' : Heap} {v1 : Value} {h1 : Heap} {r : Nat → Nat} (G : Gc h v h' v1 h1 r) (b : Nat) (k : Blk) (hb : h'.n0 ≤ b) (hg : h'.get b = some k) : h1.get (r b) = some (renL r k) :=
  h1.get_of_getB (G.get b _ hb (h'.getB_of_get hg))

theorem gc_sound {μ μ1 : Mu} {h h' h1 : Heap} {w w' : World} {v v1 v' : Value} {r : Nat → Nat} (G : Gc h v h' v1 h1 r) (gr : Grow h h') (gr1 : Grow h h1) (hbh : HeapBd h) (hbh' : HeapBd h') (hbv : bdV h'.next v = true)
    (S1 : Sim μ1 h1 w') (St : Step (μ.cut h.next) h w μ1 h1 w') (hv : VRel μ1 v1 v') :
    ∃ μ', Sim μ' h' w' ∧ Step μ h w μ' h' w' ∧ VRel μ' v v' := by
  have hle := h.n0_le_next
  let μ' : Mu := fun b => if b < h.next then μ b else if b < h'.next then μ1 (r b) else μ b
  have e1 : ∀ b, b < h.next → μ1 b = μ b := fun b hb => by rw [St.ext b (.inl hb)]; simp [Mu.cut, hb]
  have e2 : ∀ b, b < h'.next → μ' b = μ1 (r b) := by
    intro b hb
    by_cases hb1 : b < h.next
    · rw [G.low b hb1, e1 b hb1]; simp [μ', hb1]
    · simp [μ', hb1, hb]
  have up : ∀ b L, Mu.cut (fun b => μ1 (r b)) h'.next b = some L → μ' b = some L := by
    intro b L hb
    obtain ⟨h2, h3⟩ := Mu.cut_le hb
    rw [e2 b h3]; exact h2
  have relL : ∀ {k l : List Value}, bdL h'.next k = true → LRel μ1 (renL r k) l → LRel μ' k l := fun hb hl => ((LRel.of_ren' _ hl).cut hb).mono up
  have relV : ∀ {k l : Value}, bdV h'.next k = true → VRel μ1 (renV r k) l → VRel μ' k l := fun hb hl => ((VRel.of_ren _ hl).cut hb).mono up
  have n1 : h1.n0 = h'.n0 := gr1.2.1.trans gr.2.1.symm
  have n2 : h'.n0 = h.n0 := gr.2.1
  have rge : ∀ b, h'.n0 ≤ b → b < h'.next → h'.n0 ≤ r b := by
    intro b hb hbn
    by_cases hb1 : b < h.next
    · rw [G.low b hb1]; exact hb
    · have := G.new b (by omega) hbn; omega
  have rinj : ∀ b b', b < h'.next → b' < h'.next → r b = r b' → b = b' := by
    intro b b' hb hb' he
    by_cases c1 : b < h.next
    · by_cases c2 : b' < h.next
      · rw [G.low b c1, G.low b' c2] at he; exact he
      · have := G.new b' (by omega) hb'; rw [G.low b c1] at he; omega
    · by_cases c2 : b' < h.next
      · have := G.new b (by omega) hb; rw [G.low b' c2] at he; omega
      · exact G.inj b b' (by omega) hb (by omega) hb' he
  refine ⟨μ', ⟨?_, ?_, ?_, ?_, ?_, ?_⟩, ?_, ?_⟩
  · intro b cs hb hc
    have hbl : b < h.next := by omega
    obtain ⟨L, arr, T, fr, h2, h3, h4, h5, h6⟩ := S1.old b cs (n1 ▸ hb) (by rw [gr1.2.2, ← gr.2.2]; exact hc)
    have hbd : bdL h.next cs = true := by
      refine hbh b cs ?_
      unfold Heap.get; simp only [Heap.getB_eq]
      rw [if_pos (n2 ▸ hb), ← gr.2.2, hc]; rfl
    refine ⟨L, arr, T, fr, ?_, h3, h4, h5, ?_⟩
    · rw [e2 b (by have := gr.1; omega), G.low b hbl]; exact h2
    · exact ⟨h6.1, fun i x y hx hy hh => relV (bdL_get (bdL_mono gr.1 hbd) hx) (by rw [renV_id G.low x (bdL_get hbd hx)]; exact h6.2 i x y hx hy hh)⟩
  · intro b k hb hg
    have hbn := h'.lt_of_get hg
    obtain ⟨L, arr, T, fr, h2, h3, h4, h5, h6, h7, h8, h9⟩ := S1.new (r b) _ (n1 ▸ rge b hb hbn) (G.getC b k hb hg)
    refine ⟨L, arr, T, fr, by rw [e2 b hbn]; exact h2, by rw [h3, renL_map]; simp, h4, h5, h6, h7, n1 ▸ h8, relL (hbh' b k hg) h9⟩
  · intro b o hb hg
    have hbn := h'.lt_of_getB hg
    obtain ⟨L, ob, h2, h3, h4, h5, h6⟩ := S1.obj (r b) _ (n1 ▸ rge b hb hbn) (G.get b _ hb hg)
    exact ⟨L, ob, by rw [e2 b hbn]; exact h2, h3, (h4.of_ren.cut (hbh'.obj b o hg)).mono up, n1 ▸ h5, h6⟩
  · intro b b' k k' L L' hb hb' hne hg hg' hL hL'
    have hbn := h'.lt_of_getB hg
    have hbn' := h'.lt_of_getB hg'
    rw [e2 b hbn] at hL
    rw [e2 b' hbn'] at hL'
    exact S1.inj (r b) (r b') _ _ L L' (n1 ▸ rge b hb hbn) (n1 ▸ rge b' hb' hbn') (fun he => hne (rinj b b' hbn hbn' he)) (G.get b k hb hg) (G.get b' k' hb' hg') hL hL'
  · rw [← n1]; exact S1.size
  · intro b hb
    obtain ⟨L, h2, h3⟩ := S1.low b (n1 ▸ hb)
    exact ⟨L, by rw [e2 b (by have := gr.1; omega), G.low b (by omega)]; exact h2, h3⟩
  · have ownup : ∀ B, Own (μ.cut h.next) h B → Own μ h B := by
      rintro B ⟨b, k, L, h2, h3, h4, h5⟩
      exact ⟨b, k, L, h2, h3, (Mu.cut_le h4).1, h5⟩
    have owndn : ∀ B, Own μ h B → Own (μ.cut h.next) h B := by
      rintro B ⟨b, k, L, h2, h3, h4, h5⟩
      exact ⟨b, k, L, h2, h3, Mu.cut_some h4 (h.lt_of_getB h3), h5⟩
    refine ⟨?_, gr.2.1, gr.2.2, gr.1, St.os, St.tape, St.output, St.size, fun B hB hO => St.same B hB (fun h2 => hO (ownup B h2)), ?_, St.loops, St.drawn⟩
    · intro b hb
      simp only [μ']
      rcases hb with hb | hb
      · rw [if_pos hb]
      · rw [if_neg (by have := gr.1; omega), if_neg (by omega)]
    · rintro B ⟨b, k, L, h2, h3, h4, h5⟩
      have hbn := h'.lt_of_getB h3
      rw [e2 b hbn] at h4
      exact (St.own B ⟨r b, _, L, n1 ▸ rge b h2 hbn, G.get b k h2 h3, h4, h5⟩).imp (ownup B) id
  · exact relV hbv (G.val ▸ hv)

/-- A function does what is told of it. -/
structure Contract (P : Program) (f : FuncId) (s : List Value → Heap → Out) : Prop where
  fn : f < P.funcs.size
  grow : ∀ args h v h', s args h = some (v, h') → Grow h h'
  bd : ∀ args h v h', s args h = some (v, h') → bdL h.next args = true → HeapBd h → bdV h'.next v = true ∧ HeapBd h'
  run : ∀ args h v h', s args h = some (v, h') → bdL h.next args = true → HeapBd h → P.globals.size ≤ h.n0 → ∀ μ w args', Sim μ h w → Free μ h h' → LRel μ args args' →
    Runs P f args'.toArray w (After μ h w v h')

theorem Contract.of_body {P : Program} {C : CallF} (hC : CSound P C) (hm : P.follows .mixedOrders = true) {f : FuncId} {fn : Func} {c : Code} {s : List Value → Heap → Out}
    (hf : P.funcs[f]? = some fn) (hn : (fn.name == "runtime.NumGoroutine") = false) (hb : fn.body = some c) (hok : codeOk P c = true)
    (grow : ∀ args h v h', s args h = some (v, h') → Grow h h')
    (bd : ∀ args h v h', s args h = some (v, h') → bdL h.next args = true → HeapBd h → bdV h'.next v = true ∧ HeapBd h')
    (body : ∀ args h v h', s args h = some (v, h') → bdL h.next args = true → HeapBd h → P.globals.size ≤ h.n0 → ∃ v1 h1 r, bodyK P C fn args h = some (v1, h1) ∧ Gc h v h' v1 h1 r) : Contract P f s where
  fn := (Array.getElem?_eq_some_iff.1 hf).1
  grow := grow
  bd := bd
  run := by
    intro args h v h' hs hba hbh hg μ w args' S hfr r
    obtain ⟨v1, h1, rr, he, G⟩ := body args h v h' hs hba hbh hg
    rw [bodyK_eq] at he
    have gr1 : Grow h h1 := by
      unfold bodyA at he
      rw [hb] at he
      simp only at he
      cases hc : codeA P C c (args ++ List.replicate (fn.ntmps - args.length) undef) h with
      | none => rw [hc] at he; cases he
      | some y =>
        obtain ⟨ex, e1, h2⟩ := y
        rw [hc] at he
        have hgrow : resultsA P fn.results.toList e1 h2 = some (v1, h1) := by
          cases ex with
          | normal => exact he
          | ret => exact he
          | exit i => cases he
        rw [resultsA_grow hgrow]
        exact codeA_grow hC c hc
    have hcut : Free (μ.cut h.next) h h1 := fun b hb _ => by simp [Mu.cut, Nat.not_lt.2 hb]
    refine .inl ⟨fn, hf, hn, by rw [hb]; rfl, (body_sound hC hm hf hb hok he hg hba hbh (S.cut hbh) hcut (r.cut hba)).mono ?_⟩
    rintro e w' ⟨μ1, v', rfl, S1, St, hv⟩
    obtain ⟨hb1, hb2⟩ := bd args h v h' hs hba hbh
    obtain ⟨μ', h2, h3, h4⟩ := gc_sound G (grow args h v h' hs) gr1 hbh hb2 hb1 S1 St hv
    exact ⟨μ', v', rfl, h2, h3, h4⟩

/-- Calls by a list of what is told of functions. -/
def callL : List (FuncId × (List Value → Heap → Out)) → CallF
  | [], _, _, _ => none
  | (g, s) :: t, f, args, h => if f = g then s args h else callL t f args h

theorem callL_mem {l : List (FuncId × (List Value → Heap → Out))} {f : FuncId} {args : List Value} {h : Heap} {r : Value × Heap} (he : callL l f args h = some r) : ∃ p ∈ l, p.1 = f ∧ p.2 args h = some r := by
  induction l with
  | nil => cases he
  | cons p t ih =>
    obtain ⟨g, s⟩ := p
    simp only [callL] at he
    split at he
    · rename_i e; exact ⟨(g, s), by simp, e.symm, he⟩
    · obtain ⟨q, h1, h2⟩ := ih he
      exact ⟨q, by simp [h1], h2⟩

theorem callL_sound {P : Program} (l : List (FuncId × (List Value → Heap → Out))) (hl : ∀ p ∈ l, Contract P p.1 p.2) : CSound P (callL l) := by
  refine ⟨?_, ?_, ?_, ?_⟩
  · intro f args h v h' he
    obtain ⟨p, hp, rfl, he'⟩ := callL_mem he
    exact (hl p hp).grow args h v h' he'
  · intro f args h v h' he
    obtain ⟨p, hp, rfl, he'⟩ := callL_mem he
    exact (hl p hp).bd args h v h' he'
  · intro f args h v h' he _
    obtain ⟨p, hp, rfl, he'⟩ := callL_mem he
    exact (hl p hp).run args h v h' he'
  · intro l' args h v h' he
    obtain ⟨p, hp, hf, he⟩ := callL_mem he
    have h1 := (hl p hp).fn
    rw [hf] at h1
    exact absurd h1 (Nat.not_lt.2 (Nat.le_add_right _ _))

/-- Nothing has been left, and nothing was written. -/
theorem Gc.none {h h1 : Heap} {v : Value} (hb : bdV h.next v = true) (hbh : HeapBd h) (hk : ∀ b k, h.n0 ≤ b → h.getB b = some k → h1.getB b = some k) : Gc h v h v h1 id where
  low _ _ := rfl
  new _ h1 h2 := by omega
  inj _ _ h1 h2 := by omega
  val := (renV_id (n := h.next) (fun _ _ => rfl) v hb).symm
  get b k h1 h2 := by rw [renB_id (r := id) (n := h.next) (fun _ _ => rfl) (hbh.bb h2)]; exact hk b k h1 h2

/-- The told heap is a part of the run's. -/
theorem Gc.sub {h h' h1 : Heap} {v : Value} (hb : bdV h'.next v = true) (hbh : HeapBd h') (hk : ∀ b k, h'.n0 ≤ b → h'.getB b = some k → h1.getB b = some k) : Gc h v h' v h1 id where
  low _ _ := rfl
  new _ h1 _ := h1
  inj _ _ _ _ _ _ h := h
  val := (renV_id (n := h'.next) (fun _ _ => rfl) v hb).symm
  get b k h1 h2 := by rw [renB_id (r := id) (n := h'.next) (fun _ _ => rfl) (hbh.bb h2)]; exact hk b k h1 h2

/-- One new block is left, under another number. -/
def ren1 (n B : Nat) : Nat → Nat := fun b => if b = n then B else b
theorem Gc.one {h hm h1 : Heap} {v v1 : Value} {k : Blk} {B : Nat} (hn : hm.next = h.next) (h0 : hm.n0 = h.n0) (hB : h.next ≤ B) (hbm : HeapBd hm) (hv : v1 = renV (ren1 h.next B) v) (hk : h1.getB B = some (.cells (renL (ren1 h.next B) k)))
    (hs : ∀ b k, h.n0 ≤ b → hm.getB b = some k → h1.getB b = some k) : Gc h v (hm.alloc k) v1 h1 (ren1 h.next B) where
  low b hb := by unfold ren1; rw [if_neg (by omega)]
  new b h2 h3 := by
    rw [Heap.next_alloc, hn] at h3
    unfold ren1
    rw [if_pos (by omega)]; exact hB
  inj b b' h2 h3 h4 h5 _ := by rw [Heap.next_alloc, hn] at h3 h5; omega
  val := hv
  get b k' h2 h3 := by
    rw [Heap.getB_alloc, hn] at h3
    by_cases e : b = h.next
    · rw [if_pos e] at h3
      cases h3
      have : ren1 h.next B b = B := by unfold ren1; rw [if_pos e]
      rw [this]; exact hk
    · rw [if_neg e] at h3
      have hb := hm.lt_of_getB h3
      have : ren1 h.next B b = b := by unfold ren1; rw [if_neg e]
      rw [this, renB_id (n := hm.next) (fun c hc => by unfold ren1; rw [if_neg (by omega)]) (hbm.bb h3)]
      exact hs b k' (by rw [Heap.n0_alloc, h0] at h2; exact h2) h3

end
end Go.Abs

namespace Go.Abs
noncomputable section

def pu (v : Option Value) (h : Heap) : Out := v.map fun v => (v, h)
/-- The part of code at a path: 0 the first part, 1 the second. -/
def codeAt : List Nat → Code → Code
  | [], c => c
  | 0 :: p, .seq a _ => codeAt p a
  | _ :: p, .seq _ b => codeAt p b
  | 0 :: p, .cond _ a _ => codeAt p a
  | _ :: p, .cond _ _ b => codeAt p b
  | _ :: p, .block _ b => codeAt p b
  | _ :: p, .loop b => codeAt p b
  | _ :: p, .scope b => codeAt p b
  | _ :: _, c => c
def partOf (fn : Func) (p : List Nat) : Code :=
  match fn.body with
  | some c => codeAt p c
  | none => .skip
def bOf : Value → Option Bool
  | .bool b => some b
  | _ => none
def newC (cells : List Value) (h : Heap) : Out := some (newRow cells h)
def bldR (z : List Value) (ps : List (Nat × Nat × Value)) : Option Value := (fillL z ps).map fun cs => .agg cs.toArray
def bslR (n : Nat) (z : Value) (len : Nat) (parts : List (Nat × Value)) (h : Heap) : Out :=
  if flatAll z.cells.toList && z.cells.size = n && 0 < n && len * n ≤ 16777216 && oneCells (parts.flatMap fun x => x.2.cells.toList) then
    match fillL (zeros z.cells.toList len) (parts.map fun x => (x.1 * n, n, x.2)) with
    | some cs => some (.slice (some ⟨h.next, 0, none⟩) len len, h.alloc cs)
    | none => none
  else none
def cvI (k : IntKind) (x : Value) (h : Heap) : Out :=
  match x with
  | .int _ n => some (.int k (k.wrap n), h)
  | _ => none
def mkR (n by_ : Nat) (z : Value) (len cap : Value) (h : Heap) : Out :=
  match len, cap with
  | .int .i64 l, .int .i64 c =>
    if 0 ≤ l && l ≤ c && c ≤ 9223372036854775807 && by_ * c ≤ 281474976710656 && flatAll z.cells.toList && z.cells.size = n && 0 < n then
      some (.slice (some ⟨h.next, 0, none⟩) l.toNat c.toNat, h.alloc (zeros z.cells.toList c.toNat))
    else none
  | _, _ => none
def slR (size : Nat) (x : Value) (lo hi mx : Option Value) : Option Value :=
  match x with
  | .string _ => none
  | x => sliceSl size x lo hi mx
def ixA1 (n z : Nat) (x i : Value) : Option Value :=
  match x, i with
  | .agg cs, .int _ i => if 0 ≤ i ∧ i < n then cs[i.toNat * z]? else none
  | _, _ => none
def lenS (x : Value) : Option Value :=
  match x with
  | .string s => some (.int .i64 s.size)
  | _ => none
def lenL (x : Value) : Option Value :=
  match x with
  | .slice _ n _ => some (.int .i64 n)
  | _ => none
/-- What comes behind a loop. -/
def endL {α : Type} (y : Option (Ex × Env × Heap)) (r : Env → Heap → Option α) (x : Nat → Env → Heap → Option α) : Option α :=
  match y with
  | some (.ret, e', h') => r e' h'
  | some (.exit i, e', h') => x i e' h'
  | _ => none

end
end Go.Abs

namespace Go.Abs
noncomputable section

abbrev AL := List (Nat × Value)
noncomputable def lkB (e0 : Env) (l : AL) (t : Nat) : Value :=
  List.rec (motive := fun _ => Value) (e0.getD t undef) (fun p _ ih => Bool.rec (motive := fun _ => Value) ih p.2 (Nat.beq p.1 t)) l
def putB (n : Nat) (l : AL) (d : Option Tmp) (v : Value) : AL :=
  match d with
  | some t => match Nat.blt t n with
    | true => (t, v) :: l
    | false => l
  | none => l
noncomputable def expB (n : Nat) (e0 : Env) (l : AL) : Env := (List.range n).map (lkB e0 l)

theorem lkB_nil (e0 : Env) (t : Nat) : lkB e0 [] t = e0.getD t undef := rfl
theorem lkB_cons (e0 : Env) (p : Nat × Value) (l : AL) (t : Nat) : lkB e0 (p :: l) t = if p.1 = t then p.2 else lkB e0 l t := by
  show Bool.rec (motive := fun _ => Value) (lkB e0 l t) p.2 (Nat.beq p.1 t) = _
  cases hb : Nat.beq p.1 t with
  | true => rw [if_pos (Nat.eq_of_beq_eq_true hb)]
  | false => rw [if_neg (Nat.ne_of_beq_eq_false hb)]

theorem getElem?_expB (n : Nat) (e0 : Env) (l : AL) (t : Nat) : (expB n e0 l)[t]? = if t < n then some (lkB e0 l t) else none := by
  unfold expB
  rw [List.getElem?_map]
  by_cases h : t < n
  · rw [if_pos h, List.getElem?_range h]; rfl
  · rw [if_neg h, List.getElem?_eq_none (by simpa using h)]; rfl

theorem expB_nil (e0 : Env) : expB e0.length e0 [] = e0 := by
  apply List.ext_getElem?
  intro i
  rw [getElem?_expB]
  by_cases h : i < e0.length
  · rw [if_pos h, lkB_nil, List.getD_eq_getElem?_getD, List.getElem?_eq_getElem h]; rfl
  · rw [if_neg h, List.getElem?_eq_none (by omega)]

theorem expB_put (n : Nat) (e0 : Env) (l : AL) (d : Option Tmp) (v : Value) : expB n e0 (putB n l d v) = putD (expB n e0 l) d v := by
  cases d with
  | none => rfl
  | some t =>
    apply List.ext_getElem?
    intro i
    unfold putD putB
    simp only
    rw [List.getElem?_set, getElem?_expB]
    have hlen : (expB n e0 l).length = n := by simp [expB]
    rw [hlen]
    cases hb : Nat.blt t n with
    | true =>
      have ht : t < n := by simpa using hb
      simp only [getElem?_expB, lkB_cons, ht, if_true]
      by_cases e : t = i
      · subst e; simp [ht]
      · simp [e]
    | false =>
      have ht : ¬ t < n := by
        intro h
        rw [show Nat.blt t n = true by simpa using h] at hb; cases hb
      simp only [getElem?_expB, ht, if_false]
      by_cases e : t = i
      · subst e; simp [ht]
      · simp [e]

noncomputable def evB (n : Nat) (e0 : Env) (l : AL) : Operand → Value
  | .tmp t => match Nat.blt t n with
    | true => lkB e0 l t
    | false => undef
  | .const v => v
  | .global g => ptr g 0
  | .func f => .func (.func f) #[] #[]

theorem evB_eq (n : Nat) (e0 : Env) (l : AL) : ev (expB n e0 l) = evB n e0 l := by
  funext x
  cases x with
  | tmp t =>
    simp only [ev, evB, List.getD_eq_getElem?_getD, getElem?_expB]
    cases hb : Nat.blt t n with
    | true => have ht : t < n := by simpa using hb
              simp [ht]
    | false =>
      have ht : ¬ t < n := by
        intro h
        rw [show Nat.blt t n = true by simpa using h] at hb; cases hb
      simp [ht]
  | _ => rfl

noncomputable def yieldB (n : Nat) (e0 : Env) (ops : Array Oper) (l : AL) (j : Nat) : Option Bool :=
  match (ops[j]?).bind (·.dst) with
  | some t => match Nat.blt t n with
    | true => bOf (lkB e0 l t)
    | false => none
  | none => none

theorem yieldB_eq (n : Nat) (e0 : Env) (ops : Array Oper) (l : AL) (j : Nat) : yieldA ops (expB n e0 l) j = yieldB n e0 ops l j := by
  unfold yieldA yieldB
  cases (ops[j]?).bind (·.dst) with
  | none => rfl
  | some t =>
    simp only [Option.bind_some, getElem?_expB]
    cases hb : Nat.blt t n with
    | true =>
      have ht : t < n := by simpa using hb
      simp only [ht, if_true]
      cases lkB e0 l t <;> rfl
    | false =>
      have ht : ¬ t < n := by
        intro h
        rw [show Nat.blt t n = true by simpa using h] at hb; cases hb
      simp [ht]

section
variable {α : Type} (P : Program) (C : CallF) (n : Nat) (e0 : Env)

noncomputable def opsB (ops : Array Oper) (os : List Oper) : AL → Heap → (AL → Heap → Option α) → Option α :=
  List.rec (motive := fun _ => AL → Heap → (AL → Heap → Option α) → Option α) (fun l h k => k l h)
    (fun o _ ih l h k =>
      match o.guard with
      | none => thenV (opA P C o (evB n e0 l) h) fun v h' => ih (putB n l o.dst v) h' k
      | some (j, want) => thenV (guardK (yieldB n e0 ops l j == some want) (opA P C o (evB n e0 l) h) h) fun v h' => ih (putB n l o.dst v) h' k) os

theorem opsB_eq (ops : Array Oper) : ∀ (os : List Oper) (l : AL) (h : Heap) (k : AL → Heap → Option α) (kk : Env → Heap → Option α), (∀ l h, k l h = kk (expB n e0 l) h) →
    opsB P C n e0 ops os l h k = opsK P C ops os (expB n e0 l) h kk
  | [], l, h, k, kk, hk => hk l h
  | o :: rest, l, h, k, kk, hk => by
    have ih : ∀ l h, List.rec (motive := fun _ => AL → Heap → (AL → Heap → Option α) → Option α) (fun l h k => k l h)
        (fun o _ ih l h k =>
          match o.guard with
          | none => thenV (opA P C o (evB n e0 l) h) fun v h' => ih (putB n l o.dst v) h' k
          | some (j, want) => thenV (guardK (yieldB n e0 ops l j == some want) (opA P C o (evB n e0 l) h) h) fun v h' => ih (putB n l o.dst v) h' k) rest l h k = opsK P C ops rest (expB n e0 l) h kk := fun l h => opsB_eq ops rest l h k kk hk
    unfold opsB opsK
    simp only [evB_eq, yieldB_eq]
    cases hg : o.guard with
    | none =>
      simp only
      congr 1
      funext v h'
      rw [ih, expB_put]
    | some g =>
      obtain ⟨j, want⟩ := g
      simp only
      congr 1
      funext v h'
      rw [ih, expB_put]

structure Tb where
  l : AL
  h : Heap
  v : Value
  ran : Bool
noncomputable def chkB (os : List (Nat × Oper)) (tr : List Tb) (hs : List Heap) (x : Nat × Nat) : Bool :=
  match os[x.1]?, tr[x.1]?, heapAt (tr.map (·.ran)) hs (madeIn P os x) (if x.2 < x.1 then x.2 else x.2 + 1) with
  | some y, some t, some h => chkR t.ran (opA P C y.2 (evB n e0 t.l) h) t.v
  | some _, some t, none => !t.ran
  | _, _, _ => false
noncomputable def dynB (ops : Array Oper) (os : List (Nat × Oper)) (tr : List Tb) (hEnd : Heap) : Bool :=
  (dynPairs P ops os).foldr (fun x acc => chkB P C n e0 os tr (tr.map (·.h) ++ [hEnd]) x && acc) true
noncomputable def Tb.up (n : Nat) (e0 : Env) (t : Tb) : Tr1 := ⟨expB n e0 t.l, t.h, t.v, t.ran⟩
theorem dynB_eq (ops : Array Oper) (os : List (Nat × Oper)) (tr : List Tb) (hEnd : Heap) : dynB P C n e0 ops os tr hEnd = dynChk P C ops os (tr.map (Tb.up n e0)) hEnd := by
  unfold dynB dynChk
  congr 1
  funext x acc
  congr 1
  unfold chkB chkAt
  have h1 : (tr.map (Tb.up n e0)).map (·.h) = tr.map (·.h) := by simp [List.map_map, Function.comp_def, Tb.up]
  have h2 : (tr.map (Tb.up n e0)).map (·.ran) = tr.map (·.ran) := by simp [List.map_map, Function.comp_def, Tb.up]
  rw [h1, h2, List.getElem?_map]
  cases os[x.1]? with
  | none => rfl
  | some y =>
    cases tr[x.1]? with
    | none => rfl
    | some t =>
      cases heapAt (tr.map (·.ran)) (List.map (fun x => x.h) tr ++ [hEnd]) (madeIn P os x) (if x.2 < x.1 then x.2 else x.2 + 1) with
      | none => rfl
      | some h => simp [Tb.up, evB_eq]

noncomputable def traceB (ops : Array Oper) (os : List (Nat × Oper)) : AL → Heap → (List Tb → AL → Heap → Option α) → Option α :=
  List.rec (motive := fun _ => AL → Heap → (List Tb → AL → Heap → Option α) → Option α) (fun l h k => k [] l h)
    (fun x _ ih l h k =>
      match x.2.guard with
      | none => thenV (opA P C x.2 (evB n e0 l) h) fun v h' => ih (putB n l x.2.dst v) h' fun tr => k (⟨l, h, v, true⟩ :: tr)
      | some (j, want) => thenV (guardK (yieldB n e0 ops l j == some want) (opA P C x.2 (evB n e0 l) h) h) fun v h' => ih (putB n l x.2.dst v) h' fun tr => k (⟨l, h, v, yieldB n e0 ops l j == some want⟩ :: tr)) os

theorem traceB_eq (ops : Array Oper) : ∀ (os : List (Nat × Oper)) (l : AL) (h : Heap) (k : List Tb → AL → Heap → Option α) (kk : List Tr1 → Env → Heap → Option α), (∀ tr l h, k tr l h = kk (tr.map (Tb.up n e0)) (expB n e0 l) h) →
    traceB P C n e0 ops os l h k = traceK P C ops os (expB n e0 l) h kk
  | [], l, h, k, kk, hk => hk [] l h
  | x :: rest, l, h, k, kk, hk => by
    show (match x.2.guard with
      | none => thenV (opA P C x.2 (evB n e0 l) h) fun v h' => traceB P C n e0 ops rest (putB n l x.2.dst v) h' fun tr => k (⟨l, h, v, true⟩ :: tr)
      | some (j, want) => thenV (guardK (yieldB n e0 ops l j == some want) (opA P C x.2 (evB n e0 l) h) h) fun v h' => traceB P C n e0 ops rest (putB n l x.2.dst v) h' fun tr => k (⟨l, h, v, yieldB n e0 ops l j == some want⟩ :: tr)) = _
    unfold traceK
    simp only [evB_eq, yieldB_eq]
    cases hg : x.2.guard with
    | none =>
      simp only
      congr 1
      funext v h'
      rw [traceB_eq ops rest (putB n l x.2.dst v) h' _ (fun tr => kk (⟨expB n e0 l, h, v, true⟩ :: tr)) (fun tr l h => by rw [hk]; rfl), expB_put]
    | some g =>
      obtain ⟨j, want⟩ := g
      simp only
      congr 1
      funext v h'
      rw [traceB_eq ops rest (putB n l x.2.dst v) h' _ (fun tr => kk (⟨expB n e0 l, h, v, yieldB n e0 ops l j == some want⟩ :: tr)) (fun tr l h => by rw [hk]; rfl), expB_put]

noncomputable def regionB (ops : Array Oper) (draw : Bool) (l : AL) (h : Heap) (k : AL → Heap → Option α) : Option α :=
  match draw with
  | false => opsB P C n e0 ops ops.toList l h k
  | true =>
    match lateOk P ops with
    | true => opsB P C n e0 ops ((late P ops).map (·.2)) l h k
    | false => match statOk P ops (late P ops) with
      | true => traceB P C n e0 ops (late P ops) l h fun tr l' h' => match dynB P C n e0 ops (late P ops) tr h' with
        | true => k l' h'
        | false => none
      | false => none

theorem regionB_eq (ops : Array Oper) (draw : Bool) (l : AL) (h : Heap) (k : AL → Heap → Option α) (kk : Env → Heap → Option α) (hk : ∀ l h, k l h = kk (expB n e0 l) h) :
    regionB P C n e0 ops draw l h k = regionK P C ops draw (expB n e0 l) h kk := by
  unfold regionB regionK
  cases draw with
  | false => exact opsB_eq P C n e0 ops _ l h k kk hk
  | true =>
    simp only
    cases lateOk P ops with
    | true => exact opsB_eq P C n e0 ops _ l h k kk hk
    | false =>
      simp only
      cases statOk P ops (late P ops) with
      | false => rfl
      | true =>
        refine traceB_eq P C n e0 ops _ l h _ _ ?_
        intro tr l h
        rw [dynB_eq]
        cases dynChk P C ops (late P ops) (tr.map (Tb.up n e0)) h with
        | true => exact hk l h
        | false => rfl

/-- What comes behind a loop over a function. -/
def endN (o : Option (Ex × Env × Heap)) (n r : Env → Heap → Option α) (x : Nat → Env → Heap → Option α) : Option α :=
  match o with
  | some (.normal, e', h') => n e' h'
  | some (.ret, e', h') => r e' h'
  | some (.exit i, e', h') => x i e' h'
  | none => none
/-- Code, by its bare recursor: what comes behind is told twice, over the two kinds of environments. -/
noncomputable def codeB (c : Code) : AL → Heap → (AL → Heap → Option α) → (Env → Heap → Option α) → (AL → Heap → Option α) → (Env → Heap → Option α) → (Nat → AL → Heap → Option α) → (Nat → Env → Heap → Option α) → Option α :=
  Code.rec (motive := fun _ => AL → Heap → (AL → Heap → Option α) → (Env → Heap → Option α) → (AL → Heap → Option α) → (Env → Heap → Option α) → (Nat → AL → Heap → Option α) → (Nat → Env → Heap → Option α) → Option α)
    (fun l h k _ _ _ _ _ => k l h)
    (fun _ ops draw l h k _ _ _ _ _ => regionB P C n e0 ops draw l h k)
    (fun _ b ia ib l h k kE r rE x xE => ia l h (fun l' h' => ib l' h' k kE r rE x xE) (fun e' h' => codeK P C b e' h' kE rE xE) r rE x xE)
    (fun q _ _ ia ib l h k kE r rE x xE => match evB n e0 l q with
      | .bool true => ia l h k kE r rE x xE
      | .bool false => ib l h k kE r rE x xE
      | _ => none)
    (fun id _ ib l h k kE r rE x xE => ib l h k kE r rE (fun i l' h' => if i = id then k l' h' else x i l' h') (fun i e' h' => if i = id then kE e' h' else xE i e' h'))
    (fun b _ l h _ _ _ rE _ xE => endL (iter (codeA P C b) rounds (expB n e0 l) h) rE xE)
    (fun g ps a b _ _ l h _ kE _ rE _ xE => endN (codeA P C (.rangeFunc g ps a b) (expB n e0 l) h) kE rE xE)
    (fun i l h _ _ _ _ x _ => x i l h)
    (fun _ ib l h k kE r rE x xE => ib l h k kE r rE x xE)
    (fun _ l h k _ _ _ _ _ => k l h)
    (fun _ _ _ _ _ _ _ _ _ => none)
    (fun l h _ _ r _ _ _ => r l h)
    (fun _ _ _ _ _ _ _ _ _ => none) c

theorem codeB_eq : ∀ (c : Code) (l : AL) (h : Heap) (k : AL → Heap → Option α) (kE : Env → Heap → Option α) (r : AL → Heap → Option α) (rE : Env → Heap → Option α) (x : Nat → AL → Heap → Option α) (xE : Nat → Env → Heap → Option α),
    (∀ l h, k l h = kE (expB n e0 l) h) → (∀ l h, r l h = rE (expB n e0 l) h) → (∀ i l h, x i l h = xE i (expB n e0 l) h) →
    codeB P C n e0 c l h k kE r rE x xE = codeK P C c (expB n e0 l) h kE rE xE
  | .skip, l, h, k, kE, r, rE, x, xE, hk, hr, hx => hk l h
  | .region _ ops d, l, h, k, kE, r, rE, x, xE, hk, hr, hx => regionB_eq P C n e0 ops d l h k kE hk
  | .seq a b, l, h, k, kE, r, rE, x, xE, hk, hr, hx => by
    show codeB P C n e0 a l h (fun l' h' => codeB P C n e0 b l' h' k kE r rE x xE) (fun e' h' => codeK P C b e' h' kE rE xE) r rE x xE = _
    exact codeB_eq a l h _ _ r rE x xE (fun l h => codeB_eq b l h k kE r rE x xE hk hr hx) hr hx
  | .cond q a b, l, h, k, kE, r, rE, x, xE, hk, hr, hx => by
    show (match evB n e0 l q with
      | .bool true => codeB P C n e0 a l h k kE r rE x xE
      | .bool false => codeB P C n e0 b l h k kE r rE x xE
      | _ => none) = _
    unfold codeK
    rw [evB_eq, codeB_eq a l h k kE r rE x xE hk hr hx, codeB_eq b l h k kE r rE x xE hk hr hx]
    try rfl
  | .block id b, l, h, k, kE, r, rE, x, xE, hk, hr, hx => by
    show codeB P C n e0 b l h k kE r rE (fun i l' h' => if i = id then k l' h' else x i l' h') (fun i e' h' => if i = id then kE e' h' else xE i e' h') = _
    exact codeB_eq b l h k kE r rE _ _ hk hr (fun i l h => by simp only [hk, hx])
  | .loop b, l, h, k, kE, r, rE, x, xE, hk, hr, hx => rfl
  | .exit i, l, h, k, kE, r, rE, x, xE, hk, hr, hx => hx i l h
  | .scope b, l, h, k, kE, r, rE, x, xE, hk, hr, hx => codeB_eq b l h k kE r rE x xE hk hr hx
  | .label _, l, h, k, kE, r, rE, x, xE, hk, hr, hx => hk l h
  | .ret, l, h, k, kE, r, rE, x, xE, hk, hr, hx => hr l h
  | .goto _, l, h, k, kE, r, rE, x, xE, hk, hr, hx => rfl
  | .rangeFunc g ps a b, l, h, k, kE, r, rE, x, xE, hk, hr, hx => rfl
  | .refuse _, l, h, k, kE, r, rE, x, xE, hk, hr, hx => rfl

/-- Code from a given environment. -/
noncomputable def startB (c : Code) (h : Heap) (kE rE : Env → Heap → Option α) (xE : Nat → Env → Heap → Option α) : Option α :=
  codeB P C n e0 c [] h (fun l h => kE (expB n e0 l) h) kE (fun l h => rE (expB n e0 l) h) rE (fun i l h => xE i (expB n e0 l) h) xE
theorem startB_eq (hn : Nat.beq e0.length n = true) (c : Code) (h : Heap) (kE rE : Env → Heap → Option α) (xE : Nat → Env → Heap → Option α) :
    codeK P C c e0 h kE rE xE = startB P C n e0 c h kE rE xE := by
  unfold startB
  rw [codeB_eq P C n e0 c [] h (fun l h => kE (expB n e0 l) h) kE (fun l h => rE (expB n e0 l) h) rE (fun i l h => xE i (expB n e0 l) h) xE (fun _ _ => rfl) (fun _ _ => rfl) (fun _ _ _ => rfl)]
  obtain rfl := Nat.eq_of_beq_eq_true hn
  rw [expB_nil]
end

noncomputable def bodyB (P : Program) (C : CallF) (fn : Func) (args : List Value) (h : Heap) : Out :=
  match fn.body with
  | none => none
  | some c => startB P C fn.ntmps (args ++ List.replicate (fn.ntmps - args.length) undef) c h (resultsA P fn.results.toList) (resultsA P fn.results.toList) (fun _ _ _ => none)
theorem bodyB_eq (P : Program) (C : CallF) (fn : Func) (args : List Value) (h : Heap) (hn : Nat.ble args.length fn.ntmps = true) : bodyK P C fn args h = bodyB P C fn args h := by
  unfold bodyK bodyB
  cases fn.body with
  | none => rfl
  | some c =>
    refine startB_eq P C _ _ ?_ c h _ _ _
    have := Nat.le_of_ble_eq_true hn
    have h2 : (args ++ List.replicate (fn.ntmps - args.length) undef).length = fn.ntmps := by simp; omega
    rw [h2]
    exact Nat.beq_refl _
noncomputable def roundB (P : Program) (C : CallF) (n : Nat) (b : Code) (e : Env) (h : Heap) : Option (Ex × Env × Heap) :=
  startB P C n e b h (fun e h => some (.normal, e, h)) (fun e h => some (.ret, e, h)) (fun i e h => some (.exit i, e, h))
theorem roundB_eq (P : Program) (C : CallF) (n : Nat) (b : Code) (e : Env) (h : Heap) (hn : Nat.beq e.length n = true) : roundK P C b e h = roundB P C n b e h :=
  startB_eq P C n e hn b h _ _ _

end
end Go.Abs

namespace Go.Abs
noncomputable section

@[simp] theorem thenV_some {α : Type} (v : Value) (h : Heap) (k : Value → Heap → Option α) : thenV (some (v, h)) k = k v h := rfl
@[simp] theorem thenV_none {α : Type} (k : Value → Heap → Option α) : thenV none k = none := rfl
@[simp] theorem pu_some (v : Value) (h : Heap) : pu (some v) h = some (v, h) := rfl
@[simp] theorem guardK_true (o : Out) (h : Heap) : guardK true o h = o := rfl
@[simp] theorem guardK_false (o : Out) (h : Heap) : guardK false o h = some (undef, h) := rfl
@[simp] theorem bOf_bool (b : Bool) : bOf (.bool b) = some b := rfl
@[simp] theorem bOf_undef : bOf undef = none := rfl
@[simp] theorem endL_ret {α : Type} (e : Env) (h : Heap) (r : Env → Heap → Option α) (x : Nat → Env → Heap → Option α) : endL (some (.ret, e, h)) r x = r e h := rfl
@[simp] theorem endL_exit {α : Type} (i : Nat) (e : Env) (h : Heap) (r : Env → Heap → Option α) (x : Nat → Env → Heap → Option α) : endL (some (.exit i, e, h)) r x = x i e h := rfl
@[simp] theorem nilCheck_ptr (b o : Nat) : nilCheckA (ptr b o) = some (ptr b o) := rfl
@[simp] theorem addP_ptr (b o n : Nat) : addP (ptr b o) n = some (ptr b (o + n)) := rfl
@[simp] theorem lenL_slice (p : Option Addr) (n c : Nat) : lenL (.slice p n c) = some (.int .i64 n) := rfl
@[simp] theorem lenS_string (s : ByteArray) : lenS (.string s) = some (.int .i64 s.size) := rfl
@[simp] theorem unA_not (b : Bool) : unA .not (.bool b) = some (.bool !b) := rfl
@[simp] theorem extractA_tuple (vs : Array Value) (i : Nat) : extractA (.tuple vs) i = vs[i]? := rfl
@[simp] theorem cvI_int (k j : IntKind) (n : Int) (h : Heap) : cvI k (.int j n) h = some (.int k (k.wrap n), h) := rfl

section
variable (P : Program) (t : TypeId) (k : IntKind) (a b : Int)
theorem bin_int (op : BinOp) (k' : IntKind) : bin P op t (.int k a) (.int k' b) = binI op k k' a b := by cases op <;> rfl
@[simp] theorem bin_add : bin P .add t (.int k a) (.int k b) = some (.int k (k.wrap (a + b))) := by rw [bin_int]; simp [binI]
@[simp] theorem bin_sub : bin P .sub t (.int k a) (.int k b) = some (.int k (k.wrap (a - b))) := by rw [bin_int]; simp [binI]
@[simp] theorem bin_mul : bin P .mul t (.int k a) (.int k b) = some (.int k (k.wrap (a * b))) := by rw [bin_int]; simp [binI]
@[simp] theorem bin_eql : bin P .eql t (.int k a) (.int k b) = some (.bool (a == b)) := by rw [bin_int]; simp [binI]
@[simp] theorem bin_neq : bin P .neq t (.int k a) (.int k b) = some (.bool (a != b)) := by rw [bin_int]; simp [binI]
@[simp] theorem bin_lss : bin P .lss t (.int k a) (.int k b) = some (.bool (decide (a < b))) := by rw [bin_int]; simp [binI]
@[simp] theorem bin_leq : bin P .leq t (.int k a) (.int k b) = some (.bool (decide (a ≤ b))) := by rw [bin_int]; simp [binI]
@[simp] theorem bin_gtr : bin P .gtr t (.int k a) (.int k b) = some (.bool (decide (a > b))) := by rw [bin_int]; simp [binI]
@[simp] theorem bin_geq : bin P .geq t (.int k a) (.int k b) = some (.bool (decide (a ≥ b))) := by rw [bin_int]; simp [binI]
end

theorem ld1_at {h : Heap} {b o : Nat} {k : Blk} {c : Value} (hg : h.get b = some k) (hc : k[o]? = some c) (hh : isHole c = false := by rfl) : ld1 (ptr b o) h = some (c, h) := by
  unfold ld1 ptr
  simp only [hg, hc, hh, if_true]
theorem ldN_at {h : Heap} {b o n : Nat} {k : Blk} (hg : h.get b = some k) (hc : o + n ≤ k.length) (hh : noHoles ((k.drop o).take n) = true) : ldN n (ptr b o) h = some (.agg ((k.drop o).take n).toArray, h) := by
  unfold ldN ptr
  simp only [hg, hc, hh, and_self, if_true]

/-- A loop by what stands before each round: k rounds are still to come. -/
theorem iter_inv {step : Env → Heap → Option (Ex × Env × Heap)} {Inv : Nat → Env → Heap → Prop} {fin : Ex → Env → Heap → Prop}
    (hs : ∀ k e h, Inv k e h → ∃ x e' h', step e h = some (x, e', h') ∧ ((x = .normal ∧ ∃ j, j < k ∧ Inv j e' h') ∨ (x ≠ .normal ∧ fin x e' h'))) :
    ∀ (k n : Nat) (e : Env) (h : Heap), k < n → Inv k e h → ∃ x e' h', iter step n e h = some (x, e', h') ∧ fin x e' h' := by
  intro k
  induction k using Nat.strongRecOn with
  | _ k ih =>
    intro n e h hn hi
    obtain ⟨m, rfl⟩ : ∃ m, n = m + 1 := ⟨n - 1, by omega⟩
    obtain ⟨x, e', h', h1, h2 | h2⟩ := hs k e h hi
    · obtain ⟨rfl, j, hj, hi2⟩ := h2
      obtain ⟨x, e2, h3, h4, h5⟩ := ih j hj m e' h' (by omega) hi2
      exact ⟨x, e2, h3, by simp only [iter, h1]; exact h4, h5⟩
    · refine ⟨x, e', h', ?_, h2.2⟩
      simp only [iter, h1]
      cases x with
      | normal => exact absurd rfl h2.1
      | ret => rfl
      | exit i => rfl

theorem wrap_i64_if (x : Int) : IntKind.wrap .i64 x = if 9223372036854775808 ≤ x % 18446744073709551616 then x % 18446744073709551616 - 18446744073709551616 else x % 18446744073709551616 := by
  unfold IntKind.wrap
  simp [IntKind.bits, IntKind.signed]
theorem wrap_i64 {x : Int} (h1 : -9223372036854775808 ≤ x) (h2 : x ≤ 9223372036854775807) : IntKind.wrap .i64 x = x := by
  rw [wrap_i64_if]
  split <;> omega
theorem wrap_u64 {x : Int} (h1 : 0 ≤ x) (h2 : x < 18446744073709551616) : IntKind.wrap .u64 x = x := by
  simp only [IntKind.wrap, IntKind.bits, IntKind.signed, Bool.false_and, Bool.false_eq_true, if_false]
  omega
theorem wrap_u32 {x : Int} (h1 : 0 ≤ x) (h2 : x < 4294967296) : IntKind.wrap .u32 x = x := by
  simp only [IntKind.wrap, IntKind.bits, IntKind.signed, Bool.false_and, Bool.false_eq_true, if_false]
  omega
theorem wrap_u8 {x : Int} (h1 : 0 ≤ x) (h2 : x < 256) : IntKind.wrap .u8 x = x := by
  simp only [IntKind.wrap, IntKind.bits, IntKind.signed, Bool.false_and, Bool.false_eq_true, if_false]
  omega
theorem wrap_u32_mod (x : Int) : IntKind.wrap .u32 x = x % 4294967296 := by
  simp only [IntKind.wrap, IntKind.bits, IntKind.signed, Bool.false_and, Bool.false_eq_true, if_false]
  omega
end
end Go.Abs

