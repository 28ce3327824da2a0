/-
  The abstract machine: code and bodies do what the evaluator says.
  Conditions: the calls' summaries are sound (CSound); the program follows the mixed orders.
-/
import Derived.Test.YtcmfgmhadeeieaaA16
namespace Go.Abs

def codeOk (P : Program) : Code → Bool
  | .skip | .exit _ | .label _ | .ret => true
  | .region _ ops _ => ops.toList.all (operOk P)
  | .seq a b => codeOk P a && codeOk P b
  | .cond c a b => opdOk P c && codeOk P a && codeOk P b
  | .block _ b | .loop b | .scope b => codeOk P b
  | .goto _ | .rangeFunc .. | .refuse _ => false

def exOf : Ex → Exit
  | .normal => .normal
  | .ret => .ret
  | .exit i => .exit i

section code
variable {P : Program} {C : CallF}

theorem opsA_grow (hC : CSound P C) {ops : Array Oper} : ∀ (l : List Oper) {e e' : Env} {h h' : Heap}, opsA P C ops l e h = some (e', h') → Grow h h'
  | [], e, e', h, h', he => by simp only [opsA, Option.some.injEq, Prod.mk.injEq] at he; obtain ⟨_, rfl⟩ := he; exact Grow.refl _
  | o :: l, e, e', h, h', he => by
    simp only [opsA] at he
    split at he
    · rename_i e1 h1 hs
      unfold stepA at hs
      split at hs
      · split at hs
        · rename_i v hv hop; cases hs; exact (opA_grow hC hop).trans (opsA_grow hC l he)
        · cases hs
      · cases hs; exact opsA_grow hC l he
    · cases he

theorem regionA_grow (hC : CSound P C) {ops : Array Oper} {d : Bool} {e e' : Env} {h h' : Heap} (he : regionA P C ops d e h = some (e', h')) : Grow h h' := by
  unfold regionA at he
  split at he
  · split at he
    · split at he
      · rename_i tr e1 h1 htr
        split at he
        · simp only [Option.some.injEq, Prod.mk.injEq] at he
          obtain ⟨rfl, rfl⟩ := he
          obtain ⟨E, H, V, R, e0, h0, en, hn, T, _⟩ := trace_tra htr
          rw [← h0, ← hn]
          exact T.grow hC (Nat.zero_le _) (Nat.le_refl _)
        · cases he
      · cases he
    · cases he
  · exact opsA_grow hC _ he

theorem iter_grow {step : Env → Heap → Option (Ex × Env × Heap)} (hs : ∀ e h x e' h', step e h = some (x, e', h') → Grow h h') : ∀ (n : Nat) {e e' : Env} {h h' : Heap} {x : Ex}, iter step n e h = some (x, e', h') → Grow h h'
  | 0, e, e', h, h', x, he => by cases he
  | n + 1, e, e', h, h', x, he => by
    simp only [iter] at he
    split at he
    · rename_i e1 h1 h2; exact (hs _ _ _ _ _ h2).trans (iter_grow hs n he)
    · exact hs _ _ _ _ _ he

theorem codeA_grow (hC : CSound P C) : ∀ (c : Code) {e e' : Env} {h h' : Heap} {x : Ex}, codeA P C c e h = some (x, e', h') → Grow h h'
  | .skip, e, e', h, h', x, he => by simp only [codeA, Option.some.injEq, Prod.mk.injEq] at he; obtain ⟨_, _, rfl⟩ := he; exact Grow.refl _
  | .region _ ops d, e, e', h, h', x, he => by
    simp only [codeA] at he
    split at he
    · rename_i e1 h1 h2; cases he; exact regionA_grow hC h2
    · cases he
  | .seq a b, e, e', h, h', x, he => by
    simp only [codeA] at he
    split at he
    · rename_i e1 h1 h2; exact (codeA_grow hC a h2).trans (codeA_grow hC b he)
    · exact codeA_grow hC a he
  | .cond c a b, e, e', h, h', x, he => by
    simp only [codeA] at he
    split at he
    · exact codeA_grow hC a he
    · exact codeA_grow hC b he
    · cases he
  | .block i b, e, e', h, h', x, he => by
    simp only [codeA] at he
    split at he
    · rename_i j e1 h1 h2
      simp only [Option.some.injEq, Prod.mk.injEq] at he
      obtain ⟨_, _, rfl⟩ := he
      exact codeA_grow hC b h2
    · exact codeA_grow hC b he
  | .loop b, e, e', h, h', x, he => by
    simp only [codeA] at he
    exact iter_grow (fun _ _ _ _ _ h => codeA_grow hC b h) _ he
  | .exit _, e, e', h, h', x, he => by simp only [codeA, Option.some.injEq, Prod.mk.injEq] at he; obtain ⟨_, _, rfl⟩ := he; exact Grow.refl _
  | .scope b, e, e', h, h', x, he => by simp only [codeA] at he; exact codeA_grow hC b he
  | .label _, e, e', h, h', x, he => by simp only [codeA, Option.some.injEq, Prod.mk.injEq] at he; obtain ⟨_, _, rfl⟩ := he; exact Grow.refl _
  | .ret, e, e', h, h', x, he => by simp only [codeA, Option.some.injEq, Prod.mk.injEq] at he; obtain ⟨_, _, rfl⟩ := he; exact Grow.refl _
  | .goto _, e, e', h, h', x, he => by cases he
  | .rangeFunc .., e, e', h, h', x, he => by cases he
  | .refuse _, e, e', h, h', x, he => by cases he

theorem opsA_bd (hC : CSound P C) {ops : Array Oper} : ∀ (l : List Oper) {e e' : Env} {h h' : Heap}, l.all (operOk P) = true → P.globals.size ≤ h.n0 → bdL h.next e = true → HeapBd h → opsA P C ops l e h = some (e', h') → bdL h'.next e' = true ∧ HeapBd h'
  | [], e, e', h, h', _, _, he, hh, h1 => by simp only [opsA, Option.some.injEq, Prod.mk.injEq] at h1; obtain ⟨rfl, rfl⟩ := h1; exact ⟨he, hh⟩
  | o :: l, e, e', h, h', hok, hg, he, hh, h1 => by
    simp only [List.all_cons, Bool.and_eq_true] at hok
    simp only [opsA] at h1
    split at h1
    · rename_i e1 h2 hs
      unfold stepA at hs
      split at hs
      · split at hs
        · rename_i v hv hop
          cases hs
          have hgr := opA_grow hC hop
          obtain ⟨g1, g2⟩ := opA_bd hC hh (fun x hm => bd_ev hg he (List.all_eq_true.1 hok.1 x hm)) hop
          exact opsA_bd hC l hok.2 (by rw [hgr.2.1]; exact hg) (bd_putD (bdL_mono hgr.1 he) g1) g2 h1
        · cases hs
      · cases hs; exact opsA_bd hC l hok.2 hg (bd_putD he rfl) hh h1
    · cases h1

theorem regionA_bd (hC : CSound P C) {ops : Array Oper} {d : Bool} {e e' : Env} {h h' : Heap} (hok : ops.toList.all (operOk P) = true) (hg : P.globals.size ≤ h.n0) (hbe : bdL h.next e = true) (hbh : HeapBd h)
    (he : regionA P C ops d e h = some (e', h')) : bdL h'.next e' = true ∧ HeapBd h' := by
  unfold regionA at he
  split at he
  · split at he
    · split at he
      · rename_i tr e1 h1 htr
        split at he
        · simp only [Option.some.injEq, Prod.mk.injEq] at he
          obtain ⟨rfl, rfl⟩ := he
          obtain ⟨E, H, V, R, e0, h0, en, hn, T, _⟩ := trace_tra htr
          rw [← en, ← hn]
          exact T.bd hC (by rw [h0]; exact hg) (fun p x hx => List.all_eq_true.1 hok x.2 (by rw [Array.mem_toList_iff]; exact Array.mem_of_getElem? (mem_late.1 (List.mem_of_getElem? hx)))) (by rw [h0, e0]; exact hbe) (by rw [h0]; exact hbh) _ (Nat.le_refl _)
        · cases he
      · cases he
    · cases he
  · exact opsA_bd hC _ hok hg hbe hbh he

theorem iter_bd (hC : CSound P C) {b : Code} (hb : ∀ e h x e' h', P.globals.size ≤ h.n0 → bdL h.next e = true → HeapBd h → codeA P C b e h = some (x, e', h') → bdL h'.next e' = true ∧ HeapBd h') :
    ∀ (n : Nat) {e e' : Env} {h h' : Heap} {x : Ex}, P.globals.size ≤ h.n0 → bdL h.next e = true → HeapBd h → iter (codeA P C b) n e h = some (x, e', h') → bdL h'.next e' = true ∧ HeapBd h'
  | 0, e, e', h, h', x, _, _, _, he => by cases he
  | n + 1, e, e', h, h', x, hg, hbe, hbh, he => by
    simp only [iter] at he
    split at he
    · rename_i e1 h1 h2
      obtain ⟨g1, g2⟩ := hb _ _ _ _ _ hg hbe hbh h2
      exact iter_bd hC hb n (by rw [(codeA_grow hC b h2).2.1]; exact hg) g1 g2 he
    · exact hb _ _ _ _ _ hg hbe hbh he

theorem codeA_bd (hC : CSound P C) : ∀ (c : Code) {e e' : Env} {h h' : Heap} {x : Ex}, codeOk P c = true → P.globals.size ≤ h.n0 → bdL h.next e = true → HeapBd h → codeA P C c e h = some (x, e', h') → bdL h'.next e' = true ∧ HeapBd h'
  | .skip, e, e', h, h', x, _, _, hbe, hbh, he => by simp only [codeA, Option.some.injEq, Prod.mk.injEq] at he; obtain ⟨_, rfl, rfl⟩ := he; exact ⟨hbe, hbh⟩
  | .region _ ops d, e, e', h, h', x, hok, hg, hbe, hbh, he => by
    simp only [codeOk] at hok
    simp only [codeA] at he
    split at he
    · rename_i e1 h1 h2; cases he; exact regionA_bd hC hok hg hbe hbh h2
    · cases he
  | .seq a b, e, e', h, h', x, hok, hg, hbe, hbh, he => by
    simp only [codeOk, Bool.and_eq_true] at hok
    simp only [codeA] at he
    split at he
    · rename_i e1 h1 h2
      obtain ⟨g1, g2⟩ := codeA_bd hC a hok.1 hg hbe hbh h2
      exact codeA_bd hC b hok.2 (by rw [(codeA_grow hC a h2).2.1]; exact hg) g1 g2 he
    · exact codeA_bd hC a hok.1 hg hbe hbh he
  | .cond c a b, e, e', h, h', x, hok, hg, hbe, hbh, he => by
    simp only [codeOk, Bool.and_eq_true] at hok
    simp only [codeA] at he
    split at he
    · exact codeA_bd hC a hok.1.2 hg hbe hbh he
    · exact codeA_bd hC b hok.2 hg hbe hbh he
    · cases he
  | .block i b, e, e', h, h', x, hok, hg, hbe, hbh, he => by
    simp only [codeOk] at hok
    simp only [codeA] at he
    split at he
    · rename_i j e1 h1 h2
      simp only [Option.some.injEq, Prod.mk.injEq] at he
      obtain ⟨_, rfl, rfl⟩ := he
      exact codeA_bd hC b hok hg hbe hbh h2
    · exact codeA_bd hC b hok hg hbe hbh he
  | .loop b, e, e', h, h', x, hok, hg, hbe, hbh, he => by
    simp only [codeOk] at hok
    simp only [codeA] at he
    exact iter_bd hC (fun _ _ _ _ _ h1 h2 h3 h4 => codeA_bd hC b hok h1 h2 h3 h4) _ hg hbe hbh he
  | .exit _, e, e', h, h', x, _, _, hbe, hbh, he => by simp only [codeA, Option.some.injEq, Prod.mk.injEq] at he; obtain ⟨_, rfl, rfl⟩ := he; exact ⟨hbe, hbh⟩
  | .scope b, e, e', h, h', x, hok, hg, hbe, hbh, he => by simp only [codeOk] at hok; simp only [codeA] at he; exact codeA_bd hC b hok hg hbe hbh he
  | .label _, e, e', h, h', x, _, _, hbe, hbh, he => by simp only [codeA, Option.some.injEq, Prod.mk.injEq] at he; obtain ⟨_, rfl, rfl⟩ := he; exact ⟨hbe, hbh⟩
  | .ret, e, e', h, h', x, _, _, hbe, hbh, he => by simp only [codeA, Option.some.injEq, Prod.mk.injEq] at he; obtain ⟨_, rfl, rfl⟩ := he; exact ⟨hbe, hbh⟩
  | .goto _, e, e', h, h', x, _, _, _, _, he => by cases he
  | .rangeFunc .., e, e', h, h', x, _, _, _, _, he => by cases he
  | .refuse _, e, e', h, h', x, _, _, _, _, he => by cases he

/-- What is shown of a piece of code. -/
def CodeGood (P : Program) (C : CallF) (c : Code) : Prop :=
  ∀ (e e' : Env) (h h' : Heap) (x : Ex) (μ : Mu) (a : Act) (w : World) (Q : Exit → Act → World → Prop), codeA P C c e h = some (x, e', h') → P.globals.size ≤ h.n0 → bdL h.next e = true → HeapBd h → Sim μ h w → Free μ h h' → ERel μ e a →
    (∀ a' w', Behind μ h w e' h' a' w' → Q (exOf x) a' w') → c.wp P Q a w

theorem Behind.trans {μ μ1 : Mu} {h h1 h2 : Heap} {w w1 w2 : World} {e2 : Env} {a2 : Act} (st : Step μ h w μ1 h1 w1) (b : Behind μ1 h1 w1 e2 h2 a2 w2) : Behind μ h w e2 h2 a2 w2 := by
  obtain ⟨μ2, hS, hSt, hr⟩ := b
  exact ⟨μ2, hS, st.trans hSt, hr⟩

theorem iter_good (hC : CSound P C) {b : Code} (hb : CodeGood P C b)
    (hbd : ∀ e h x e' h', P.globals.size ≤ h.n0 → bdL h.next e = true → HeapBd h → codeA P C b e h = some (x, e', h') → bdL h'.next e' = true ∧ HeapBd h') : ∀ (n : Nat) {e e' : Env} {h h' : Heap} {x : Ex} {μ : Mu} {a : Act} {w : World} {Q : Exit → Act → World → Prop}, iter (codeA P C b) n e h = some (x, e', h') →
    P.globals.size ≤ h.n0 → bdL h.next e = true → HeapBd h → Sim μ h w → Free μ h h' → ERel μ e a → (∀ a' w', Behind μ h w e' h' a' w' → Q (exOf x) a' w') → Code.rounds P b Q n a w
  | 0, _, _, _, _, _, _, _, _, _, he, _, _, _, _, _, _, _ => by cases he
  | n + 1, e, e', h, h', x, μ, a, w, Q, he, hg, hbe, hbh, S, hf, r, hQ => by
    rw [rounds_succ]
    simp only [iter] at he
    split at he
    · rename_i e1 h1 h2
      have hgr := codeA_grow hC b h2
      have hgr2 := iter_grow (fun _ _ _ _ _ h => codeA_grow hC b h) _ he
      refine hb _ _ _ _ _ _ _ _ _ h2 hg hbe hbh S (hf.first hgr2.1) r ?_
      rintro a1 w1 ⟨μ1, hS, hSt, hr⟩
      exact iter_good hC hb hbd n he (by rw [hgr.2.1]; exact hg) (hbd _ _ _ _ _ hg hbe hbh h2).1 (hbd _ _ _ _ _ hg hbe hbh h2).2 hS (hf.second hSt) hr (fun a' w' hb' => hQ a' w' (hb'.trans hSt))
    · rename_i hne
      refine hb _ _ _ _ _ _ _ _ _ he hg hbe hbh S hf r ?_
      intro a1 w1 hb1
      have hq := hQ a1 w1 hb1
      cases x with
      | normal => exact absurd he (hne _ _)
      | ret => exact hq
      | exit i => exact hq

theorem codeA_sound (hC : CSound P C) (hm : P.follows .mixedOrders = true) : ∀ (c : Code), codeOk P c = true → CodeGood P C c
  | .skip, _ => by
    intro e e' h h' x μ a w Q he hg hbe hbh S hf r hQ
    simp only [codeA, Option.some.injEq, Prod.mk.injEq] at he
    obtain ⟨rfl, rfl, rfl⟩ := he
    exact wp_skip (hQ a w ⟨μ, S, .same_world, r⟩)
  | .region id ops d, hok => by
    intro e e' h h' x μ a w Q he hg hbe hbh S hf r hQ
    simp only [codeOk] at hok
    simp only [codeA] at he
    split at he
    · rename_i e1 h1 h2
      cases he
      cases d with
      | true => exact region_draw_sound hC hm hok h2 hg hbe hbh S hf r hQ
      | false => exact region_seq_sound hC hok (by simpa [regionA] using h2) hg hbe hbh S hf r hQ
    · cases he
  | .seq b c, hok => by
    intro e e' h h' x μ a w Q he hg hbe hbh S hf r hQ
    simp only [codeOk, Bool.and_eq_true] at hok
    simp only [codeA] at he
    refine wp_seq ?_
    split at he
    · rename_i e1 h1 h2
      have hgr := codeA_grow hC b h2
      have hgr2 := codeA_grow hC c he
      refine codeA_sound hC hm b hok.1 _ _ _ _ _ _ _ _ _ h2 hg hbe hbh S (hf.first hgr2.1) r ?_
      rintro a1 w1 ⟨μ1, hS, hSt, hr⟩
      exact codeA_sound hC hm c hok.2 _ _ _ _ _ _ _ _ _ he (by rw [hgr.2.1]; exact hg) (codeA_bd hC b hok.1 hg hbe hbh h2).1 (codeA_bd hC b hok.1 hg hbe hbh h2).2 hS (hf.second hSt) hr (fun a' w' hb' => hQ a' w' (hb'.trans hSt))
    · rename_i hne
      refine codeA_sound hC hm b hok.1 _ _ _ _ _ _ _ _ _ he hg hbe hbh S hf r ?_
      intro a1 w1 hb1
      have hq := hQ a1 w1 hb1
      cases x with
      | normal => exact absurd he (hne _ _)
      | ret => exact hq
      | exit i => exact hq
  | .cond c x y, hok => by
    intro e e' h h' ex μ a w Q he hg hbe hbh S hf r hQ
    simp only [codeOk, Bool.and_eq_true] at hok
    simp only [codeA] at he
    have hv := ev_rel S hg r hok.1.1
    split at he
    · rename_i h1
      rw [h1] at hv
      exact wp_cond_true hv.bool (codeA_sound hC hm x hok.1.2 _ _ _ _ _ _ _ _ _ he hg hbe hbh S hf r hQ)
    · rename_i h1
      rw [h1] at hv
      exact wp_cond_false hv.bool (codeA_sound hC hm y hok.2 _ _ _ _ _ _ _ _ _ he hg hbe hbh S hf r hQ)
    · cases he
  | .block id b, hok => by
    intro e e' h h' x μ a w Q he hg hbe hbh S hf r hQ
    simp only [codeOk] at hok
    simp only [codeA] at he
    refine wp_block ?_
    split at he
    · rename_i j e1 h1 h2
      simp only [Option.some.injEq, Prod.mk.injEq] at he
      obtain ⟨rfl, rfl, rfl⟩ := he
      refine codeA_sound hC hm b hok _ _ _ _ _ _ _ _ _ h2 hg hbe hbh S hf r ?_
      intro a' w' hb'
      have hq := hQ a' w' hb'
      simp only [exOf, Exit.inBlock]
      by_cases hj : j = id
      · rw [if_pos hj] at hq ⊢; exact hq
      · rw [if_neg hj] at hq ⊢; exact hq
    · rename_i hne
      refine codeA_sound hC hm b hok _ _ _ _ _ _ _ _ _ he hg hbe hbh S hf r ?_
      intro a' w' hb'
      have hq := hQ a' w' hb'
      cases x with
      | normal => exact hq
      | ret => exact hq
      | exit i => exact absurd he (hne _ _ _)
  | .loop b, hok => by
    intro e e' h h' x μ a w Q he hg hbe hbh S hf r hQ
    simp only [codeOk] at hok
    simp only [codeA] at he
    exact wp_loop_rounds _ (iter_good hC (codeA_sound hC hm b hok) (fun _ _ _ _ _ h1 h2 h3 h4 => codeA_bd hC b hok h1 h2 h3 h4) _ he hg hbe hbh S hf r hQ)
  | .exit i, _ => by
    intro e e' h h' x μ a w Q he hg hbe hbh S hf r hQ
    simp only [codeA, Option.some.injEq, Prod.mk.injEq] at he
    obtain ⟨rfl, rfl, rfl⟩ := he
    exact wp_exit (hQ a w ⟨μ, S, .same_world, r⟩)
  | .scope b, hok => by
    intro e e' h h' x μ a w Q he hg hbe hbh S hf r hQ
    simp only [codeOk] at hok
    simp only [codeA] at he
    refine wp_scope_straight (codeA_sound hC hm b hok _ _ _ _ _ _ _ _ _ he hg hbe hbh S hf r ?_)
    intro a' w' hb'
    have hq := hQ a' w' hb'
    cases x <;> exact hq
  | .label _, _ => by
    intro e e' h h' x μ a w Q he hg hbe hbh S hf r hQ
    simp only [codeA, Option.some.injEq, Prod.mk.injEq] at he
    obtain ⟨rfl, rfl, rfl⟩ := he
    exact wp_label (hQ a w ⟨μ, S, .same_world, r⟩)
  | .ret, _ => by
    intro e e' h h' x μ a w Q he hg hbe hbh S hf r hQ
    simp only [codeA, Option.some.injEq, Prod.mk.injEq] at he
    obtain ⟨rfl, rfl, rfl⟩ := he
    exact wp_ret (hQ a w ⟨μ, S, .same_world, r⟩)
  | .goto _, hok => by simp [codeOk] at hok
  | .rangeFunc .., hok => by simp [codeOk] at hok
  | .refuse _, hok => by simp [codeOk] at hok

theorem resultsA_grow {rs : List ResultVar} {e : Env} {h h' : Heap} {v : Value} (he : resultsA P rs e h = some (v, h')) : h' = h := by
  unfold resultsA at he
  split at he
  · simp only [Option.map_eq_some_iff, Prod.mk.injEq] at he; obtain ⟨_, _, _, rfl⟩ := he; rfl
  · simp only [Option.map_eq_some_iff, Prod.mk.injEq] at he; obtain ⟨_, _, _, rfl⟩ := he; rfl

def resV (tmps : Array Value) : ResultVar → Sem Value
  | .tmp t => pure (tmps.getD t undef)
  | .cell b t => do loadVar t (← asAddr (tmps.getD b undef))
theorem results_eq (fn : Func) (tmps : Array Value) : results fn tmps = (do let vs ← fn.results.mapM (resV tmps); pure (if h : vs.size = 1 then vs[0] else .tuple vs)) := rfl

theorem resultA_sound {μ : Mu} {h : Heap} {w : World} {e : Env} {a : Act} (S : Sim μ h w) (r : ERel μ e a) {x : ResultVar} {v : Value} (hv : resultA P x e h = some v) :
    ∃ v', (resV a.tmps x).run P w = .ok v' w ∧ VRel μ v v' := by
  cases x with
  | tmp t =>
    simp only [resultA, Option.some.injEq] at hv
    subst hv
    refine ⟨_, rfl, ?_⟩
    have := r.1.getD t
    simpa using this
  | cell b t =>
    simp only [resultA, Option.map_eq_some_iff] at hv
    obtain ⟨⟨v1, h1⟩, hl, rfl⟩ := hv
    have hr : VRel μ (e.getD b undef) (a.tmps.getD b undef) := by have := r.1.getD b; simpa using this
    obtain ⟨_, r', hrun, hv'⟩ := ld_sound S hr hl
    refine ⟨r', ?_, hv'⟩
    simp only [resV, Instr.loadAt, Sem.run_bind] at hrun ⊢
    cases hx : a.tmps.getD b undef with
    | pointer p =>
      rw [hx] at hrun
      cases p with
      | none => simp [Instr.sureAddr] at hrun
      | some q => simpa [Instr.sureAddr, asAddr] using hrun
    | _ => rw [hx] at hrun; simp [Instr.sureAddr] at hrun

theorem run_mapM_list {α β : Type} (P : Program) (w : World) (f : α → Sem β) : ∀ (l : List α) (g : List β), l.length = g.length → (∀ (i : Nat) (x : α) (y : β), l[i]? = some x → g[i]? = some y → (f x).run P w = .ok y w) → (l.mapM f).run P w = .ok g w
  | [], [], _, _ => by simp
  | [], _ :: _, h, _ => by simp at h
  | _ :: _, [], h, _ => by simp at h
  | x :: l, y :: g, h, hf => by
    rw [List.mapM_cons, Sem.run_bind, hf 0 x y rfl rfl, Result.andThen_ok, Sem.run_bind, run_mapM_list P w f l g (by simpa using h) (fun i a b ha hb => hf (i + 1) a b ha hb)]
    simp

theorem mapM_rel {μ : Mu} {h : Heap} {w : World} {e : Env} {a : Act} (S : Sim μ h w) (r : ERel μ e a) : ∀ {rs : List ResultVar} {vs : List Value}, rs.mapM (fun r => resultA P r e h) = some vs →
    ∃ vs', (rs.mapM (resV a.tmps)).run P w = .ok vs' w ∧ LRel μ vs vs'
  | [], vs, hv => by simp at hv; subst hv; exact ⟨[], by simp, LRel.nil μ⟩
  | x :: rs, vs, hv => by
    rw [List.mapM_cons] at hv
    simp only [bind, Option.bind_eq_some_iff, pure, Option.some.injEq] at hv
    obtain ⟨v, hv1, vs1, hv2, rfl⟩ := hv
    obtain ⟨v', h1, h2⟩ := resultA_sound S r hv1
    obtain ⟨vs', h3, h4⟩ := mapM_rel S r hv2
    refine ⟨v' :: vs', ?_, LRel.cons h2 h4⟩
    rw [List.mapM_cons, Sem.run_bind]
    rw [h1]
    simp only [Result.andThen_ok, Sem.run_bind]
    rw [h3]
    simp

theorem mapM_length {α β : Type} {f : α → Option β} : ∀ {l : List α} {r : List β}, l.mapM f = some r → l.length = r.length
  | [], r, h => by simp at h; subst h; rfl
  | x :: l, r, h => by
    rw [List.mapM_cons] at h
    simp only [bind, Option.bind_eq_some_iff, pure, Option.some.injEq] at h
    obtain ⟨a, _, r1, h2, rfl⟩ := h
    simp [mapM_length h2]

theorem resultsA_sound {μ : Mu} {h h' : Heap} {w : World} {e : Env} {a : Act} (S : Sim μ h w) (r : ERel μ e a) {fn : Func} {v : Value} (hv : resultsA P fn.results.toList e h = some (v, h')) :
    ∃ v', (results fn a.tmps).run P w = .ok v' w ∧ VRel μ v v' := by
  have main : ∀ {vs : List Value}, fn.results.toList.mapM (fun r => resultA P r e h) = some vs → ∃ vs', (fn.results.mapM (resV a.tmps)).run P w = .ok vs'.toArray w ∧ LRel μ vs vs' := by
    intro vs hvs
    obtain ⟨vs', h1, h2⟩ := mapM_rel S r hvs
    refine ⟨vs', ?_, h2⟩
    rw [Array.mapM_eq_mapM_toList, Sem.run_map, h1]
    rfl
  unfold resultsA at hv
  split at hv
  · rename_i x hx
    simp only [Option.map_eq_some_iff, Prod.mk.injEq] at hv
    obtain ⟨v1, hv1, rfl, rfl⟩ := hv
    obtain ⟨vs', h1, h2⟩ := main (vs := [v1]) (by rw [hx]; simp [hv1])
    have hl := h2.1
    match vs', hl with
    | [v'], _ =>
      refine ⟨v', ?_, h2.head⟩
      rw [results_eq, Sem.run_bind]
      rw [h1]
      simp
  · rename_i hne
    simp only [Option.map_eq_some_iff, Prod.mk.injEq] at hv
    obtain ⟨vs, hvs, rfl, rfl⟩ := hv
    obtain ⟨vs', h1, h2⟩ := main hvs
    refine ⟨.tuple vs'.toArray, ?_, .of_list_tuple h2⟩
    rw [results_eq, Sem.run_bind]
    rw [h1]
    simp only [Result.andThen_ok, Sem.run_pure]
    have hlen : vs'.length ≠ 1 := by
      rw [← h2.1, ← mapM_length hvs]
      intro h1'
      obtain ⟨x, hx⟩ := List.length_eq_one_iff.1 h1'
      exact hne x hx
    rw [dif_neg (by simpa using hlen)]

end code
end Go.Abs
