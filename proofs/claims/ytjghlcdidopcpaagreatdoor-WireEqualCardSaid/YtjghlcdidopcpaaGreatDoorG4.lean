/-
  The abstract machine: code and bodies do what the evaluator says.
  Conditions: the calls' summaries are sound (CSound); the program follows the mixed orders.
  The abstract machine in passing style: the code with what comes behind it, as the walk's texts are printed; it says what codeA says.
  Conditions: none (definitions and lemmas).
  The abstract machine: a function's body run is the function called; contracts; what a run leaves behind unseen is dropped and what is left is numbered anew.
  Conditions: as each theorem states.
  The abstract machine: contracts of functions, and how one is shown of a function's body.
  Conditions: as each theorem states.
  The abstract machine's operations with their types resolved: the words of the printed texts.
  Conditions: none (definitions).
  The abstract machine in passing style once more, over environments that only grow, and by bare recursors: the form that the kernel reduces well.
  Conditions: none (definitions and lemmas).
  The abstract machine: rules for reading the printed texts.
  Conditions: none (lemmas).
  The abstract machine: contracts of functions that answer and leave nothing.
  Conditions: as each theorem states.
  The abstract machine: environments as functions with few entries written anew: how loops' rounds and what comes behind them are told.
  Conditions: none (lemmas).
  The abstract machine: bit operations on natural numbers.
  Conditions: as each theorem states.
  The abstract machine: what is kept of a heap; stores at known places.
  Conditions: as each theorem states.
  The abstract machine: environments as functions; how loops' rounds and what comes behind them are told; loops by what stands before each round.
  Conditions: as each theorem states.
  The abstract machine: calls of functions by fuel, each by its own body; a run without arguments from an empty heap tells what the function answers in every heap.
  Conditions: as each theorem states.
-/
import Derived.Test.YtjghlcdidopcpaaGreatDoorG3
namespace Go.Abs

def codeOk (P : Program) : Code → Bool
  | .skip | .exit _ | .label _ | .ret => true
  | .region _ ops _ => ops.toList.all (operOk P)
  | .seq a b => codeOk P a && codeOk P b
  | .cond c a b => opdOk P c && codeOk P a && codeOk P b
  | .block _ b | .loop b | .scope b => codeOk P b
  | .goto _ | .rangeFunc .. | .refuse _ => false

def exOf : Ex → Exit
  | .normal => .normal
  | .ret => .ret
  | .exit i => .exit i

section code
variable {P : Program} {C : CallF}

theorem opsA_grow (hC : CSound P C) {ops : Array Oper} : ∀ (l : List Oper) {e e' : Env} {h h' : Heap}, opsA P C ops l e h = some (e', h') → Grow h h'
  | [], e, e', h, h', he => by simp only [opsA, Option.some.injEq, Prod.mk.injEq] at he; obtain ⟨_, rfl⟩ := he; exact Grow.refl _
  | o :: l, e, e', h, h', he => by
    simp only [opsA] at he
    split at he
    · rename_i e1 h1 hs
      unfold stepA at hs
      split at hs
      · split at hs
        · rename_i v hv hop; cases hs; exact (opA_grow hC hop).trans (opsA_grow hC l he)
        · cases hs
      · cases hs; exact opsA_grow hC l he
    · cases he

theorem regionA_grow (hC : CSound P C) {ops : Array Oper} {d : Bool} {e e' : Env} {h h' : Heap} (he : regionA P C ops d e h = some (e', h')) : Grow h h' := by
  unfold regionA at he
  split at he
  · split at he
    · split at he
      · rename_i tr e1 h1 htr
        split at he
        · simp only [Option.some.injEq, Prod.mk.injEq] at he
          obtain ⟨rfl, rfl⟩ := he
          obtain ⟨E, H, V, R, e0, h0, en, hn, T, _⟩ := trace_tra htr
          rw [← h0, ← hn]
          exact T.grow hC (Nat.zero_le _) (Nat.le_refl _)
        · cases he
      · cases he
    · cases he
  · exact opsA_grow hC _ he

theorem iter_grow {step : Env → Heap → Option (Ex × Env × Heap)} (hs : ∀ e h x e' h', step e h = some (x, e', h') → Grow h h') : ∀ (n : Nat) {e e' : Env} {h h' : Heap} {x : Ex}, iter step n e h = some (x, e', h') → Grow h h'
  | 0, e, e', h, h', x, he => by cases he
  | n + 1, e, e', h, h', x, he => by
    simp only [iter] at he
    split at he
    · rename_i e1 h1 h2; exact (hs _ _ _ _ _ h2).trans (iter_grow hs n he)
    · exact hs _ _ _ _ _ he

theorem codeA_grow (hC : CSound P C) : ∀ (c : Code) {e e' : Env} {h h' : Heap} {x : Ex}, codeA P C c e h = some (x, e', h') → Grow h h'
  | .skip, e, e', h, h', x, he => by simp only [codeA, Option.some.injEq, Prod.mk.injEq] at he; obtain ⟨_, _, rfl⟩ := he; exact Grow.refl _
  | .region _ ops d, e, e', h, h', x, he => by
    simp only [codeA] at he
    split at he
    · rename_i e1 h1 h2; cases he; exact regionA_grow hC h2
    · cases he
  | .seq a b, e, e', h, h', x, he => by
    simp only [codeA] at he
    split at he
    · rename_i e1 h1 h2; exact (codeA_grow hC a h2).trans (codeA_grow hC b he)
    · exact codeA_grow hC a he
  | .cond c a b, e, e', h, h', x, he => by
    simp only [codeA] at he
    split at he
    · exact codeA_grow hC a he
    · exact codeA_grow hC b he
    · cases he
  | .block i b, e, e', h, h', x, he => by
    simp only [codeA] at he
    split at he
    · rename_i j e1 h1 h2
      simp only [Option.some.injEq, Prod.mk.injEq] at he
      obtain ⟨_, _, rfl⟩ := he
      exact codeA_grow hC b h2
    · exact codeA_grow hC b he
  | .loop b, e, e', h, h', x, he => by
    simp only [codeA] at he
    exact iter_grow (fun _ _ _ _ _ h => codeA_grow hC b h) _ he
  | .exit _, e, e', h, h', x, he => by simp only [codeA, Option.some.injEq, Prod.mk.injEq] at he; obtain ⟨_, _, rfl⟩ := he; exact Grow.refl _
  | .scope b, e, e', h, h', x, he => by simp only [codeA] at he; exact codeA_grow hC b he
  | .label _, e, e', h, h', x, he => by simp only [codeA, Option.some.injEq, Prod.mk.injEq] at he; obtain ⟨_, _, rfl⟩ := he; exact Grow.refl _
  | .ret, e, e', h, h', x, he => by simp only [codeA, Option.some.injEq, Prod.mk.injEq] at he; obtain ⟨_, _, rfl⟩ := he; exact Grow.refl _
  | .goto _, e, e', h, h', x, he => by cases he
  | .rangeFunc .., e, e', h, h', x, he => by cases he
  | .refuse _, e, e', h, h', x, he => by cases he

theorem opsA_bd (hC : CSound P C) {ops : Array Oper} : ∀ (l : List Oper) {e e' : Env} {h h' : Heap}, l.all (operOk P) = true → P.globals.size ≤ h.n0 → bdL h.next e = true → HeapBd h → opsA P C ops l e h = some (e', h') → bdL h'.next e' = true ∧ HeapBd h'
  | [], e, e', h, h', _, _, he, hh, h1 => by simp only [opsA, Option.some.injEq, Prod.mk.injEq] at h1; obtain ⟨rfl, rfl⟩ := h1; exact ⟨he, hh⟩
  | o :: l, e, e', h, h', hok, hg, he, hh, h1 => by
    simp only [List.all_cons, Bool.and_eq_true] at hok
    simp only [opsA] at h1
    split at h1
    · rename_i e1 h2 hs
      unfold stepA at hs
      split at hs
      · split at hs
        · rename_i v hv hop
          cases hs
          have hgr := opA_grow hC hop
          obtain ⟨g1, g2⟩ := opA_bd hC hh (fun x hm => bd_ev hg he (List.all_eq_true.1 hok.1 x hm)) hop
          exact opsA_bd hC l hok.2 (by rw [hgr.2.1]; exact hg) (bd_putD (bdL_mono hgr.1 he) g1) g2 h1
        · cases hs
      · cases hs; exact opsA_bd hC l hok.2 hg (bd_putD he rfl) hh h1
    · cases h1

theorem regionA_bd (hC : CSound P C) {ops : Array Oper} {d : Bool} {e e' : Env} {h h' : Heap} (hok : ops.toList.all (operOk P) = true) (hg : P.globals.size ≤ h.n0) (hbe : bdL h.next e = true) (hbh : HeapBd h)
    (he : regionA P C ops d e h = some (e', h')) : bdL h'.next e' = true ∧ HeapBd h' := by
  unfold regionA at he
  split at he
  · split at he
    · split at he
      · rename_i tr e1 h1 htr
        split at he
        · simp only [Option.some.injEq, Prod.mk.injEq] at he
          obtain ⟨rfl, rfl⟩ := he
          obtain ⟨E, H, V, R, e0, h0, en, hn, T, _⟩ := trace_tra htr
          rw [← en, ← hn]
          exact T.bd hC (by rw [h0]; exact hg) (fun p x hx => List.all_eq_true.1 hok x.2 (by rw [Array.mem_toList_iff]; exact Array.mem_of_getElem? (mem_late.1 (List.mem_of_getElem? hx)))) (by rw [h0, e0]; exact hbe) (by rw [h0]; exact hbh) _ (Nat.le_refl _)
        · cases he
      · cases he
    · cases he
  · exact opsA_bd hC _ hok hg hbe hbh he

theorem iter_bd (hC : CSound P C) {b : Code} (hb : ∀ e h x e' h', P.globals.size ≤ h.n0 → bdL h.next e = true → HeapBd h → codeA P C b e h = some (x, e', h') → bdL h'.next e' = true ∧ HeapBd h') :
    ∀ (n : Nat) {e e' : Env} {h h' : Heap} {x : Ex}, P.globals.size ≤ h.n0 → bdL h.next e = true → HeapBd h → iter (codeA P C b) n e h = some (x, e', h') → bdL h'.next e' = true ∧ HeapBd h'
  | 0, e, e', h, h', x, _, _, _, he => by cases he
  | n + 1, e, e', h, h', x, hg, hbe, hbh, he => by
    simp only [iter] at he
    split at he
    · rename_i e1 h1 h2
      obtain ⟨g1, g2⟩ := hb _ _ _ _ _ hg hbe hbh h2
      exact iter_bd hC hb n (by rw [(codeA_grow hC b h2).2.1]; exact hg) g1 g2 he
    · exact hb _ _ _ _ _ hg hbe hbh he

theorem codeA_bd (hC : CSound P C) : ∀ (c : Code) {e e' : Env} {h h' : Heap} {x : Ex}, codeOk P c = true → P.globals.size ≤ h.n0 → bdL h.next e = true → HeapBd h → codeA P C c e h = some (x, e', h') → bdL h'.next e' = true ∧ HeapBd h'
  | .skip, e, e', h, h', x, _, _, hbe, hbh, he => by simp only [codeA, Option.some.injEq, Prod.mk.injEq] at he; obtain ⟨_, rfl, rfl⟩ := he; exact ⟨hbe, hbh⟩
  | .region _ ops d, e, e', h, h', x, hok, hg, hbe, hbh, he => by
    simp only [codeOk] at hok
    simp only [codeA] at he
    split at he
    · rename_i e1 h1 h2; cases he; exact regionA_bd hC hok hg hbe hbh h2
    · cases he
  | .seq a b, e, e', h, h', x, hok, hg, hbe, hbh, he => by
    simp only [codeOk, Bool.and_eq_true] at hok
    simp only [codeA] at he
    split at he
    · rename_i e1 h1 h2
      obtain ⟨g1, g2⟩ := codeA_bd hC a hok.1 hg hbe hbh h2
      exact codeA_bd hC b hok.2 (by rw [(codeA_grow hC a h2).2.1]; exact hg) g1 g2 he
    · exact codeA_bd hC a hok.1 hg hbe hbh he
  | .cond c a b, e, e', h, h', x, hok, hg, hbe, hbh, he => by
    simp only [codeOk, Bool.and_eq_true] at hok
    simp only [codeA] at he
    split at he
    · exact codeA_bd hC a hok.1.2 hg hbe hbh he
    · exact codeA_bd hC b hok.2 hg hbe hbh he
    · cases he
  | .block i b, e, e', h, h', x, hok, hg, hbe, hbh, he => by
    simp only [codeOk] at hok
    simp only [codeA] at he
    split at he
    · rename_i j e1 h1 h2
      simp only [Option.some.injEq, Prod.mk.injEq] at he
      obtain ⟨_, rfl, rfl⟩ := he
      exact codeA_bd hC b hok hg hbe hbh h2
    · exact codeA_bd hC b hok hg hbe hbh he
  | .loop b, e, e', h, h', x, hok, hg, hbe, hbh, he => by
    simp only [codeOk] at hok
    simp only [codeA] at he
    exact iter_bd hC (fun _ _ _ _ _ h1 h2 h3 h4 => codeA_bd hC b hok h1 h2 h3 h4) _ hg hbe hbh he
  | .exit _, e, e', h, h', x, _, _, hbe, hbh, he => by simp only [codeA, Option.some.injEq, Prod.mk.injEq] at he; obtain ⟨_, rfl, rfl⟩ := he; exact ⟨hbe, hbh⟩
  | .scope b, e, e', h, h', x, hok, hg, hbe, hbh, he => by simp only [codeOk] at hok; simp only [codeA] at he; exact codeA_bd hC b hok hg hbe hbh he
  | .label _, e, e', h, h', x, _, _, hbe, hbh, he => by simp only [codeA, Option.some.injEq, Prod.mk.injEq] at he; obtain ⟨_, rfl, rfl⟩ := he; exact ⟨hbe, hbh⟩
  | .ret, e, e', h, h', x, _, _, hbe, hbh, he => by simp only [codeA, Option.some.injEq, Prod.mk.injEq] at he; obtain ⟨_, rfl, rfl⟩ := he; exact ⟨hbe, hbh⟩
  | .goto _, e, e', h, h', x, _, _, _, _, he => by cases he
  | .rangeFunc .., e, e', h, h', x, _, _, _, _, he => by cases he
  | .refuse _, e, e', h, h', x, _, _, _, _, he => by cases he

/-- What is shown of a piece of code. -/
def CodeGood (P : Program) (C : CallF) (c : Code) : Prop :=
  ∀ (e e' : Env) (h h' : Heap) (x : Ex) (μ : Mu) (a : Act) (w : World) (Q : Exit → Act → World → Prop), codeA P C c e h = some (x, e', h') → P.globals.size ≤ h.n0 → bdL h.next e = true → HeapBd h → Sim μ h w → Free μ h h' → ERel μ e a →
    (∀ a' w', Behind μ h w e' h' a' w' → Q (exOf x) a' w') → c.wp P Q a w

theorem Behind.trans {μ μ1 : Mu} {h h1 h2 : Heap} {w w1 w2 : World} {e2 : Env} {a2 : Act} (st : Step μ h w μ1 h1 w1) (b : Behind μ1 h1 w1 e2 h2 a2 w2) : Behind μ h w e2 h2 a2 w2 := by
  obtain ⟨μ2, hS, hSt, hr⟩ := b
  exact ⟨μ2, hS, st.trans hSt, hr⟩

theorem iter_good (hC : CSound P C) {b : Code} (hb : CodeGood P C b)
    (hbd : ∀ e h x e' h', P.globals.size ≤ h.n0 → bdL h.next e = true → HeapBd h → codeA P C b e h = some (x, e', h') → bdL h'.next e' = true ∧ HeapBd h') : ∀ (n : Nat) {e e' : Env} {h h' : Heap} {x : Ex} {μ : Mu} {a : Act} {w : World} {Q : Exit → Act → World → Prop}, iter (codeA P C b) n e h = some (x, e', h') →
    P.globals.size ≤ h.n0 → bdL h.next e = true → HeapBd h → Sim μ h w → Free μ h h' → ERel μ e a → (∀ a' w', Behind μ h w e' h' a' w' → Q (exOf x) a' w') → Code.rounds P b Q n a w
  | 0, _, _, _, _, _, _, _, _, _, he, _, _, _, _, _, _, _ => by cases he
  | n + 1, e, e', h, h', x, μ, a, w, Q, he, hg, hbe, hbh, S, hf, r, hQ => by
    rw [rounds_succ]
    simp only [iter] at he
    split at he
    · rename_i e1 h1 h2
      have hgr := codeA_grow hC b h2
      have hgr2 := iter_grow (fun _ _ _ _ _ h => codeA_grow hC b h) _ he
      refine hb _ _ _ _ _ _ _ _ _ h2 hg hbe hbh S (hf.first hgr2.1) r ?_
      rintro a1 w1 ⟨μ1, hS, hSt, hr⟩
      exact iter_good hC hb hbd n he (by rw [hgr.2.1]; exact hg) (hbd _ _ _ _ _ hg hbe hbh h2).1 (hbd _ _ _ _ _ hg hbe hbh h2).2 hS (hf.second hSt) hr (fun a' w' hb' => hQ a' w' (hb'.trans hSt))
    · rename_i hne
      refine hb _ _ _ _ _ _ _ _ _ he hg hbe hbh S hf r ?_
      intro a1 w1 hb1
      have hq := hQ a1 w1 hb1
      cases x with
      | normal => exact absurd he (hne _ _)
      | ret => exact hq
      | exit i => exact hq

theorem codeA_sound (hC : CSound P C) (hm : P.follows .mixedOrders = true) : ∀ (c : Code), codeOk P c = true → CodeGood P C c
  | .skip, _ => by
    intro e e' h h' x μ a w Q he hg hbe hbh S hf r hQ
    simp only [codeA, Option.some.injEq, Prod.mk.injEq] at he
    obtain ⟨rfl, rfl, rfl⟩ := he
    exact wp_skip (hQ a w ⟨μ, S, .same_world, r⟩)
  | .region id ops d, hok => by
    intro e e' h h' x μ a w Q he hg hbe hbh S hf r hQ
    simp only [codeOk] at hok
    simp only [codeA] at he
    split at he
    · rename_i e1 h1 h2
      cases he
      cases d with
      | true => exact region_draw_sound hC hm hok h2 hg hbe hbh S hf r hQ
      | false => exact region_seq_sound hC hok (by simpa [regionA] using h2) hg hbe hbh S hf r hQ
    · cases he
  | .seq b c, hok => by
    intro e e' h h' x μ a w Q he hg hbe hbh S hf r hQ
    simp only [codeOk, Bool.and_eq_true] at hok
    simp only [codeA] at he
    refine wp_seq ?_
    split at he
    · rename_i e1 h1 h2
      have hgr := codeA_grow hC b h2
      have hgr2 := codeA_grow hC c he
      refine codeA_sound hC hm b hok.1 _ _ _ _ _ _ _ _ _ h2 hg hbe hbh S (hf.first hgr2.1) r ?_
      rintro a1 w1 ⟨μ1, hS, hSt, hr⟩
      exact codeA_sound hC hm c hok.2 _ _ _ _ _ _ _ _ _ he (by rw [hgr.2.1]; exact hg) (codeA_bd hC b hok.1 hg hbe hbh h2).1 (codeA_bd hC b hok.1 hg hbe hbh h2).2 hS (hf.second hSt) hr (fun a' w' hb' => hQ a' w' (hb'.trans hSt))
    · rename_i hne
      refine codeA_sound hC hm b hok.1 _ _ _ _ _ _ _ _ _ he hg hbe hbh S hf r ?_
      intro a1 w1 hb1
      have hq := hQ a1 w1 hb1
      cases x with
      | normal => exact absurd he (hne _ _)
      | ret => exact hq
      | exit i => exact hq
  | .cond c x y, hok => by
    intro e e' h h' ex μ a w Q he hg hbe hbh S hf r hQ
    simp only [codeOk, Bool.and_eq_true] at hok
    simp only [codeA] at he
    have hv := ev_rel S hg r hok.1.1
    split at he
    · rename_i h1
      rw [h1] at hv
      exact wp_cond_true hv.bool (codeA_sound hC hm x hok.1.2 _ _ _ _ _ _ _ _ _ he hg hbe hbh S hf r hQ)
    · rename_i h1
      rw [h1] at hv
      exact wp_cond_false hv.bool (codeA_sound hC hm y hok.2 _ _ _ _ _ _ _ _ _ he hg hbe hbh S hf r hQ)
    · cases he
  | .block id b, hok => by
    intro e e' h h' x μ a w Q he hg hbe hbh S hf r hQ
    simp only [codeOk] at hok
    simp only [codeA] at he
    refine wp_block ?_
    split at he
    · rename_i j e1 h1 h2
      simp only [Option.some.injEq, Prod.mk.injEq] at he
      obtain ⟨rfl, rfl, rfl⟩ := he
      refine codeA_sound hC hm b hok _ _ _ _ _ _ _ _ _ h2 hg hbe hbh S hf r ?_
      intro a' w' hb'
      have hq := hQ a' w' hb'
      simp only [exOf, Exit.inBlock]
      by_cases hj : j = id
      · rw [if_pos hj] at hq ⊢; exact hq
      · rw [if_neg hj] at hq ⊢; exact hq
    · rename_i hne
      refine codeA_sound hC hm b hok _ _ _ _ _ _ _ _ _ he hg hbe hbh S hf r ?_
      intro a' w' hb'
      have hq := hQ a' w' hb'
      cases x with
      | normal => exact hq
      | ret => exact hq
      | exit i => exact absurd he (hne _ _ _)
  | .loop b, hok => by
    intro e e' h h' x μ a w Q he hg hbe hbh S hf r hQ
    simp only [codeOk] at hok
    simp only [codeA] at he
    exact wp_loop_rounds _ (iter_good hC (codeA_sound hC hm b hok) (fun _ _ _ _ _ h1 h2 h3 h4 => codeA_bd hC b hok h1 h2 h3 h4) _ he hg hbe hbh S hf r hQ)
  | .exit i, _ => by
    intro e e' h h' x μ a w Q he hg hbe hbh S hf r hQ
    simp only [codeA, Option.some.injEq, Prod.mk.injEq] at he
    obtain ⟨rfl, rfl, rfl⟩ := he
    exact wp_exit (hQ a w ⟨μ, S, .same_world, r⟩)
  | .scope b, hok => by
    intro e e' h h' x μ a w Q he hg hbe hbh S hf r hQ
    simp only [codeOk] at hok
    simp only [codeA] at he
    refine wp_scope_straight (codeA_sound hC hm b hok _ _ _ _ _ _ _ _ _ he hg hbe hbh S hf r ?_)
    intro a' w' hb'
    have hq := hQ a' w' hb'
    cases x <;> exact hq
  | .label _, _ => by
    intro e e' h h' x μ a w Q he hg hbe hbh S hf r hQ
    simp only [codeA, Option.some.injEq, Prod.mk.injEq] at he
    obtain ⟨rfl, rfl, rfl⟩ := he
    exact wp_label (hQ a w ⟨μ, S, .same_world, r⟩)
  | .ret, _ => by
    intro e e' h h' x μ a w Q he hg hbe hbh S hf r hQ
    simp only [codeA, Option.some.injEq, Prod.mk.injEq] at he
    obtain ⟨rfl, rfl, rfl⟩ := he
    exact wp_ret (hQ a w ⟨μ, S, .same_world, r⟩)
  | .goto _, hok => by simp [codeOk] at hok
  | .rangeFunc .., hok => by simp [codeOk] at hok
  | .refuse _, hok => by simp [codeOk] at hok

theorem resultsA_grow {rs : List ResultVar} {e : Env} {h h' : Heap} {v : Value} (he : resultsA P rs e h = some (v, h')) : h' = h := by
  unfold resultsA at he
  split at he
  · simp only [Option.map_eq_some_iff, Prod.mk.injEq] at he; obtain ⟨_, _, _, rfl⟩ := he; rfl
  · simp only [Option.map_eq_some_iff, Prod.mk.injEq] at he; obtain ⟨_, _, _, rfl⟩ := he; rfl

def resV (tmps : Array Value) : ResultVar → Sem Value
  | .tmp t => pure (tmps.getD t undef)
  | .cell b t => do loadVar t (← asAddr (tmps.getD b undef))
theorem results_eq (fn : Func) (tmps : Array Value) : results fn tmps = (do let vs ← fn.results.mapM (resV tmps); pure (if h : vs.size = 1 then vs[0] else .tuple vs)) := rfl

theorem resultA_sound {μ : Mu} {h : Heap} {w : World} {e : Env} {a : Act} (S : Sim μ h w) (r : ERel μ e a) {x : ResultVar} {v : Value} (hv : resultA P x e h = some v) :
    ∃ v', (resV a.tmps x).run P w = .ok v' w ∧ VRel μ v v' := by
  cases x with
  | tmp t =>
    simp only [resultA, Option.some.injEq] at hv
    subst hv
    refine ⟨_, rfl, ?_⟩
    have := r.1.getD t
    simpa using this
  | cell b t =>
    simp only [resultA, Option.map_eq_some_iff] at hv
    obtain ⟨⟨v1, h1⟩, hl, rfl⟩ := hv
    have hr : VRel μ (e.getD b undef) (a.tmps.getD b undef) := by have := r.1.getD b; simpa using this
    obtain ⟨_, r', hrun, hv'⟩ := ld_sound S hr hl
    refine ⟨r', ?_, hv'⟩
    simp only [resV, Instr.loadAt, Sem.run_bind] at hrun ⊢
    cases hx : a.tmps.getD b undef with
    | pointer p =>
      rw [hx] at hrun
      cases p with
      | none => simp [Instr.sureAddr] at hrun
      | some q => simpa [Instr.sureAddr, asAddr] using hrun
    | _ => rw [hx] at hrun; simp [Instr.sureAddr] at hrun

theorem mapM_rel {μ : Mu} {h : Heap} {w : World} {e : Env} {a : Act} (S : Sim μ h w) (r : ERel μ e a) : ∀ {rs : List ResultVar} {vs : List Value}, rs.mapM (fun r => resultA P r e h) = some vs →
    ∃ vs', (rs.mapM (resV a.tmps)).run P w = .ok vs' w ∧ LRel μ vs vs'
  | [], vs, hv => by simp at hv; subst hv; exact ⟨[], by simp, LRel.nil μ⟩
  | x :: rs, vs, hv => by
    rw [List.mapM_cons] at hv
    simp only [bind, Option.bind_eq_some_iff, pure, Option.some.injEq] at hv
    obtain ⟨v, hv1, vs1, hv2, rfl⟩ := hv
    obtain ⟨v', h1, h2⟩ := resultA_sound S r hv1
    obtain ⟨vs', h3, h4⟩ := mapM_rel S r hv2
    refine ⟨v' :: vs', ?_, LRel.cons h2 h4⟩
    rw [List.mapM_cons, Sem.run_bind]
    rw [h1]
    simp only [Result.andThen_ok, Sem.run_bind]
    rw [h3]
    simp

theorem mapM_length {α β : Type} {f : α → Option β} : ∀ {l : List α} {r : List β}, l.mapM f = some r → l.length = r.length
  | [], r, h => by simp at h; subst h; rfl
  | x :: l, r, h => by
    rw [List.mapM_cons] at h
    simp only [bind, Option.bind_eq_some_iff, pure, Option.some.injEq] at h
    obtain ⟨a, _, r1, h2, rfl⟩ := h
    simp [mapM_length h2]

theorem resultsA_sound {μ : Mu} {h h' : Heap} {w : World} {e : Env} {a : Act} (S : Sim μ h w) (r : ERel μ e a) {fn : Func} {v : Value} (hv : resultsA P fn.results.toList e h = some (v, h')) :
    ∃ v', (results fn a.tmps).run P w = .ok v' w ∧ VRel μ v v' := by
  have main : ∀ {vs : List Value}, fn.results.toList.mapM (fun r => resultA P r e h) = some vs → ∃ vs', (fn.results.mapM (resV a.tmps)).run P w = .ok vs'.toArray w ∧ LRel μ vs vs' := by
    intro vs hvs
    obtain ⟨vs', h1, h2⟩ := mapM_rel S r hvs
    refine ⟨vs', ?_, h2⟩
    rw [Array.mapM_eq_mapM_toList, Sem.run_map, h1]
    rfl
  unfold resultsA at hv
  split at hv
  · rename_i x hx
    simp only [Option.map_eq_some_iff, Prod.mk.injEq] at hv
    obtain ⟨v1, hv1, rfl, rfl⟩ := hv
    obtain ⟨vs', h1, h2⟩ := main (vs := [v1]) (by rw [hx]; simp [hv1])
    have hl := h2.1
    match vs', hl with
    | [v'], _ =>
      refine ⟨v', ?_, h2.head⟩
      rw [results_eq, Sem.run_bind]
      rw [h1]
      simp
  · rename_i hne
    simp only [Option.map_eq_some_iff, Prod.mk.injEq] at hv
    obtain ⟨vs, hvs, rfl, rfl⟩ := hv
    obtain ⟨vs', h1, h2⟩ := main hvs
    refine ⟨.tuple vs'.toArray, ?_, .of_list_tuple h2⟩
    rw [results_eq, Sem.run_bind]
    rw [h1]
    simp only [Result.andThen_ok, Sem.run_pure]
    have hlen : vs'.length ≠ 1 := by
      rw [← h2.1, ← mapM_length hvs]
      intro h1'
      obtain ⟨x, hx⟩ := List.length_eq_one_iff.1 h1'
      exact hne x hx
    rw [dif_neg (by simpa using hlen)]

end code
end Go.Abs

namespace Go.Abs

/-- A result, handed on. -/
def thenV {α : Type} (r : Out) (k : Value → Heap → Option α) : Option α :=
  match r with
  | some (v, h) => k v h
  | none => none

/-- An operation under a guard. -/
def guardK (g : Bool) (o : Out) (h : Heap) : Out :=
  match g with
  | true => o
  | false => some (undef, h)

def opsK {α : Type} (P : Program) (C : CallF) (ops : Array Oper) : List Oper → Env → Heap → (Env → Heap → Option α) → Option α
  | [], e, h, k => k e h
  | o :: rest, e, h, k =>
    match o.guard with
    | none => thenV (opA P C o (ev e) h) fun v h' => opsK P C ops rest (putD e o.dst v) h' k
    | some (j, want) => thenV (guardK (yieldA ops e j == some want) (opA P C o (ev e) h) h) fun v h' => opsK P C ops rest (putD e o.dst v) h' k

theorem opsK_eq {α : Type} (P : Program) (C : CallF) (ops : Array Oper) : ∀ (l : List Oper) (e : Env) (h : Heap) (k : Env → Heap → Option α),
    opsK P C ops l e h k = match opsA P C ops l e h with | some (e', h') => k e' h' | none => none
  | [], e, h, k => rfl
  | o :: rest, e, h, k => by
    unfold opsK opsA stepA wantA thenV
    cases hg : o.guard with
    | none =>
      simp only [if_true]
      cases opA P C o (ev e) h with
      | none => rfl
      | some r => exact opsK_eq P C ops rest _ _ k
    | some g =>
      obtain ⟨j, want⟩ := g
      simp only
      by_cases hy : (yieldA ops e j == some want) = true
      · simp only [hy, if_true, guardK]
        cases opA P C o (ev e) h with
        | none => rfl
        | some r => exact opsK_eq P C ops rest _ _ k
      · rw [if_neg hy]
        rw [Bool.not_eq_true] at hy
        simp only [hy, guardK]
        exact opsK_eq P C ops rest _ _ k

/-- No reader stands beside an effect that it does not hang on, nor that on it. -/
def dynTriv (P : Program) (ops : Array Oper) (l : List (Nat × Oper)) : Bool :=
  let m := befM ops
  l.all fun x => !(kindOf P x.2 == .read) || l.all fun y => !(kindOf P y.2 == .eff) || befB m x.1 y.1 || befB m y.1 x.1

theorem dynTriv_ok {P : Program} {C : CallF} {ops : Array Oper} {l : List (Nat × Oper)} (ht : dynTriv P ops l = true) (tr : List Tr1) (hE : Heap) : dynOk P C ops l tr hE = true := by
  unfold dynOk
  unfold dynTriv at ht
  simp only [List.all_eq_true, Bool.or_eq_true, Bool.not_eq_true', Bool.and_eq_false_iff] at ht ⊢
  intro x hx
  by_cases hr : (kindOf P x.1.1.2 == .read && x.1.2.ran) = true
  · right
    have hx1 : x.1.1 ∈ l := by
      obtain ⟨i, hi⟩ := List.getElem?_of_mem hx
      rw [List.getElem?_zipIdx, Option.map_eq_some_iff] at hi
      obtain ⟨z, hz, rfl⟩ := hi
      exact List.of_mem_zip (a := z.1) (b := z.2) (List.mem_of_getElem? hz) |>.1
    intro y hy
    have hy1 : y.1 ∈ l ∧ (kindOf P y.1.2 == .eff) = true := by
      rw [List.mem_filter] at hy
      refine ⟨?_, hy.2⟩
      obtain ⟨i, hi⟩ := List.getElem?_of_mem hy.1
      rw [List.getElem?_zipIdx, Option.map_eq_some_iff] at hi
      obtain ⟨z, hz, rfl⟩ := hi
      exact List.mem_of_getElem? hz
    left
    rcases ht x.1.1 hx1 with h1 | h1
    · rw [h1] at hr; simp at hr
    · rcases h1 y.1 hy1.1 with (h2 | h2) | h2
      · rw [hy1.2] at h2; cases h2
      · exact .inl h2
      · exact .inr h2
  · left
    cases h1 : (kindOf P x.1.1.2 == .read) with
    | false => simp
    | true => rw [h1] at hr; simpa using hr

theorem trace_ops {P : Program} {C : CallF} {ops : Array Oper} : ∀ (l : List (Nat × Oper)) (e : Env) (h : Heap),
    (traceA P C ops l e h).map (·.2) = opsA P C ops (l.map (·.2)) e h
  | [], e, h => rfl
  | (i, o) :: rest, e, h => by
    simp only [traceA, List.map_cons, opsA, stepA]
    by_cases hw : wantA ops o e = true
    · rw [if_pos hw, if_pos hw]
      cases opA P C o (ev e) h with
      | none => rfl
      | some r =>
        obtain ⟨v, h'⟩ := r
        simp only
        have := trace_ops (P := P) (C := C) (ops := ops) rest (putD e o.dst v) h'
        rw [← this]
        cases traceA P C ops rest (putD e o.dst v) h' <;> rfl
    · rw [if_neg hw, if_neg hw]
      simp only
      have := trace_ops (P := P) (C := C) (ops := ops) rest (putD e o.dst undef) h
      rw [← this]
      cases traceA P C ops rest (putD e o.dst undef) h <;> rfl

def lateOk (P : Program) (ops : Array Oper) : Bool := statOk P ops (late P ops) && dynTriv P ops (late P ops)

/-- Readers and effects that do not hang on one another, by their places. -/
def dynPairs (P : Program) (ops : Array Oper) (l : List (Nat × Oper)) : List (Nat × Nat) :=
  let m := befM ops
  (l.zipIdx.filter fun x => kindOf P x.1.2 == .read).flatMap fun x =>
    (l.zipIdx.filter fun y => kindOf P y.1.2 == .eff && !(befB m x.1.1 y.1.1 || befB m y.1.1 x.1.1)).map fun y => (x.2, y.2)
def chkR (ran : Bool) (r : Out) (v : Value) : Bool := !ran || same r v
def chkAt (P : Program) (C : CallF) (l : List (Nat × Oper)) (tr : List Tr1) (hs : List Heap) (x : Nat × Nat) : Bool :=
  match l[x.1]?, tr[x.1]?, heapAt (tr.map (·.ran)) hs (madeIn P l x) (if x.2 < x.1 then x.2 else x.2 + 1) with
  | some y, some t, some h => chkR t.ran (opA P C y.2 (ev t.e) h) t.v
  | some _, some t, none => !t.ran
  | _, _, _ => false
def dynChk (P : Program) (C : CallF) (ops : Array Oper) (l : List (Nat × Oper)) (tr : List Tr1) (hEnd : Heap) : Bool :=
  (dynPairs P ops l).foldr (fun x acc => chkAt P C l tr (tr.map (·.h) ++ [hEnd]) x && acc) true

theorem foldr_all {α : Type} (f : α → Bool) : ∀ l : List α, l.foldr (fun x acc => f x && acc) true = l.all f
  | [] => rfl
  | x :: l => by simp only [List.foldr_cons, List.all_cons, foldr_all f l]

theorem mem_zipIdx_get {α : Type} {l : List α} {x : α} {i : Nat} : (x, i) ∈ l.zipIdx ↔ l[i]? = some x := by
  constructor
  · intro h
    obtain ⟨j, hj⟩ := List.getElem?_of_mem h
    rw [List.getElem?_zipIdx, Option.map_eq_some_iff] at hj
    obtain ⟨z, hz, he⟩ := hj
    simp only [Prod.mk.injEq, Nat.zero_add] at he
    obtain ⟨rfl, rfl⟩ := he
    exact hz
  · intro h
    have : l.zipIdx[i]? = some (x, i) := by rw [List.getElem?_zipIdx, h]; simp
    exact List.mem_of_getElem? this

theorem dynChk_eq {P : Program} {C : CallF} {ops : Array Oper} {l : List (Nat × Oper)} {tr : List Tr1} {hEnd : Heap} (hlen : tr.length = l.length) : dynChk P C ops l tr hEnd = dynOk P C ops l tr hEnd := by
  unfold dynChk dynOk
  rw [foldr_all, Bool.eq_iff_iff]
  simp only [List.all_eq_true]
  have hz : ∀ (x : Nat × Oper) (t : Tr1) (i : Nat), ((x, t), i) ∈ (l.zip tr).zipIdx ↔ l[i]? = some x ∧ tr[i]? = some t := by
    intro x t i
    rw [mem_zipIdx_get, List.getElem?_zip_eq_some]
  constructor
  · rintro h ⟨⟨x, t⟩, i⟩ hx
    obtain ⟨hx1, hx2⟩ := (hz x t i).1 hx
    simp only [Bool.or_eq_true, Bool.not_eq_true', Bool.and_eq_false_iff, List.all_eq_true]
    by_cases hr : (kindOf P x.2 == .read) = true
    · by_cases hran : t.ran = true
      · right
        rintro ⟨y, j⟩ hy
        rw [List.mem_filter, mem_zipIdx_get] at hy
        simp only at hy ⊢
        by_cases hb : (befB (befM ops) x.1 y.1 || befB (befM ops) y.1 x.1) = true
        · left; simpa using hb
        · right
          have hp : (i, j) ∈ dynPairs P ops l := by
            unfold dynPairs
            simp only [List.mem_flatMap, List.mem_filter, List.mem_map]
            exact ⟨(x, i), ⟨mem_zipIdx_get.2 hx1, hr⟩, (y, j), ⟨mem_zipIdx_get.2 hy.1, by simp only [hy.2, Bool.true_and]; simpa using hb⟩, rfl⟩
          have := h _ hp
          unfold chkAt at this
          simp only [hx1, hx2] at this
          split at this
          · rename_i h1 h2 h3
            cases h1; cases h2
            rw [h3]
            simpa [chkR, hran] using this
          · rename_i h1 h2 h3
            cases h2
            rw [hran] at this; simp at this
          · simp at this
      · left; right; simpa using hran
    · left; left; simpa using hr
  · rintro h ⟨i, j⟩ hp
    unfold dynPairs at hp
    simp only [List.mem_flatMap, List.mem_filter, List.mem_map] at hp
    obtain ⟨⟨x, i'⟩, ⟨hx1, hr⟩, ⟨y, j'⟩, ⟨hy1, hy2⟩, he⟩ := hp
    simp only [Prod.mk.injEq] at he
    obtain ⟨rfl, rfl⟩ := he
    rw [mem_zipIdx_get] at hx1 hy1
    simp only [Bool.and_eq_true] at hr hy2
    have hi : i' < tr.length := by rw [hlen]; exact (List.getElem?_eq_some_iff.1 hx1).1
    have ht : tr[i']? = some tr[i'] := List.getElem?_eq_getElem hi
    have hq := h ((x, tr[i']), i') ((hz _ _ _).2 ⟨hx1, ht⟩)
    simp only [hr, Bool.true_and, Bool.or_eq_true, Bool.not_eq_true', List.all_eq_true] at hq
    unfold chkAt
    simp only [hx1, ht]
    have key : tr[i'].ran = true → (match heapAt (tr.map (·.ran)) (List.map (fun x => x.h) tr ++ [hEnd]) (madeIn P l (i', j')) (if j' < i' then j' else j' + 1) with | some h => same (opA P C x.2 (ev tr[i'].e) h) tr[i'].v | none => false) = true := by
      intro hran
      rcases hq with hq | hq
      · rw [hran] at hq; cases hq
      · have := hq (y, j') (List.mem_filter.2 ⟨mem_zipIdx_get.2 hy1, hy2.1⟩)
        simp only at this
        have hy3 := hy2.2
        rcases this with h1 | h1
        · have h1' : (befB (befM ops) x.1 y.1 || befB (befM ops) y.1 x.1) = true := by simpa using h1
          simp [h1'] at hy3
        · exact h1
    split
    · rename_i h1 h2 h3
      cases h1; cases h2
      unfold chkR
      cases hran : tr[i'].ran with
      | false => rfl
      | true => have := key hran; rw [h3] at this; simpa using this
    · rename_i h1 h2 h3
      cases h2
      cases hran : tr[i'].ran with
      | false => rfl
      | true => have := key hran; rw [h3] at this; simp at this
    · rename_i h1 h2
      cases hh : heapAt (tr.map (·.ran)) (List.map (fun x => x.h) tr ++ [hEnd]) (madeIn P l (i', j')) (if j' < i' then j' else j' + 1) with
      | some hp' => exact absurd hh (h1 _ _ _ rfl rfl)
      | none => exact absurd hh (h2 _ _ rfl rfl)

def traceK {α : Type} (P : Program) (C : CallF) (ops : Array Oper) : List (Nat × Oper) → Env → Heap → (List Tr1 → Env → Heap → Option α) → Option α
  | [], e, h, k => k [] e h
  | x :: rest, e, h, k =>
    match x.2.guard with
    | none => thenV (opA P C x.2 (ev e) h) fun v h' => traceK P C ops rest (putD e x.2.dst v) h' fun tr => k (⟨e, h, v, true⟩ :: tr)
    | some (j, want) => thenV (guardK (yieldA ops e j == some want) (opA P C x.2 (ev e) h) h) fun v h' => traceK P C ops rest (putD e x.2.dst v) h' fun tr => k (⟨e, h, v, yieldA ops e j == some want⟩ :: tr)

theorem traceK_eq {α : Type} (P : Program) (C : CallF) (ops : Array Oper) : ∀ (l : List (Nat × Oper)) (e : Env) (h : Heap) (k : List Tr1 → Env → Heap → Option α),
    traceK P C ops l e h k = match traceA P C ops l e h with | some (tr, e', h') => k tr e' h' | none => none
  | [], e, h, k => rfl
  | (i, o) :: rest, e, h, k => by
    unfold traceK traceA wantA thenV
    simp only
    cases hg : o.guard with
    | none =>
      simp only [if_true]
      cases opA P C o (ev e) h with
      | none => rfl
      | some r =>
        simp only
        rw [traceK_eq P C ops rest]
        cases traceA P C ops rest (putD e o.dst r.1) r.2 <;> rfl
    | some g =>
      obtain ⟨j, want⟩ := g
      simp only
      by_cases hy : (yieldA ops e j == some want) = true
      · simp only [hy, if_true, guardK]
        cases opA P C o (ev e) h with
        | none => rfl
        | some r =>
          simp only
          rw [traceK_eq P C ops rest]
          cases traceA P C ops rest (putD e o.dst r.1) r.2 <;> rfl
      · rw [if_neg hy]
        rw [Bool.not_eq_true] at hy
        simp only [hy, guardK]
        rw [traceK_eq P C ops rest]
        cases traceA P C ops rest (putD e o.dst undef) h <;> rfl

theorem traceA_length {P : Program} {C : CallF} {ops : Array Oper} : ∀ {l : List (Nat × Oper)} {e e' : Env} {h h' : Heap} {tr : List Tr1}, traceA P C ops l e h = some (tr, e', h') → tr.length = l.length
  | [], e, e', h, h', tr, ht => by simp only [traceA, Option.some.injEq, Prod.mk.injEq] at ht; rw [← ht.1]; rfl
  | (i, o) :: rest, e, e', h, h', tr, ht => by
    simp only [traceA] at ht
    split at ht
    · split at ht
      · split at ht
        · rename_i r h5
          obtain ⟨e2, h2⟩ := r
          simp only [Option.some.injEq, Prod.mk.injEq] at ht
          obtain ⟨rfl, _⟩ := ht
          simp [traceA_length h5]
        · cases ht
      · cases ht
    · split at ht
      · rename_i r h5
        obtain ⟨e2, h2⟩ := r
        simp only [Option.some.injEq, Prod.mk.injEq] at ht
        obtain ⟨rfl, _⟩ := ht
        simp [traceA_length h5]
      · cases ht

def regionK {α : Type} (P : Program) (C : CallF) (ops : Array Oper) (draw : Bool) (e : Env) (h : Heap) (k : Env → Heap → Option α) : Option α :=
  match draw with
  | false => opsK P C ops ops.toList e h k
  | true =>
    match lateOk P ops with
    | true => opsK P C ops ((late P ops).map (·.2)) e h k
    | false => match statOk P ops (late P ops) with
      | true => traceK P C ops (late P ops) e h fun tr e' h' => match dynChk P C ops (late P ops) tr h' with
        | true => k e' h'
        | false => none
      | false => none

theorem regionK_eq {α : Type} (P : Program) (C : CallF) (ops : Array Oper) (draw : Bool) (e : Env) (h : Heap) (k : Env → Heap → Option α) :
    regionK P C ops draw e h k = match regionA P C ops draw e h with | some (e', h') => k e' h' | none => none := by
  unfold regionK
  cases draw with
  | false => simp only [opsK_eq, regionA]; rfl
  | true =>
    simp only
    cases hl : lateOk P ops with
    | false =>
      simp only [traceK_eq, regionA, if_true]
      cases hs : statOk P ops (late P ops) with
      | false => rfl
      | true =>
        simp only [if_true]
        cases ht : traceA P C ops (late P ops) e h with
        | none => rfl
        | some r =>
          obtain ⟨tr, e', h'⟩ := r
          simp only
          rw [dynChk_eq (traceA_length ht)]
          cases dynOk P C ops (late P ops) tr h' <;> rfl
    | true =>
      simp only [lateOk, Bool.and_eq_true] at hl
      simp only [opsK_eq, regionA, if_true, hl.1, ← trace_ops]
      cases ht : traceA P C ops (late P ops) e h with
      | none => rfl
      | some r =>
        obtain ⟨tr, e', h'⟩ := r
        simp [dynTriv_ok hl.2]

/-- Code, and what comes behind it: on the way on, on a return, on an exit. -/
def codeK {α : Type} (P : Program) (C : CallF) : Code → Env → Heap → (Env → Heap → Option α) → (Env → Heap → Option α) → (Nat → Env → Heap → Option α) → Option α
  | .skip, e, h, n, _, _ => n e h
  | .region _ ops draw, e, h, n, _, _ => regionK P C ops draw e h n
  | .seq a b, e, h, n, r, x => codeK P C a e h (fun e' h' => codeK P C b e' h' n r x) r x
  | .cond c a b, e, h, n, r, x => match ev e c with
    | .bool true => codeK P C a e h n r x
    | .bool false => codeK P C b e h n r x
    | _ => none
  | .block id b, e, h, n, r, x => codeK P C b e h n r (fun i e' h' => if i = id then n e' h' else x i e' h')
  | .loop b, e, h, _, r, x => match iter (codeA P C b) rounds e h with
    | some (.ret, e', h') => r e' h'
    | some (.exit i, e', h') => x i e' h'
    | _ => none
  | .exit i, e, h, _, _, x => x i e h
  | .scope b, e, h, n, r, x => codeK P C b e h n r x
  | .label _, e, h, n, _, _ => n e h
  | .ret, e, h, _, r, _ => r e h
  | .goto _, _, _, _, _, _ => none
  | .rangeFunc .., _, _, _, _, _ => none
  | .refuse _, _, _, _, _, _ => none

theorem iter_not_normal {step : Env → Heap → Option (Ex × Env × Heap)} : ∀ (n : Nat) (e : Env) (h : Heap) {e' : Env} {h' : Heap}, iter step n e h ≠ some (.normal, e', h')
  | 0, _, _, _, _ => by simp [iter]
  | n + 1, e, h, e', h' => by
    unfold iter
    split
    · exact iter_not_normal n _ _
    · rename_i hne
      exact hne e' h'

def endK {α : Type} (n r : Env → Heap → Option α) (x : Nat → Env → Heap → Option α) : Option (Ex × Env × Heap) → Option α
  | some (.normal, e, h) => n e h
  | some (.ret, e, h) => r e h
  | some (.exit i, e, h) => x i e h
  | none => none

theorem codeK_eq {α : Type} (P : Program) (C : CallF) : ∀ (c : Code) (e : Env) (h : Heap) (n r : Env → Heap → Option α) (x : Nat → Env → Heap → Option α),
    codeK P C c e h n r x = endK n r x (codeA P C c e h)
  | .skip, e, h, n, r, x => rfl
  | .region id ops d, e, h, n, r, x => by
    simp only [codeK, codeA, regionK_eq]
    cases regionA P C ops d e h <;> rfl
  | .seq a b, e, h, n, r, x => by
    simp only [codeK, codeA]
    rw [codeK_eq P C a]
    cases ha : codeA P C a e h with
    | none => rfl
    | some y =>
      obtain ⟨ex, e', h'⟩ := y
      cases ex with
      | normal => simp only [endK]; exact codeK_eq P C b _ _ _ _ _
      | ret => rfl
      | exit i => rfl
  | .cond c a b, e, h, n, r, x => by
    simp only [codeK, codeA]
    generalize ev e c = v
    cases v with
    | bool t =>
      cases t with
      | true => exact codeK_eq P C a _ _ _ _ _
      | false => exact codeK_eq P C b _ _ _ _ _
    | _ => rfl
  | .block id b, e, h, n, r, x => by
    simp only [codeK, codeA]
    rw [codeK_eq P C b]
    cases hb : codeA P C b e h with
    | none => rfl
    | some y =>
      obtain ⟨ex, e', h'⟩ := y
      cases ex with
      | normal => rfl
      | ret => rfl
      | exit i =>
        simp only [endK]
        by_cases hi : i = id
        · simp [hi]
        · simp [hi]
  | .loop b, e, h, n, r, x => by
    simp only [codeK, codeA]
    cases hb : iter (codeA P C b) rounds e h with
    | none => rfl
    | some y =>
      obtain ⟨ex, e', h'⟩ := y
      cases ex with
      | normal => exact absurd hb (iter_not_normal _ _ _)
      | ret => rfl
      | exit i => rfl
  | .exit i, e, h, n, r, x => rfl
  | .scope b, e, h, n, r, x => by simp only [codeK, codeA]; exact codeK_eq P C b _ _ _ _ _
  | .label _, e, h, n, r, x => rfl
  | .ret, e, h, n, r, x => rfl
  | .goto _, e, h, n, r, x => rfl
  | .rangeFunc .., e, h, n, r, x => rfl
  | .refuse _, e, h, n, r, x => rfl

def bodyK (P : Program) (C : CallF) (fn : Func) (args : List Value) (h : Heap) : Out :=
  match fn.body with
  | none => none
  | some c => codeK P C c (args ++ List.replicate (fn.ntmps - args.length) undef) h (resultsA P fn.results.toList) (resultsA P fn.results.toList) (fun _ _ _ => none)

theorem bodyK_eq (P : Program) (C : CallF) (fn : Func) (args : List Value) (h : Heap) : bodyK P C fn args h = bodyA P C fn args h := by
  unfold bodyK bodyA
  cases fn.body with
  | none => rfl
  | some c =>
    simp only [codeK_eq]
    cases codeA P C c (args ++ List.replicate (fn.ntmps - args.length) undef) h with
    | none => rfl
    | some y =>
      obtain ⟨ex, e', h'⟩ := y
      cases ex <;> rfl

/-- One round of a loop, in passing style. -/
def roundK (P : Program) (C : CallF) (b : Code) (e : Env) (h : Heap) : Option (Ex × Env × Heap) :=
  codeK P C b e h (fun e h => some (.normal, e, h)) (fun e h => some (.ret, e, h)) (fun i e h => some (.exit i, e, h))
theorem roundK_eq (P : Program) (C : CallF) (b : Code) (e : Env) (h : Heap) : roundK P C b e h = codeA P C b e h := by
  unfold roundK
  rw [codeK_eq]
  cases codeA P C b e h with
  | none => rfl
  | some y =>
    obtain ⟨ex, e', h'⟩ := y
    cases ex <;> rfl

end Go.Abs

namespace Go.Abs

theorem body_sound {P : Program} {C : CallF} (hC : CSound P C) (hm : P.follows .mixedOrders = true) {f : FuncId} {fn : Func} {c : Code} (hf : P.funcs[f]? = some fn) (hb : fn.body = some c) (hok : codeOk P c = true)
    {args : List Value} {h h' : Heap} {v : Value} (he : bodyA P C fn args h = some (v, h')) (hg : P.globals.size ≤ h.n0) (hba : bdL h.next args = true) (hbh : HeapBd h)
    {μ : Mu} {w : World} {args' : List Value} (S : Sim μ h w) (hfr : Free μ h h') (r : LRel μ args args') :
    Calls P f args'.toArray w fun e w' => ∃ μ' v', e = .returned v' ∧ Sim μ' h' w' ∧ Step μ h w μ' h' w' ∧ VRel μ' v v' := by
  unfold bodyA at he
  rw [hb] at he
  simp only at he
  refine calls_of_wp hf hb ?_
  have hbe : bdL h.next (args ++ List.replicate (fn.ntmps - args.length) undef) = true :=
    bdL_append hba (bdL_iff.2 fun x hx => by rw [List.eq_of_mem_replicate hx]; rfl)
  have her : ERel μ (args ++ List.replicate (fn.ntmps - args.length) undef) { tmps := args'.toArray ++ Array.replicate (fn.ntmps - args'.toArray.size) undef, defers := [] } := by
    refine ⟨?_, rfl⟩
    have h1 : args.length = args'.length := r.1
    simp only [Array.toList_append, Array.toList_replicate, List.size_toArray]
    rw [h1]
    exact r.append (LRel.replicate μ _ (VRel.undef μ))
  cases hc : codeA P C c (args ++ List.replicate (fn.ntmps - args.length) undef) h with
  | none => rw [hc] at he; cases he
  | some y =>
    obtain ⟨ex, e1, h1⟩ := y
    rw [hc] at he
    have hgrow : resultsA P fn.results.toList e1 h1 = some (v, h') := by
      cases ex with
      | normal => exact he
      | ret => exact he
      | exit i => cases he
    obtain rfl := resultsA_grow hgrow
    refine codeA_sound hC hm c hok _ _ _ _ _ _ _ _ _ hc hg hbe hbh S hfr her ?_
    rintro a' w' ⟨μ', hS, hSt, hr⟩
    obtain ⟨v', h3, h4⟩ := resultsA_sound hS hr hgrow
    cases ex with
    | normal => exact ⟨hr.2, v', h3, μ', v', rfl, hS, hSt, h4⟩
    | ret => exact ⟨hr.2, v', h3, μ', v', rfl, hS, hSt, h4⟩
    | exit i => cases he

/-! Values with other block numbers. -/
mutual
def renV (r : Nat → Nat) : Value → Value
  | .pointer (some a) => .pointer (some ⟨r a.block, a.off, a.spot⟩)
  | .slice (some a) l c => .slice (some ⟨r a.block, a.off, a.spot⟩) l c
  | .agg ⟨l⟩ => .agg ⟨renL r l⟩
  | .tuple ⟨l⟩ => .tuple ⟨renL r l⟩
  | .func f ⟨a⟩ ⟨b⟩ => .func f ⟨renL r a⟩ ⟨renL r b⟩
  | .iface t v => .iface t (renV r v)
  | v => v
def renL (r : Nat → Nat) : List Value → List Value
  | [] => []
  | x :: l => renV r x :: renL r l
end

theorem renL_map (r : Nat → Nat) : ∀ l, renL r l = l.map (renV r)
  | [] => rfl
  | x :: l => by simp [renL, renL_map r l]

theorem flat_ren (r : Nat → Nat) (v : Value) (h : flat (renV r v) = true) : flat v = true ∧ renV r v = v := by
  cases v with
  | pointer p => cases p with
    | none => exact ⟨rfl, rfl⟩
    | some a => simp [renV, flat] at h
  | slice p l c => cases p with
    | none => exact ⟨rfl, rfl⟩
    | some a => simp [renV, flat] at h
  | agg a => obtain ⟨l⟩ := a; simp [renV, flat] at h
  | tuple a => obtain ⟨l⟩ := a; simp [renV, flat] at h
  | func f a b =>
    obtain ⟨a⟩ := a
    obtain ⟨b⟩ := b
    cases f with
    | func i =>
      simp only [renV, flat, Bool.and_eq_true, List.isEmpty_toArray, List.isEmpty_iff, renL_map, List.map_eq_nil_iff] at h
      obtain ⟨rfl, rfl⟩ := h
      exact ⟨rfl, rfl⟩
    | _ => simp [renV, flat] at h
  | iface t v => simp [renV, flat] at h
  | _ => exact ⟨h, rfl⟩

theorem LRel.of_ren {μ : Mu} {r : Nat → Nat} {l l' : List Value} (h : LRel μ (renL r l) l') (ih : ∀ x ∈ l, ∀ y, VRel μ (renV r x) y → VRel (fun b => μ (r b)) x y) : LRel (fun b => μ (r b)) l l' := by
  rw [renL_map] at h
  refine ⟨by have := h.1; simpa using this, fun i x y hx hy => ?_⟩
  exact ih x (List.mem_of_getElem? hx) y (h.2 i (renV r x) y (by simp [hx]) hy)

mutual
theorem VRel.of_ren {μ : Mu} {r : Nat → Nat} : ∀ (v : Value) {v' : Value}, VRel μ (renV r v) v' → VRel (fun b => μ (r b)) v v'
  | .pointer none, v', h => by have := h.flat_eq rfl; subst this; exact .flat rfl
  | .pointer (some ⟨b, o, s⟩), v', h => by
    simp only [renV] at h
    cases h with
    | flat h => simp [flat] at h
    | ptr h => exact .ptr h
  | .slice none l c, v', h => by have := h.flat_eq rfl; subst this; exact .flat rfl
  | .slice (some ⟨b, o, s⟩) l c, v', h => by
    simp only [renV] at h
    cases h with
    | flat h => simp [flat] at h
    | slice h => exact .slice h
    | hid h a b c d e => exact .hid h a b c d e
    | hemp h => exact .hemp h
    | zer => exact .zer
  | .agg ⟨l⟩, v', h => by
    simp only [renV] at h
    obtain ⟨ys, rfl, hl⟩ := h.agg_iff
    exact .of_list_agg (LRel.of_ren' l hl)
  | .tuple ⟨l⟩, v', h => by
    simp only [renV] at h
    obtain ⟨ys, rfl, hl⟩ := h.tuple_iff
    exact .of_list_tuple (LRel.of_ren' l hl)
  | .func f ⟨a⟩ ⟨b⟩, v', h => by
    by_cases hf : flat (renV r (.func f ⟨a⟩ ⟨b⟩)) = true
    · obtain ⟨h1, h2⟩ := flat_ren r _ hf
      have h3 := h.flat_eq hf
      rw [h2] at h3
      subst h3
      exact .flat h1
    · simp only [renV] at h hf
      cases h with
      | flat h => exact absurd h hf
      | @func _ _ ys _ zs h1 h2 h3 h4 =>
        have q1 : LRel μ (renL r a) ys.toList := ⟨by simpa using h1, fun i x y hx hy => h2 i x y (by simpa using hx) (by simpa using hy)⟩
        have q2 : LRel μ (renL r b) zs.toList := ⟨by simpa using h3, fun i x y hx hy => h4 i x y (by simpa using hx) (by simpa using hy)⟩
        have p1 := LRel.of_ren' a q1
        have p2 := LRel.of_ren' b q2
        exact .func (by simpa using p1.1) (fun i x y hx hy => p1.2 i x y (by simpa using hx) (by simpa using hy)) (by simpa using p2.1) (fun i x y hx hy => p2.2 i x y (by simpa using hx) (by simpa using hy))
  | .iface t v, v', h => by
    simp only [renV] at h
    cases h with
    | flat h => simp [flat] at h
    | iface h => exact .iface (VRel.of_ren v h)
  | .bool _, v', h => by have := h.flat_eq rfl; subst this; exact .flat rfl
  | .int _ _, v', h => by have := h.flat_eq rfl; subst this; exact .flat rfl
  | .float _ _, v', h => by have := h.flat_eq rfl; subst this; exact .flat rfl
  | .complex _ _ _, v', h => by have := h.flat_eq rfl; subst this; exact .flat rfl
  | .string _, v', h => by have := h.flat_eq rfl; subst this; exact .flat rfl
  | .map none, v', h => by have := h.flat_eq rfl; subst this; exact .flat rfl
  | .map (some _), v', h => by
    simp only [renV] at h
    cases h with
    | flat h => simp [flat] at h
  | .chan none, v', h => by have := h.flat_eq rfl; subst this; exact .flat rfl
  | .chan (some _), v', h => by
    simp only [renV] at h
    cases h with
    | flat h => simp [flat] at h
  | .nilFunc, v', h => by have := h.flat_eq rfl; subst this; exact .flat rfl
  | .nilIface, v', h => by have := h.flat_eq rfl; subst this; exact .flat rfl
theorem LRel.of_ren' {μ : Mu} {r : Nat → Nat} : ∀ (l : List Value) {l' : List Value}, LRel μ (renL r l) l' → LRel (fun b => μ (r b)) l l'
  | [], l', h => by
    have := h.1
    simp only [renL, List.length_nil] at this
    obtain rfl := List.eq_nil_of_length_eq_zero this.symm
    exact LRel.nil _
  | x :: l, l', h => by
    simp only [renL] at h
    match l', h with
    | [], h => have := h.1; simp at this
    | y :: l', h => exact .cons (VRel.of_ren x h.head) (LRel.of_ren' l h.tail)
end

end Go.Abs

namespace Go.Abs

mutual
theorem renV_id {r : Nat → Nat} {n : Nat} (hr : ∀ b, b < n → r b = b) : ∀ (v : Value), bdV n v = true → renV r v = v
  | .pointer none, _ => rfl
  | .pointer (some ⟨b, o, s⟩), h => by simp only [bdV, decide_eq_true_eq] at h; simp only [renV, hr b h]
  | .slice none l c, _ => rfl
  | .slice (some ⟨b, o, s⟩) l c, h => by simp only [bdV, decide_eq_true_eq] at h; simp only [renV, hr b h]
  | .agg ⟨l⟩, h => by simp only [renV]; rw [renL_id hr l h]
  | .tuple ⟨l⟩, h => by simp only [renV]; rw [renL_id hr l h]
  | .func f ⟨a⟩ ⟨b⟩, h => by simp only [bdV, Bool.and_eq_true] at h; simp only [renV]; rw [renL_id hr a h.1, renL_id hr b h.2]
  | .iface t v, h => by simp only [bdV] at h; simp only [renV]; rw [renV_id hr v h]
  | .bool _, _ => rfl
  | .int _ _, _ => rfl
  | .float _ _, _ => rfl
  | .complex _ _ _, _ => rfl
  | .string _, _ => rfl
  | .map _, _ => rfl
  | .chan _, _ => rfl
  | .nilFunc, _ => rfl
  | .nilIface, _ => rfl
theorem renL_id {r : Nat → Nat} {n : Nat} (hr : ∀ b, b < n → r b = b) : ∀ (l : List Value), bdL n l = true → renL r l = l
  | [], _ => rfl
  | x :: l, h => by
    simp only [bdL, Bool.and_eq_true] at h
    simp only [renL]
    rw [renV_id hr x h.1, renL_id hr l h.2]
end

/-- What a run left is what is told, but for blocks that nobody knows, and for the new blocks' numbers. -/
structure Gc (h : Heap) (v : Value) (h' : Heap) (v1 : Value) (h1 : Heap) (r : Nat → Nat) : Prop where
  low : ∀ b, b < h.next → r b = b
  new : ∀ b, h.next ≤ b → b < h'.next → h.next ≤ r b
  inj : ∀ b b', h.next ≤ b → b < h'.next → h.next ≤ b' → b' < h'.next → r b = r b' → b = b'
  val : v1 = renV r v
  get : ∀ b k, h'.n0 ≤ b → h'.get b = some k → h1.get (r b) = some (renL r k)

theorem gc_sound {μ μ1 : Mu} {h h' h1 : Heap} {w w' : World} {v v1 v' : Value} {r : Nat → Nat} (G : Gc h v h' v1 h1 r) (gr : Grow h h') (gr1 : Grow h h1) (hbh : HeapBd h) (hbh' : HeapBd h') (hbv : bdV h'.next v = true)
    (S1 : Sim μ1 h1 w') (St : Step (μ.cut h.next) h w μ1 h1 w') (hv : VRel μ1 v1 v') :
    ∃ μ', Sim μ' h' w' ∧ Step μ h w μ' h' w' ∧ VRel μ' v v' := by
  have hle := h.n0_le_next
  let μ' : Mu := fun b => if b < h.next then μ b else if b < h'.next then μ1 (r b) else μ b
  have e1 : ∀ b, b < h.next → μ1 b = μ b := fun b hb => by rw [St.ext b (.inl hb)]; simp [Mu.cut, hb]
  have e2 : ∀ b, b < h'.next → μ' b = μ1 (r b) := by
    intro b hb
    by_cases hb1 : b < h.next
    · rw [G.low b hb1, e1 b hb1]; simp [μ', hb1]
    · simp [μ', hb1, hb]
  have up : ∀ b L, Mu.cut (fun b => μ1 (r b)) h'.next b = some L → μ' b = some L := by
    intro b L hb
    obtain ⟨h2, h3⟩ := Mu.cut_le hb
    rw [e2 b h3]; exact h2
  have relL : ∀ {k l : List Value}, bdL h'.next k = true → LRel μ1 (renL r k) l → LRel μ' k l := fun hb hl => ((LRel.of_ren' _ hl).cut hb).mono up
  have relV : ∀ {k l : Value}, bdV h'.next k = true → VRel μ1 (renV r k) l → VRel μ' k l := fun hb hl => ((VRel.of_ren _ hl).cut hb).mono up
  have n1 : h1.n0 = h'.n0 := gr1.2.1.trans gr.2.1.symm
  have n2 : h'.n0 = h.n0 := gr.2.1
  have rge : ∀ b, h'.n0 ≤ b → b < h'.next → h'.n0 ≤ r b := by
    intro b hb hbn
    by_cases hb1 : b < h.next
    · rw [G.low b hb1]; exact hb
    · have := G.new b (by omega) hbn; omega
  have rinj : ∀ b b', b < h'.next → b' < h'.next → r b = r b' → b = b' := by
    intro b b' hb hb' he
    by_cases c1 : b < h.next
    · by_cases c2 : b' < h.next
      · rw [G.low b c1, G.low b' c2] at he; exact he
      · have := G.new b' (by omega) hb'; rw [G.low b c1] at he; omega
    · by_cases c2 : b' < h.next
      · have := G.new b (by omega) hb; rw [G.low b' c2] at he; omega
      · exact G.inj b b' (by omega) hb (by omega) hb' he
  refine ⟨μ', ⟨?_, ?_, ?_, ?_, ?_⟩, ?_, ?_⟩
  · intro b cs hb hc
    have hbl : b < h.next := by omega
    obtain ⟨L, arr, T, fr, h2, h3, h4, h5, h6⟩ := S1.old b cs (n1 ▸ hb) (by rw [gr1.2.2, ← gr.2.2]; exact hc)
    have hbd : bdL h.next cs = true := by
      refine hbh b cs ?_
      unfold Heap.get
      rw [if_pos (n2 ▸ hb), ← gr.2.2]; exact hc
    refine ⟨L, arr, T, fr, ?_, h3, h4, h5, ?_⟩
    · rw [e2 b (by have := gr.1; omega), G.low b hbl]; exact h2
    · exact ⟨h6.1, fun i x y hx hy hh => relV (bdL_get (bdL_mono gr.1 hbd) hx) (by rw [renV_id G.low x (bdL_get hbd hx)]; exact h6.2 i x y hx hy hh)⟩
  · intro b k hb hg
    have hbn := h'.lt_of_get hg
    obtain ⟨L, arr, T, fr, h2, h3, h4, h5, h6, h7, h8, h9⟩ := S1.new (r b) _ (n1 ▸ rge b hb hbn) (G.get b k hb hg)
    refine ⟨L, arr, T, fr, by rw [e2 b hbn]; exact h2, by rw [h3, renL_map]; simp, h4, h5, h6, h7, n1 ▸ h8, relL (hbh' b k hg) h9⟩
  · intro b b' k k' L L' hb hb' hne hg hg' hL hL'
    have hbn := h'.lt_of_get hg
    have hbn' := h'.lt_of_get hg'
    rw [e2 b hbn] at hL
    rw [e2 b' hbn'] at hL'
    exact S1.inj (r b) (r b') _ _ L L' (n1 ▸ rge b hb hbn) (n1 ▸ rge b' hb' hbn') (fun he => hne (rinj b b' hbn hbn' he)) (G.get b k hb hg) (G.get b' k' hb' hg') hL hL'
  · rw [← n1]; exact S1.size
  · intro b hb
    obtain ⟨L, h2, h3⟩ := S1.low b (n1 ▸ hb)
    exact ⟨L, by rw [e2 b (by have := gr.1; omega), G.low b (by omega)]; exact h2, h3⟩
  · have ownup : ∀ B, Own (μ.cut h.next) h B → Own μ h B := by
      rintro B ⟨b, k, L, h2, h3, h4, h5⟩
      exact ⟨b, k, L, h2, h3, (Mu.cut_le h4).1, h5⟩
    have owndn : ∀ B, Own μ h B → Own (μ.cut h.next) h B := by
      rintro B ⟨b, k, L, h2, h3, h4, h5⟩
      exact ⟨b, k, L, h2, h3, Mu.cut_some h4 (h.lt_of_get h3), h5⟩
    refine ⟨?_, gr.2.1, gr.2.2, gr.1, St.os, St.tape, St.output, St.size, fun B hB hO => St.same B hB (fun h2 => hO (ownup B h2)), ?_⟩
    · intro b hb
      simp only [μ']
      rcases hb with hb | hb
      · rw [if_pos hb]
      · rw [if_neg (by have := gr.1; omega), if_neg (by omega)]
    · rintro B ⟨b, k, L, h2, h3, h4, h5⟩
      have hbn := h'.lt_of_get h3
      rw [e2 b hbn] at h4
      exact (St.own B ⟨r b, _, L, n1 ▸ rge b h2 hbn, G.get b k h2 h3, h4, h5⟩).imp (ownup B) id
  · exact relV hbv (G.val ▸ hv)

/-- A function does what is told of it. -/
structure Contract (P : Program) (f : FuncId) (s : List Value → Heap → Out) : Prop where
  fn : ∃ fn, P.funcs[f]? = some fn ∧ (fn.name == "runtime.NumGoroutine") = false ∧ fn.body.isNone = false
  grow : ∀ args h v h', s args h = some (v, h') → Grow h h'
  bd : ∀ args h v h', s args h = some (v, h') → bdL h.next args = true → HeapBd h → bdV h'.next v = true ∧ HeapBd h'
  run : ∀ args h v h', s args h = some (v, h') → bdL h.next args = true → HeapBd h → P.globals.size ≤ h.n0 → ∀ μ w args', Sim μ h w → Free μ h h' → LRel μ args args' →
    Calls P f args'.toArray w fun e w' => ∃ μ' v', e = .returned v' ∧ Sim μ' h' w' ∧ Step μ h w μ' h' w' ∧ VRel μ' v v'

theorem Contract.of_body {P : Program} {C : CallF} (hC : CSound P C) (hm : P.follows .mixedOrders = true) {f : FuncId} {fn : Func} {c : Code} {s : List Value → Heap → Out}
    (hf : P.funcs[f]? = some fn) (hn : (fn.name == "runtime.NumGoroutine") = false) (hb : fn.body = some c) (hok : codeOk P c = true)
    (grow : ∀ args h v h', s args h = some (v, h') → Grow h h')
    (bd : ∀ args h v h', s args h = some (v, h') → bdL h.next args = true → HeapBd h → bdV h'.next v = true ∧ HeapBd h')
    (body : ∀ args h v h', s args h = some (v, h') → bdL h.next args = true → HeapBd h → P.globals.size ≤ h.n0 → ∃ v1 h1 r, bodyK P C fn args h = some (v1, h1) ∧ Gc h v h' v1 h1 r) : Contract P f s where
  fn := ⟨fn, hf, hn, by rw [hb]; rfl⟩
  grow := grow
  bd := bd
  run := by
    intro args h v h' hs hba hbh hg μ w args' S hfr r
    obtain ⟨v1, h1, rr, he, G⟩ := body args h v h' hs hba hbh hg
    rw [bodyK_eq] at he
    have gr1 : Grow h h1 := by
      unfold bodyA at he
      rw [hb] at he
      simp only at he
      cases hc : codeA P C c (args ++ List.replicate (fn.ntmps - args.length) undef) h with
      | none => rw [hc] at he; cases he
      | some y =>
        obtain ⟨ex, e1, h2⟩ := y
        rw [hc] at he
        have hgrow : resultsA P fn.results.toList e1 h2 = some (v1, h1) := by
          cases ex with
          | normal => exact he
          | ret => exact he
          | exit i => cases he
        rw [resultsA_grow hgrow]
        exact codeA_grow hC c hc
    have hcut : Free (μ.cut h.next) h h1 := fun b hb _ => by simp [Mu.cut, Nat.not_lt.2 hb]
    refine (body_sound hC hm hf hb hok he hg hba hbh (S.cut hbh) hcut (r.cut hba)).mono ?_
    rintro e w' ⟨μ1, v', rfl, S1, St, hv⟩
    obtain ⟨hb1, hb2⟩ := bd args h v h' hs hba hbh
    obtain ⟨μ', h2, h3, h4⟩ := gc_sound G (grow args h v h' hs) gr1 hbh hb2 hb1 S1 St hv
    exact ⟨μ', v', rfl, h2, h3, h4⟩

/-- Calls by a list of what is told of functions. -/
def callL : List (FuncId × (List Value → Heap → Out)) → CallF
  | [], _, _, _ => none
  | (g, s) :: t, f, args, h => if f = g then s args h else callL t f args h

theorem callL_sound {P : Program} : ∀ (l : List (FuncId × (List Value → Heap → Out))), (∀ p ∈ l, Contract P p.1 p.2) → CSound P (callL l)
  | [], _ => ⟨by simp [callL], by simp [callL], by simp [callL], by simp [callL]⟩
  | (g, s) :: t, hl => by
    have ih := callL_sound t (fun p hp => hl p (List.mem_cons_of_mem _ hp))
    have hg := hl (g, s) List.mem_cons_self
    refine ⟨?_, ?_, ?_, ?_⟩
    · intro f args h v h' he
      simp only [callL] at he
      split at he
      · rename_i e; subst e; exact hg.fn
      · exact ih.fn f args h v h' he
    · intro f args h v h' he
      simp only [callL] at he
      split at he
      · exact hg.grow args h v h' he
      · exact ih.grow f args h v h' he
    · intro f args h v h' he
      simp only [callL] at he
      split at he
      · exact hg.bd args h v h' he
      · exact ih.bd f args h v h' he
    · intro f args h v h' he
      simp only [callL] at he
      split at he
      · rename_i e; subst e; exact hg.run args h v h' he
      · exact ih.run f args h v h' he

/-- Nothing has been left, and nothing was written. -/
theorem Gc.none {h h1 : Heap} {v : Value} (hb : bdV h.next v = true) (hbh : HeapBd h) (hk : ∀ b k, h.n0 ≤ b → h.get b = some k → h1.get b = some k) : Gc h v h v h1 id where
  low _ _ := rfl
  new _ h1 h2 := by omega
  inj _ _ h1 h2 := by omega
  val := (renV_id (n := h.next) (fun _ _ => rfl) v hb).symm
  get b k h1 h2 := by rw [renL_id (r := id) (n := h.next) (fun _ _ => rfl) k (hbh b k h2)]; exact hk b k h1 h2

/-- The told heap is a part of the run's. -/
theorem Gc.sub {h h' h1 : Heap} {v : Value} (hb : bdV h'.next v = true) (hbh : HeapBd h') (hk : ∀ b k, h'.n0 ≤ b → h'.get b = some k → h1.get b = some k) : Gc h v h' v h1 id where
  low _ _ := rfl
  new _ h1 _ := h1
  inj _ _ _ _ _ _ h := h
  val := (renV_id (n := h'.next) (fun _ _ => rfl) v hb).symm
  get b k h1 h2 := by rw [renL_id (r := id) (n := h'.next) (fun _ _ => rfl) k (hbh b k h2)]; exact hk b k h1 h2

/-- One new block is left, under another number. -/
def ren1 (n B : Nat) : Nat → Nat := fun b => if b = n then B else b
theorem Gc.one {h hm h1 : Heap} {v v1 : Value} {k : Blk} {B : Nat} (hn : hm.next = h.next) (h0 : hm.n0 = h.n0) (hB : h.next ≤ B) (hbm : HeapBd hm) (hv : v1 = renV (ren1 h.next B) v) (hk : h1.get B = some (renL (ren1 h.next B) k))
    (hs : ∀ b k, h.n0 ≤ b → hm.get b = some k → h1.get b = some k) : Gc h v (hm.alloc k) v1 h1 (ren1 h.next B) where
  low b hb := by unfold ren1; rw [if_neg (by omega)]
  new b h2 h3 := by
    rw [Heap.next_alloc, hn] at h3
    unfold ren1
    rw [if_pos (by omega)]; exact hB
  inj b b' h2 h3 h4 h5 _ := by rw [Heap.next_alloc, hn] at h3 h5; omega
  val := hv
  get b k' h2 h3 := by
    rw [Heap.get_alloc, hn] at h3
    by_cases e : b = h.next
    · rw [if_pos e] at h3
      cases h3
      have : ren1 h.next B b = B := by unfold ren1; rw [if_pos e]
      rw [this]; exact hk
    · rw [if_neg e] at h3
      have hb := hm.lt_of_get h3
      have : ren1 h.next B b = b := by unfold ren1; rw [if_neg e]
      rw [this, renL_id (n := hm.next) (fun c hc => by unfold ren1; rw [if_neg (by omega)]) k' (hbm b k' h3)]
      exact hs b k' (by rw [Heap.n0_alloc, h0] at h2; exact h2) h3

end Go.Abs

namespace Go.Abs

def pu (v : Option Value) (h : Heap) : Out := v.map fun v => (v, h)
/-- The part of code at a path: 0 the first part, 1 the second. -/
def codeAt : List Nat → Code → Code
  | [], c => c
  | 0 :: p, .seq a _ => codeAt p a
  | _ :: p, .seq _ b => codeAt p b
  | 0 :: p, .cond _ a _ => codeAt p a
  | _ :: p, .cond _ _ b => codeAt p b
  | _ :: p, .block _ b => codeAt p b
  | _ :: p, .loop b => codeAt p b
  | _ :: p, .scope b => codeAt p b
  | _ :: _, c => c
def partOf (fn : Func) (p : List Nat) : Code :=
  match fn.body with
  | some c => codeAt p c
  | none => .skip
def bOf : Value → Option Bool
  | .bool b => some b
  | _ => none
def newC (cells : List Value) (h : Heap) : Out := some (newRow cells h)
def bldR (z : List Value) (ps : List (Nat × Nat × Value)) : Option Value := (fillL z ps).map fun cs => .agg cs.toArray
def bslR (n : Nat) (z : Value) (len : Nat) (parts : List (Nat × Value)) (h : Heap) : Out :=
  if flatAll z.cells.toList && z.cells.size = n && 0 < n && len * n ≤ 16777216 && oneCells (parts.flatMap fun x => x.2.cells.toList) then
    match fillL (zeros z.cells.toList len) (parts.map fun x => (x.1 * n, n, x.2)) with
    | some cs => some (.slice (some ⟨h.next, 0, none⟩) len len, h.alloc cs)
    | none => none
  else none
def cvI (k : IntKind) (x : Value) (h : Heap) : Out :=
  match x with
  | .int _ n => some (.int k (k.wrap n), h)
  | _ => none
def bsR (n c : Nat) (a : Option Addr) (h : Heap) : Out :=
  match firstA 1 n (.slice a n c) h with
  | some l => match l.mapM asByte with
    | some bs => some (.string ⟨bs.toArray⟩, h)
    | none => none
  | none => none
def cvBS (x : Value) (h : Heap) : Out :=
  match x with
  | .slice a n c => bsR n c a h
  | .string s => some (.string s, h)
  | _ => none
def fld1 (off : Nat) (x : Value) : Option Value :=
  match x with
  | .agg cs => cs[off]?
  | _ => none
def fldN (n off : Nat) (x : Value) : Option Value :=
  match x with
  | .agg cs => some (.agg (cs.extract off (off + n)))
  | _ => none
def lenS (x : Value) : Option Value :=
  match x with
  | .string s => some (.int .i64 s.size)
  | _ => none
def lenL (x : Value) : Option Value :=
  match x with
  | .slice _ n _ => some (.int .i64 n)
  | _ => none
/-- What comes behind a loop. -/
def endL {α : Type} (y : Option (Ex × Env × Heap)) (r : Env → Heap → Option α) (x : Nat → Env → Heap → Option α) : Option α :=
  match y with
  | some (.ret, e', h') => r e' h'
  | some (.exit i, e', h') => x i e' h'
  | _ => none

end Go.Abs

namespace Go.Abs

abbrev AL := List (Nat × Value)
noncomputable def lkB (e0 : Env) (l : AL) (t : Nat) : Value :=
  List.rec (motive := fun _ => Value) (e0.getD t undef) (fun p _ ih => Bool.rec (motive := fun _ => Value) ih p.2 (Nat.beq p.1 t)) l
def putB (n : Nat) (l : AL) (d : Option Tmp) (v : Value) : AL :=
  match d with
  | some t => match Nat.blt t n with
    | true => (t, v) :: l
    | false => l
  | none => l
noncomputable def expB (n : Nat) (e0 : Env) (l : AL) : Env := (List.range n).map (lkB e0 l)

theorem lkB_nil (e0 : Env) (t : Nat) : lkB e0 [] t = e0.getD t undef := rfl
theorem lkB_cons (e0 : Env) (p : Nat × Value) (l : AL) (t : Nat) : lkB e0 (p :: l) t = if p.1 = t then p.2 else lkB e0 l t := by
  show Bool.rec (motive := fun _ => Value) (lkB e0 l t) p.2 (Nat.beq p.1 t) = _
  cases hb : Nat.beq p.1 t with
  | true => rw [if_pos (Nat.eq_of_beq_eq_true hb)]
  | false => rw [if_neg (Nat.ne_of_beq_eq_false hb)]

theorem getElem?_expB (n : Nat) (e0 : Env) (l : AL) (t : Nat) : (expB n e0 l)[t]? = if t < n then some (lkB e0 l t) else none := by
  unfold expB
  rw [List.getElem?_map]
  by_cases h : t < n
  · rw [if_pos h, List.getElem?_range h]; rfl
  · rw [if_neg h, List.getElem?_eq_none (by simpa using h)]; rfl

theorem expB_nil (e0 : Env) : expB e0.length e0 [] = e0 := by
  apply List.ext_getElem?
  intro i
  rw [getElem?_expB]
  by_cases h : i < e0.length
  · rw [if_pos h, lkB_nil, List.getD_eq_getElem?_getD, List.getElem?_eq_getElem h]; rfl
  · rw [if_neg h, List.getElem?_eq_none (by omega)]

theorem expB_put (n : Nat) (e0 : Env) (l : AL) (d : Option Tmp) (v : Value) : expB n e0 (putB n l d v) = putD (expB n e0 l) d v := by
  cases d with
  | none => rfl
  | some t =>
    apply List.ext_getElem?
    intro i
    unfold putD putB
    simp only
    rw [List.getElem?_set, getElem?_expB]
    have hlen : (expB n e0 l).length = n := by simp [expB]
    rw [hlen]
    cases hb : Nat.blt t n with
    | true =>
      have ht : t < n := by simpa using hb
      simp only [getElem?_expB, lkB_cons, ht, if_true]
      by_cases e : t = i
      · subst e; simp [ht]
      · simp [e]
    | false =>
      have ht : ¬ t < n := by
        intro h
        rw [show Nat.blt t n = true by simpa using h] at hb; cases hb
      simp only [getElem?_expB, ht, if_false]
      by_cases e : t = i
      · subst e; simp [ht]
      · simp [e]

noncomputable def evB (n : Nat) (e0 : Env) (l : AL) : Operand → Value
  | .tmp t => match Nat.blt t n with
    | true => lkB e0 l t
    | false => undef
  | .const v => v
  | .global g => ptr g 0
  | .func f => .func (.func f) #[] #[]

theorem evB_eq (n : Nat) (e0 : Env) (l : AL) : ev (expB n e0 l) = evB n e0 l := by
  funext x
  cases x with
  | tmp t =>
    simp only [ev, evB, List.getD_eq_getElem?_getD, getElem?_expB]
    cases hb : Nat.blt t n with
    | true => have ht : t < n := by simpa using hb
              simp [ht]
    | false =>
      have ht : ¬ t < n := by
        intro h
        rw [show Nat.blt t n = true by simpa using h] at hb; cases hb
      simp [ht]
  | _ => rfl

noncomputable def yieldB (n : Nat) (e0 : Env) (ops : Array Oper) (l : AL) (j : Nat) : Option Bool :=
  match (ops[j]?).bind (·.dst) with
  | some t => match Nat.blt t n with
    | true => bOf (lkB e0 l t)
    | false => none
  | none => none

theorem yieldB_eq (n : Nat) (e0 : Env) (ops : Array Oper) (l : AL) (j : Nat) : yieldA ops (expB n e0 l) j = yieldB n e0 ops l j := by
  unfold yieldA yieldB
  cases (ops[j]?).bind (·.dst) with
  | none => rfl
  | some t =>
    simp only [Option.bind_some, getElem?_expB]
    cases hb : Nat.blt t n with
    | true =>
      have ht : t < n := by simpa using hb
      simp only [ht, if_true]
      cases lkB e0 l t <;> rfl
    | false =>
      have ht : ¬ t < n := by
        intro h
        rw [show Nat.blt t n = true by simpa using h] at hb; cases hb
      simp [ht]

section
variable {α : Type} (P : Program) (C : CallF) (n : Nat) (e0 : Env)

noncomputable def opsB (ops : Array Oper) (os : List Oper) : AL → Heap → (AL → Heap → Option α) → Option α :=
  List.rec (motive := fun _ => AL → Heap → (AL → Heap → Option α) → Option α) (fun l h k => k l h)
    (fun o _ ih l h k =>
      match o.guard with
      | none => thenV (opA P C o (evB n e0 l) h) fun v h' => ih (putB n l o.dst v) h' k
      | some (j, want) => thenV (guardK (yieldB n e0 ops l j == some want) (opA P C o (evB n e0 l) h) h) fun v h' => ih (putB n l o.dst v) h' k) os

theorem opsB_eq (ops : Array Oper) : ∀ (os : List Oper) (l : AL) (h : Heap) (k : AL → Heap → Option α) (kk : Env → Heap → Option α), (∀ l h, k l h = kk (expB n e0 l) h) →
    opsB P C n e0 ops os l h k = opsK P C ops os (expB n e0 l) h kk
  | [], l, h, k, kk, hk => hk l h
  | o :: rest, l, h, k, kk, hk => by
    have ih : ∀ l h, List.rec (motive := fun _ => AL → Heap → (AL → Heap → Option α) → Option α) (fun l h k => k l h)
        (fun o _ ih l h k =>
          match o.guard with
          | none => thenV (opA P C o (evB n e0 l) h) fun v h' => ih (putB n l o.dst v) h' k
          | some (j, want) => thenV (guardK (yieldB n e0 ops l j == some want) (opA P C o (evB n e0 l) h) h) fun v h' => ih (putB n l o.dst v) h' k) rest l h k = opsK P C ops rest (expB n e0 l) h kk := fun l h => opsB_eq ops rest l h k kk hk
    unfold opsB opsK
    simp only [evB_eq, yieldB_eq]
    cases hg : o.guard with
    | none =>
      simp only
      congr 1
      funext v h'
      rw [ih, expB_put]
    | some g =>
      obtain ⟨j, want⟩ := g
      simp only
      congr 1
      funext v h'
      rw [ih, expB_put]

structure Tb where
  l : AL
  h : Heap
  v : Value
  ran : Bool
noncomputable def chkB (os : List (Nat × Oper)) (tr : List Tb) (hs : List Heap) (x : Nat × Nat) : Bool :=
  match os[x.1]?, tr[x.1]?, heapAt (tr.map (·.ran)) hs (madeIn P os x) (if x.2 < x.1 then x.2 else x.2 + 1) with
  | some y, some t, some h => chkR t.ran (opA P C y.2 (evB n e0 t.l) h) t.v
  | some _, some t, none => !t.ran
  | _, _, _ => false
noncomputable def dynB (ops : Array Oper) (os : List (Nat × Oper)) (tr : List Tb) (hEnd : Heap) : Bool :=
  (dynPairs P ops os).foldr (fun x acc => chkB P C n e0 os tr (tr.map (·.h) ++ [hEnd]) x && acc) true
noncomputable def Tb.up (n : Nat) (e0 : Env) (t : Tb) : Tr1 := ⟨expB n e0 t.l, t.h, t.v, t.ran⟩
theorem dynB_eq (ops : Array Oper) (os : List (Nat × Oper)) (tr : List Tb) (hEnd : Heap) : dynB P C n e0 ops os tr hEnd = dynChk P C ops os (tr.map (Tb.up n e0)) hEnd := by
  unfold dynB dynChk
  congr 1
  funext x acc
  congr 1
  unfold chkB chkAt
  have h1 : (tr.map (Tb.up n e0)).map (·.h) = tr.map (·.h) := by simp [List.map_map, Function.comp_def, Tb.up]
  have h2 : (tr.map (Tb.up n e0)).map (·.ran) = tr.map (·.ran) := by simp [List.map_map, Function.comp_def, Tb.up]
  rw [h1, h2, List.getElem?_map]
  cases os[x.1]? with
  | none => rfl
  | some y =>
    cases tr[x.1]? with
    | none => rfl
    | some t =>
      cases heapAt (tr.map (·.ran)) (List.map (fun x => x.h) tr ++ [hEnd]) (madeIn P os x) (if x.2 < x.1 then x.2 else x.2 + 1) with
      | none => rfl
      | some h => simp [Tb.up, evB_eq]

noncomputable def traceB (ops : Array Oper) (os : List (Nat × Oper)) : AL → Heap → (List Tb → AL → Heap → Option α) → Option α :=
  List.rec (motive := fun _ => AL → Heap → (List Tb → AL → Heap → Option α) → Option α) (fun l h k => k [] l h)
    (fun x _ ih l h k =>
      match x.2.guard with
      | none => thenV (opA P C x.2 (evB n e0 l) h) fun v h' => ih (putB n l x.2.dst v) h' fun tr => k (⟨l, h, v, true⟩ :: tr)
      | some (j, want) => thenV (guardK (yieldB n e0 ops l j == some want) (opA P C x.2 (evB n e0 l) h) h) fun v h' => ih (putB n l x.2.dst v) h' fun tr => k (⟨l, h, v, yieldB n e0 ops l j == some want⟩ :: tr)) os

theorem traceB_eq (ops : Array Oper) : ∀ (os : List (Nat × Oper)) (l : AL) (h : Heap) (k : List Tb → AL → Heap → Option α) (kk : List Tr1 → Env → Heap → Option α), (∀ tr l h, k tr l h = kk (tr.map (Tb.up n e0)) (expB n e0 l) h) →
    traceB P C n e0 ops os l h k = traceK P C ops os (expB n e0 l) h kk
  | [], l, h, k, kk, hk => hk [] l h
  | x :: rest, l, h, k, kk, hk => by
    show (match x.2.guard with
      | none => thenV (opA P C x.2 (evB n e0 l) h) fun v h' => traceB P C n e0 ops rest (putB n l x.2.dst v) h' fun tr => k (⟨l, h, v, true⟩ :: tr)
      | some (j, want) => thenV (guardK (yieldB n e0 ops l j == some want) (opA P C x.2 (evB n e0 l) h) h) fun v h' => traceB P C n e0 ops rest (putB n l x.2.dst v) h' fun tr => k (⟨l, h, v, yieldB n e0 ops l j == some want⟩ :: tr)) = _
    unfold traceK
    simp only [evB_eq, yieldB_eq]
    cases hg : x.2.guard with
    | none =>
      simp only
      congr 1
      funext v h'
      rw [traceB_eq ops rest (putB n l x.2.dst v) h' _ (fun tr => kk (⟨expB n e0 l, h, v, true⟩ :: tr)) (fun tr l h => by rw [hk]; rfl), expB_put]
    | some g =>
      obtain ⟨j, want⟩ := g
      simp only
      congr 1
      funext v h'
      rw [traceB_eq ops rest (putB n l x.2.dst v) h' _ (fun tr => kk (⟨expB n e0 l, h, v, yieldB n e0 ops l j == some want⟩ :: tr)) (fun tr l h => by rw [hk]; rfl), expB_put]

noncomputable def regionB (ops : Array Oper) (draw : Bool) (l : AL) (h : Heap) (k : AL → Heap → Option α) : Option α :=
  match draw with
  | false => opsB P C n e0 ops ops.toList l h k
  | true =>
    match lateOk P ops with
    | true => opsB P C n e0 ops ((late P ops).map (·.2)) l h k
    | false => match statOk P ops (late P ops) with
      | true => traceB P C n e0 ops (late P ops) l h fun tr l' h' => match dynB P C n e0 ops (late P ops) tr h' with
        | true => k l' h'
        | false => none
      | false => none

theorem regionB_eq (ops : Array Oper) (draw : Bool) (l : AL) (h : Heap) (k : AL → Heap → Option α) (kk : Env → Heap → Option α) (hk : ∀ l h, k l h = kk (expB n e0 l) h) :
    regionB P C n e0 ops draw l h k = regionK P C ops draw (expB n e0 l) h kk := by
  unfold regionB regionK
  cases draw with
  | false => exact opsB_eq P C n e0 ops _ l h k kk hk
  | true =>
    simp only
    cases lateOk P ops with
    | true => exact opsB_eq P C n e0 ops _ l h k kk hk
    | false =>
      simp only
      cases statOk P ops (late P ops) with
      | false => rfl
      | true =>
        refine traceB_eq P C n e0 ops _ l h _ _ ?_
        intro tr l h
        rw [dynB_eq]
        cases dynChk P C ops (late P ops) (tr.map (Tb.up n e0)) h with
        | true => exact hk l h
        | false => rfl

/-- Code, by its bare recursor: what comes behind is told twice, over the two kinds of environments. -/
noncomputable def codeB (c : Code) : AL → Heap → (AL → Heap → Option α) → (Env → Heap → Option α) → (AL → Heap → Option α) → (Env → Heap → Option α) → (Nat → AL → Heap → Option α) → (Nat → Env → Heap → Option α) → Option α :=
  Code.rec (motive := fun _ => AL → Heap → (AL → Heap → Option α) → (Env → Heap → Option α) → (AL → Heap → Option α) → (Env → Heap → Option α) → (Nat → AL → Heap → Option α) → (Nat → Env → Heap → Option α) → Option α)
    (fun l h k _ _ _ _ _ => k l h)
    (fun _ ops draw l h k _ _ _ _ _ => regionB P C n e0 ops draw l h k)
    (fun _ b ia ib l h k kE r rE x xE => ia l h (fun l' h' => ib l' h' k kE r rE x xE) (fun e' h' => codeK P C b e' h' kE rE xE) r rE x xE)
    (fun q _ _ ia ib l h k kE r rE x xE => match evB n e0 l q with
      | .bool true => ia l h k kE r rE x xE
      | .bool false => ib l h k kE r rE x xE
      | _ => none)
    (fun id _ ib l h k kE r rE x xE => ib l h k kE r rE (fun i l' h' => if i = id then k l' h' else x i l' h') (fun i e' h' => if i = id then kE e' h' else xE i e' h'))
    (fun b _ l h _ _ _ rE _ xE => endL (iter (codeA P C b) rounds (expB n e0 l) h) rE xE)
    (fun _ _ _ _ _ _ _ _ _ _ _ _ _ _ => none)
    (fun i l h _ _ _ _ x _ => x i l h)
    (fun _ ib l h k kE r rE x xE => ib l h k kE r rE x xE)
    (fun _ l h k _ _ _ _ _ => k l h)
    (fun _ _ _ _ _ _ _ _ _ => none)
    (fun l h _ _ r _ _ _ => r l h)
    (fun _ _ _ _ _ _ _ _ _ => none) c

theorem codeB_eq : ∀ (c : Code) (l : AL) (h : Heap) (k : AL → Heap → Option α) (kE : Env → Heap → Option α) (r : AL → Heap → Option α) (rE : Env → Heap → Option α) (x : Nat → AL → Heap → Option α) (xE : Nat → Env → Heap → Option α),
    (∀ l h, k l h = kE (expB n e0 l) h) → (∀ l h, r l h = rE (expB n e0 l) h) → (∀ i l h, x i l h = xE i (expB n e0 l) h) →
    codeB P C n e0 c l h k kE r rE x xE = codeK P C c (expB n e0 l) h kE rE xE
  | .skip, l, h, k, kE, r, rE, x, xE, hk, hr, hx => hk l h
  | .region _ ops d, l, h, k, kE, r, rE, x, xE, hk, hr, hx => regionB_eq P C n e0 ops d l h k kE hk
  | .seq a b, l, h, k, kE, r, rE, x, xE, hk, hr, hx => by
    show codeB P C n e0 a l h (fun l' h' => codeB P C n e0 b l' h' k kE r rE x xE) (fun e' h' => codeK P C b e' h' kE rE xE) r rE x xE = _
    exact codeB_eq a l h _ _ r rE x xE (fun l h => codeB_eq b l h k kE r rE x xE hk hr hx) hr hx
  | .cond q a b, l, h, k, kE, r, rE, x, xE, hk, hr, hx => by
    show (match evB n e0 l q with
      | .bool true => codeB P C n e0 a l h k kE r rE x xE
      | .bool false => codeB P C n e0 b l h k kE r rE x xE
      | _ => none) = _
    unfold codeK
    rw [evB_eq, codeB_eq a l h k kE r rE x xE hk hr hx, codeB_eq b l h k kE r rE x xE hk hr hx]
    try rfl
  | .block id b, l, h, k, kE, r, rE, x, xE, hk, hr, hx => by
    show codeB P C n e0 b l h k kE r rE (fun i l' h' => if i = id then k l' h' else x i l' h') (fun i e' h' => if i = id then kE e' h' else xE i e' h') = _
    exact codeB_eq b l h k kE r rE _ _ hk hr (fun i l h => by simp only [hk, hx])
  | .loop b, l, h, k, kE, r, rE, x, xE, hk, hr, hx => rfl
  | .exit i, l, h, k, kE, r, rE, x, xE, hk, hr, hx => hx i l h
  | .scope b, l, h, k, kE, r, rE, x, xE, hk, hr, hx => codeB_eq b l h k kE r rE x xE hk hr hx
  | .label _, l, h, k, kE, r, rE, x, xE, hk, hr, hx => hk l h
  | .ret, l, h, k, kE, r, rE, x, xE, hk, hr, hx => hr l h
  | .goto _, l, h, k, kE, r, rE, x, xE, hk, hr, hx => rfl
  | .rangeFunc .., l, h, k, kE, r, rE, x, xE, hk, hr, hx => rfl
  | .refuse _, l, h, k, kE, r, rE, x, xE, hk, hr, hx => rfl

/-- Code from a given environment. -/
noncomputable def startB (c : Code) (h : Heap) (kE rE : Env → Heap → Option α) (xE : Nat → Env → Heap → Option α) : Option α :=
  codeB P C n e0 c [] h (fun l h => kE (expB n e0 l) h) kE (fun l h => rE (expB n e0 l) h) rE (fun i l h => xE i (expB n e0 l) h) xE
theorem startB_eq (hn : Nat.beq e0.length n = true) (c : Code) (h : Heap) (kE rE : Env → Heap → Option α) (xE : Nat → Env → Heap → Option α) :
    codeK P C c e0 h kE rE xE = startB P C n e0 c h kE rE xE := by
  unfold startB
  rw [codeB_eq P C n e0 c [] h (fun l h => kE (expB n e0 l) h) kE (fun l h => rE (expB n e0 l) h) rE (fun i l h => xE i (expB n e0 l) h) xE (fun _ _ => rfl) (fun _ _ => rfl) (fun _ _ _ => rfl)]
  obtain rfl := Nat.eq_of_beq_eq_true hn
  rw [expB_nil]
end

noncomputable def bodyB (P : Program) (C : CallF) (fn : Func) (args : List Value) (h : Heap) : Out :=
  match fn.body with
  | none => none
  | some c => startB P C fn.ntmps (args ++ List.replicate (fn.ntmps - args.length) undef) c h (resultsA P fn.results.toList) (resultsA P fn.results.toList) (fun _ _ _ => none)
theorem bodyB_eq (P : Program) (C : CallF) (fn : Func) (args : List Value) (h : Heap) (hn : Nat.ble args.length fn.ntmps = true) : bodyK P C fn args h = bodyB P C fn args h := by
  unfold bodyK bodyB
  cases fn.body with
  | none => rfl
  | some c =>
    refine startB_eq P C _ _ ?_ c h _ _ _
    have := Nat.le_of_ble_eq_true hn
    have h2 : (args ++ List.replicate (fn.ntmps - args.length) undef).length = fn.ntmps := by simp; omega
    rw [h2]
    exact Nat.beq_refl _
noncomputable def roundB (P : Program) (C : CallF) (n : Nat) (b : Code) (e : Env) (h : Heap) : Option (Ex × Env × Heap) :=
  startB P C n e b h (fun e h => some (.normal, e, h)) (fun e h => some (.ret, e, h)) (fun i e h => some (.exit i, e, h))
theorem roundB_eq (P : Program) (C : CallF) (n : Nat) (b : Code) (e : Env) (h : Heap) (hn : Nat.beq e.length n = true) : roundK P C b e h = roundB P C n b e h :=
  startB_eq P C n e hn b h _ _ _

end Go.Abs

namespace Go.Abs

@[simp] theorem thenV_some {α : Type} (v : Value) (h : Heap) (k : Value → Heap → Option α) : thenV (some (v, h)) k = k v h := rfl
@[simp] theorem thenV_none {α : Type} (k : Value → Heap → Option α) : thenV none k = none := rfl
@[simp] theorem pu_some (v : Value) (h : Heap) : pu (some v) h = some (v, h) := rfl
@[simp] theorem guardK_true (o : Out) (h : Heap) : guardK true o h = o := rfl
@[simp] theorem guardK_false (o : Out) (h : Heap) : guardK false o h = some (undef, h) := rfl
@[simp] theorem bOf_bool (b : Bool) : bOf (.bool b) = some b := rfl
@[simp] theorem bOf_undef : bOf undef = none := rfl
@[simp] theorem endL_ret {α : Type} (e : Env) (h : Heap) (r : Env → Heap → Option α) (x : Nat → Env → Heap → Option α) : endL (some (.ret, e, h)) r x = r e h := rfl
@[simp] theorem endL_exit {α : Type} (i : Nat) (e : Env) (h : Heap) (r : Env → Heap → Option α) (x : Nat → Env → Heap → Option α) : endL (some (.exit i, e, h)) r x = x i e h := rfl
@[simp] theorem nilCheck_ptr (b o : Nat) : nilCheckA (ptr b o) = some (ptr b o) := rfl
@[simp] theorem addP_ptr (b o n : Nat) : addP (ptr b o) n = some (ptr b (o + n)) := rfl
@[simp] theorem lenL_slice (p : Option Addr) (n c : Nat) : lenL (.slice p n c) = some (.int .i64 n) := rfl
@[simp] theorem lenS_string (s : ByteArray) : lenS (.string s) = some (.int .i64 s.size) := rfl
@[simp] theorem unA_not (b : Bool) : unA .not (.bool b) = some (.bool !b) := rfl
@[simp] theorem extractA_tuple (vs : Array Value) (i : Nat) : extractA (.tuple vs) i = vs[i]? := rfl
@[simp] theorem cvI_int (k j : IntKind) (n : Int) (h : Heap) : cvI k (.int j n) h = some (.int k (k.wrap n), h) := rfl

section
variable (P : Program) (t : TypeId) (k : IntKind) (a b : Int)
theorem bin_int (op : BinOp) (k' : IntKind) : bin P op t (.int k a) (.int k' b) = binI op k k' a b := by cases op <;> rfl
@[simp] theorem bin_add : bin P .add t (.int k a) (.int k b) = some (.int k (k.wrap (a + b))) := by rw [bin_int]; simp [binI]
@[simp] theorem bin_sub : bin P .sub t (.int k a) (.int k b) = some (.int k (k.wrap (a - b))) := by rw [bin_int]; simp [binI]
@[simp] theorem bin_mul : bin P .mul t (.int k a) (.int k b) = some (.int k (k.wrap (a * b))) := by rw [bin_int]; simp [binI]
@[simp] theorem bin_eql : bin P .eql t (.int k a) (.int k b) = some (.bool (a == b)) := by rw [bin_int]; simp [binI]
@[simp] theorem bin_neq : bin P .neq t (.int k a) (.int k b) = some (.bool (a != b)) := by rw [bin_int]; simp [binI]
@[simp] theorem bin_lss : bin P .lss t (.int k a) (.int k b) = some (.bool (decide (a < b))) := by rw [bin_int]; simp [binI]
@[simp] theorem bin_leq : bin P .leq t (.int k a) (.int k b) = some (.bool (decide (a ≤ b))) := by rw [bin_int]; simp [binI]
@[simp] theorem bin_gtr : bin P .gtr t (.int k a) (.int k b) = some (.bool (decide (a > b))) := by rw [bin_int]; simp [binI]
@[simp] theorem bin_geq : bin P .geq t (.int k a) (.int k b) = some (.bool (decide (a ≥ b))) := by rw [bin_int]; simp [binI]
end

theorem ld1_at {h : Heap} {b o : Nat} {k : Blk} {c : Value} (hg : h.get b = some k) (hc : k[o]? = some c) (hh : isHole c = false := by rfl) : ld1 (ptr b o) h = some (c, h) := by
  unfold ld1 ptr
  simp only [hg, hc, hh, if_true]
theorem ldN_at {h : Heap} {b o n : Nat} {k : Blk} (hg : h.get b = some k) (hc : o + n ≤ k.length) (hh : noHoles ((k.drop o).take n) = true) : ldN n (ptr b o) h = some (.agg ((k.drop o).take n).toArray, h) := by
  unfold ldN ptr
  simp only [hg, hc, hh, and_self, if_true]

/-- A loop by what stands before each round: k rounds are still to come. -/
theorem iter_inv {step : Env → Heap → Option (Ex × Env × Heap)} {Inv : Nat → Env → Heap → Prop} {fin : Ex → Env → Heap → Prop}
    (hs : ∀ k e h, Inv k e h → ∃ x e' h', step e h = some (x, e', h') ∧ ((x = .normal ∧ ∃ j, j < k ∧ Inv j e' h') ∨ (x ≠ .normal ∧ fin x e' h'))) :
    ∀ (k n : Nat) (e : Env) (h : Heap), k < n → Inv k e h → ∃ x e' h', iter step n e h = some (x, e', h') ∧ fin x e' h' := by
  intro k
  induction k using Nat.strongRecOn with
  | _ k ih =>
    intro n e h hn hi
    obtain ⟨m, rfl⟩ : ∃ m, n = m + 1 := ⟨n - 1, by omega⟩
    obtain ⟨x, e', h', h1, h2 | h2⟩ := hs k e h hi
    · obtain ⟨rfl, j, hj, hi2⟩ := h2
      obtain ⟨x, e2, h3, h4, h5⟩ := ih j hj m e' h' (by omega) hi2
      exact ⟨x, e2, h3, by simp only [iter, h1]; exact h4, h5⟩
    · refine ⟨x, e', h', ?_, h2.2⟩
      simp only [iter, h1]
      cases x with
      | normal => exact absurd rfl h2.1
      | ret => rfl
      | exit i => rfl

theorem wrap_i64_if (x : Int) : IntKind.wrap .i64 x = if 9223372036854775808 ≤ x % 18446744073709551616 then x % 18446744073709551616 - 18446744073709551616 else x % 18446744073709551616 := by
  unfold IntKind.wrap
  simp [IntKind.bits, IntKind.signed]
theorem wrap_i64 {x : Int} (h1 : -9223372036854775808 ≤ x) (h2 : x ≤ 9223372036854775807) : IntKind.wrap .i64 x = x := by
  rw [wrap_i64_if]
  split <;> omega
end Go.Abs

namespace Go.Abs

/-- All that a function is, as far as a contract asks. -/
structure IsFn (P : Program) (f : FuncId) (fn : Func) : Prop where
  at_ : P.funcs[f]? = some fn
  name : (fn.name == "runtime.NumGoroutine") = false
  some_ : fn.body.isSome = true
  ok : codeOk P (partOf fn []) = true

theorem IsFn.body {P : Program} {f : FuncId} {fn : Func} (i : IsFn P f fn) : fn.body = some (partOf fn []) := by
  have := i.some_
  unfold partOf
  cases h : fn.body with
  | none => rw [h] at this; cases this
  | some c => simp [codeAt]

theorem Contract.mk' {P : Program} {C : CallF} (hC : CSound P C) (hm : P.follows .mixedOrders = true) {f : FuncId} {fn : Func} (i : IsFn P f fn) {s : List Value → Heap → Out}
    (told : ∀ args h v h', s args h = some (v, h') → Grow h h' ∧ (bdL h.next args = true → HeapBd h → bdV h'.next v = true ∧ HeapBd h'))
    (body : ∀ args h v h', s args h = some (v, h') → bdL h.next args = true → HeapBd h → ∃ v1 h1 r, bodyK P C fn args h = some (v1, h1) ∧ Gc h v h' v1 h1 r) : Contract P f s :=
  .of_body hC hm i.at_ i.name i.body i.ok (fun a h v h' e => (told a h v h' e).1) (fun a h v h' e => (told a h v h' e).2) (fun a h v h' e h1 h2 _ => body a h v h' e h1 h2)

/-- A function that answers a value without memory, and leaves nothing. -/
theorem Contract.quiet {P : Program} {C : CallF} (hC : CSound P C) (hm : P.follows .mixedOrders = true) {f : FuncId} {fn : Func} (i : IsFn P f fn) {s : List Value → Heap → Out}
    (told : ∀ args h v h', s args h = some (v, h') → h' = h ∧ ∀ n, bdV n v = true)
    (body : ∀ args h v h', s args h = some (v, h') → bdL h.next args = true → HeapBd h → ∃ h1, bodyK P C fn args h = some (v, h1) ∧ ∀ b k, h.get b = some k → h1.get b = some k) : Contract P f s := by
  refine .mk' hC hm i ?_ ?_
  · intro args h v h' e
    obtain ⟨rfl, h2⟩ := told _ _ _ _ e
    exact ⟨Grow.refl _, fun _ h3 => ⟨h2 _, h3⟩⟩
  · intro args h v h' e h1 h2
    obtain ⟨rfl, h3⟩ := told _ _ _ _ e
    obtain ⟨g, h4, h5⟩ := body _ _ _ _ e h1 h2
    exact ⟨v, g, id, h4, .none (h3 _) h2 (fun b k _ h6 => h5 b k h6)⟩

end Go.Abs

namespace Go.Abs

noncomputable def lkF (x : Nat → Value) (l : AL) (t : Nat) : Value :=
  List.rec (motive := fun _ => Value) (x t) (fun p _ ih => Bool.rec (motive := fun _ => Value) ih p.2 (Nat.beq p.1 t)) l
noncomputable def mkE (n : Nat) (x : Nat → Value) (l : AL) : Env := (List.range n).map (lkF x l)
def bs (l : List Value) : Nat → Value := fun i => l.getD i undef

@[simp] theorem lkF_nil (x : Nat → Value) (t : Nat) : lkF x [] t = x t := rfl
theorem lkF_cons (x : Nat → Value) (p : Nat × Value) (l : AL) (t : Nat) : lkF x (p :: l) t = if p.1 = t then p.2 else lkF x l t := by
  show Bool.rec (motive := fun _ => Value) (lkF x l t) p.2 (Nat.beq p.1 t) = _
  cases hb : Nat.beq p.1 t with
  | true => rw [if_pos (Nat.eq_of_beq_eq_true hb)]
  | false => rw [if_neg (Nat.ne_of_beq_eq_false hb)]
@[simp] theorem mkE_length (n : Nat) (x : Nat → Value) (l : AL) : (mkE n x l).length = n := by simp [mkE]
end Go.Abs

namespace Go.Abs

theorem ofInt_natCast (w n : Nat) : BitVec.ofInt w (n : Int) = BitVec.ofNat w n := by simp

section
variable (P : Program) (t : TypeId)
theorem bits_u {k : IntKind} (hk : k.signed = false) (n : Nat) (hn : n < 2 ^ k.bits) : IntKind.wrap k (n : Int) = n := by
  unfold IntKind.wrap
  simp only [hk, Bool.false_and, Bool.false_eq_true, if_false]
  have : ((2 : Int) ^ k.bits) = ((2 ^ k.bits : Nat) : Int) := by simp
  rw [this, ← Int.natCast_emod, Nat.mod_eq_of_lt hn]

theorem bin_xor_nat {k : IntKind} (hk : k.signed = false) {a b : Nat} (ha : a < 2 ^ k.bits) (hb : b < 2 ^ k.bits) : bin P .xor t (.int k a) (.int k b) = some (.int k ((a ^^^ b : Nat) : Int)) := by
  rw [bin_int]
  simp only [binI, ne_eq, not_true, if_false, bitsA, ofInt_natCast, BitVec.toNat_xor, BitVec.toNat_ofNat, Nat.mod_eq_of_lt ha, Nat.mod_eq_of_lt hb]
  rw [bits_u hk _ (Nat.xor_lt_two_pow ha hb)]
end
end Go.Abs

namespace Go.Abs

/-- All blocks but some are as they were. -/
structure Kept (h h' : Heap) (B : Nat → Prop) : Prop where
  n0 : h'.n0 = h.n0
  next : h.next ≤ h'.next
  get : ∀ c, c < h.next → ¬ B c → h'.get c = h.get c

theorem Kept.refl (h : Heap) (B : Nat → Prop) : Kept h h B := ⟨rfl, Nat.le_refl _, fun _ _ _ => rfl⟩
theorem Kept.trans {a b c : Heap} {B : Nat → Prop} (x : Kept a b B) (y : Kept b c B) : Kept a c B :=
  ⟨y.n0.trans x.n0, Nat.le_trans x.next y.next, fun d hd hb => (y.get d (Nat.lt_of_lt_of_le hd x.next) hb).trans (x.get d hd hb)⟩
theorem Kept.mono {a b : Heap} {B B' : Nat → Prop} (x : Kept a b B) (hB : ∀ c, c < a.next → B c → B' c) : Kept a b B' :=
  ⟨x.n0, x.next, fun d hd hb => x.get d hd (fun h => hb (hB d hd h))⟩
theorem Kept.alloc (h : Heap) (k : Blk) (B : Nat → Prop) : Kept h (h.alloc k) B :=
  ⟨rfl, by simp, fun c hc _ => by rw [Heap.get_alloc, if_neg (by omega)]⟩
theorem Kept.set {h : Heap} {b : Nat} {k k' : Blk} {B : Nat → Prop} (hb : h.n0 ≤ b) (hg : h.get b = some k) (hB : h.next ≤ b ∨ B b) : Kept h (h.set b k') B :=
  ⟨rfl, by simp, fun c hc hn => by
    by_cases e : c = b
    · subst e; rcases hB with h1 | h1
      · omega
      · exact absurd h1 hn
    · exact Heap.get_set_other hb (h.lt_of_get hg) _ e⟩

theorem splice_one (k : List Value) (o : Nat) (v : Value) (ho : o < k.length) : splice k o [v] = k.set o v := by
  unfold splice
  rw [List.set_eq_take_append_cons_drop, if_pos ho]
  simp
theorem stN1_at {h : Heap} {b o : Nat} {k : Blk} {v : Value} (hg : h.get b = some k) (ho : o < k.length) (hn : h.n0 ≤ b) (hc : v.cells = #[v]) (hv : v.oneCell' = true) :
    stN 1 (ptr b o) v h = some (undef, h.set b (k.set o v)) := by
  unfold stN ptr
  simp only [hc, List.size_toArray, List.length_cons, List.length_nil, Nat.zero_add, if_true]
  unfold stL
  simp only [hg, List.length_cons, List.length_nil, Nat.zero_add]
  rw [if_pos (by simp [hn, oneCells, hv]; omega), splice_one k o v ho]
  rfl
end Go.Abs

namespace Go.Abs

noncomputable def mkF (n : Nat) (x : Nat → Value) : Env := (List.range n).map x
noncomputable def up (x : Nat → Value) (l : AL) : Nat → Value := lkF x l
@[simp] theorem up_nil (x : Nat → Value) (t : Nat) : up x [] t = x t := rfl
theorem up_cons (x : Nat → Value) (s : Nat) (v : Value) (l : AL) (t : Nat) : up x ((s, v) :: l) t = if s = t then v else up x l t := lkF_cons ..
theorem up_same (x : Nat → Value) (s : Nat) (v : Value) (l : AL) : up x ((s, v) :: l) s = v := by rw [up_cons, if_pos rfl]
theorem up_other (x : Nat → Value) (s : Nat) (v : Value) (l : AL) (t : Nat) (h : Nat.beq s t = false) : up x ((s, v) :: l) t = up x l t := by rw [up_cons, if_neg (Nat.ne_of_beq_eq_false h)]
@[simp] theorem mkF_length (n : Nat) (x : Nat → Value) : (mkF n x).length = n := by simp [mkF]

theorem link_roundF {P : Program} {C : CallF} {n : Nat} {b : Code} {T : (Nat → Value) → Heap → Option (Ex × Env × Heap)} (hT : ∀ x h, roundB P C n b (mkF n x) h = T x h) (x : Nat → Value) (h : Heap) :
    codeA P C b (mkF n x) h = T x h := by
  rw [← roundK_eq, roundB_eq P C n b _ h (by rw [mkF_length]; exact Nat.beq_refl n), ← hT]
theorem link_partF {α : Type} {P : Program} {C : CallF} {n : Nat} {b : Code} {kE rE : Env → Heap → Option α} {xE : Nat → Env → Heap → Option α} {T : (Nat → Value) → Heap → Option α}
    (hT : ∀ x h, startB P C n (mkF n x) b h kE rE xE = T x h) (x : Nat → Value) (h : Heap) :
    codeK P C b (mkF n x) h kE rE xE = T x h := by
  rw [startB_eq P C n (mkF n x) (by rw [mkF_length]; exact Nat.beq_refl n), ← hT]

/-- A loop by what stands before each round: at most k rounds are still to come. -/
theorem loop_inv {P : Program} {C : CallF} {n : Nat} {b : Code} {T : (Nat → Value) → Heap → Option (Ex × Env × Heap)} (hT : ∀ x h, codeA P C b (mkF n x) h = T x h)
    {Inv : Nat → (Nat → Value) → Heap → Prop} {fin : Ex → (Nat → Value) → Heap → Prop}
    (hs : ∀ k x h, Inv k x h → ∃ ex x' h', T x h = some (ex, mkF n x', h') ∧ ((ex = .normal ∧ ∃ j, j < k ∧ Inv j x' h') ∨ (ex ≠ .normal ∧ fin ex x' h')))
    {k : Nat} {x : Nat → Value} {h : Heap} (hk : k < rounds) (hi : Inv k x h) :
    ∃ ex x' h', iter (codeA P C b) rounds (mkF n x) h = some (ex, mkF n x', h') ∧ fin ex x' h' := by
  obtain ⟨ex, e', h', h1, x', rfl, h2⟩ := iter_inv (step := codeA P C b) (Inv := fun k e h => ∃ x, e = mkF n x ∧ Inv k x h) (fin := fun ex e h => ∃ x, e = mkF n x ∧ fin ex x h)
    (by
      rintro k _ h ⟨x, rfl, hi⟩
      obtain ⟨ex, x', h', h1, h2⟩ := hs k x h hi
      refine ⟨ex, mkF n x', h', (hT x h).trans h1, ?_⟩
      rcases h2 with ⟨h2, j, hj, h3⟩ | ⟨h2, h3⟩
      · exact .inl ⟨h2, j, hj, x', rfl, h3⟩
      · exact .inr ⟨h2, x', rfl, h3⟩)
    k rounds (mkF n x) h hk ⟨x, rfl, hi⟩
  exact ⟨ex, x', h', h1, h2⟩

end Go.Abs

namespace Go.Abs

def fnOk (P : Program) (fn : Func) : Bool := !(fn.name == "runtime.NumGoroutine") && match fn.body with | some c => codeOk P c | none => false

section
variable {P : Program} {C : CallF}

theorem ld_bd {t : TypeId} {x v : Value} {h h' : Heap} (hb : HeapBd h) (hx : bdV h.next x = true) (e : ld P t x h = some (v, h')) : bdV h.next v = true := by
  have hC : CSound P (fun _ _ _ => none) := ⟨by simp, by simp, by simp, by simp⟩
  have := opA_bd (P := P) (C := fun _ _ _ => none) (o := { dst := none, type := 0, op := .load t (.const x), after := #[], guard := none, pos := default }) (ρ := fun o => match o with | .const v => v | _ => undef) hC hb
    (by
      intro y hy
      have : y = .const x := by simpa [Op.operands] using hy
      subst this; exact hx) (v := v) (h' := h') e
  have hh : h' = h := by
    unfold ld at e
    split at e
    · unfold ldN at e; split at e
      · split at e
        · split at e
          · cases e; rfl
          · cases e
        · cases e
      · cases e
    · unfold ld1 at e
      repeat' split at e
      all_goals first
        | (cases e; done)
        | (simp only [Option.some.injEq, Prod.mk.injEq] at e; exact e.2.symm)
    · cases e
  subst hh; exact this.1

theorem resultA_bd {r : ResultVar} {e : Env} {h : Heap} {v : Value} (hb : HeapBd h) (he : bdL h.next e = true) (x : resultA P r e h = some v) : bdV h.next v = true := by
  have key : ∀ t, bdV h.next (e.getD t undef) = true := by
    intro t
    rw [List.getD_eq_getElem?_getD]
    cases ht : e[t]? with
    | none => rfl
    | some y => exact bdL_iff.1 he y (List.mem_of_getElem? ht)
  cases r with
  | tmp t => simp only [resultA, Option.some.injEq] at x; subst x; exact key t
  | cell a t =>
    simp only [resultA, Option.map_eq_some_iff] at x
    obtain ⟨⟨y, h'⟩, h1, rfl⟩ := x
    exact ld_bd hb (key a) h1

theorem resultsA_bd {rs : List ResultVar} {e : Env} {h h' : Heap} {v : Value} (hb : HeapBd h) (he : bdL h.next e = true) (x : resultsA P rs e h = some (v, h')) : bdV h'.next v = true ∧ HeapBd h' := by
  have hh := resultsA_grow x
  subst hh
  refine ⟨?_, hb⟩
  unfold resultsA at x
  split at x
  · simp only [Option.map_eq_some_iff, Prod.mk.injEq] at x
    obtain ⟨v1, hv1, rfl, _⟩ := x
    exact resultA_bd hb he hv1
  · simp only [Option.map_eq_some_iff, Prod.mk.injEq] at x
    obtain ⟨vs, hvs, rfl, _⟩ := x
    show bdL _ vs = true
    rw [bdL_iff]
    intro y hy
    have : ∀ (rs : List ResultVar) (vs : List Value), rs.mapM (fun r => resultA P r e h') = some vs → ∀ y ∈ vs, bdV h'.next y = true := by
      intro rs
      induction rs with
      | nil => intro vs hvs y hy; simp at hvs; subst hvs; cases hy
      | cons r rs ih =>
        intro vs hvs y hy
        simp only [List.mapM_cons, Option.bind_eq_bind, Option.bind_eq_some_iff, Option.pure_def, Option.some.injEq] at hvs
        obtain ⟨a, ha, b, hb2, rfl⟩ := hvs
        rcases List.mem_cons.1 hy with rfl | hy
        · exact resultA_bd hb he ha
        · exact ih b hb2 y hy
    exact this _ _ hvs y hy

theorem bodyA_grow (hC : CSound P C) {fn : Func} {args : List Value} {h h' : Heap} {v : Value} (he : bodyA P C fn args h = some (v, h')) : Grow h h' := by
  unfold bodyA at he
  split at he
  · cases he
  · rename_i c hb
    cases hc : codeA P C c (args ++ List.replicate (fn.ntmps - args.length) undef) h with
    | none => rw [hc] at he; cases he
    | some y =>
      obtain ⟨ex, e1, h2⟩ := y
      rw [hc] at he
      have hgrow : resultsA P fn.results.toList e1 h2 = some (v, h') := by
        cases ex with
        | normal => exact he
        | ret => exact he
        | exit i => cases he
      rw [resultsA_grow hgrow]
      exact codeA_grow hC c hc

theorem bodyA_bd (hC : CSound P C) {fn : Func} {args : List Value} {h h' : Heap} {v : Value} (hok : fnOk P fn = true) (hg : P.globals.size ≤ h.n0) (he : bodyA P C fn args h = some (v, h')) (hba : bdL h.next args = true) (hbh : HeapBd h) :
    bdV h'.next v = true ∧ HeapBd h' := by
  unfold bodyA at he
  split at he
  · cases he
  · rename_i c hb
    have hco : codeOk P c = true := by
      unfold fnOk at hok
      rw [hb] at hok
      simp only [Bool.and_eq_true] at hok
      exact hok.2
    cases hc : codeA P C c (args ++ List.replicate (fn.ntmps - args.length) undef) h with
    | none => rw [hc] at he; cases he
    | some y =>
      obtain ⟨ex, e1, h2⟩ := y
      rw [hc] at he
      have hr : resultsA P fn.results.toList e1 h2 = some (v, h') := by
        cases ex with
        | normal => exact he
        | ret => exact he
        | exit i => cases he
      obtain ⟨h3, h4⟩ := codeA_bd hC c hco hg (bdL_append hba (bdL_iff.2 fun x hx => by rw [List.eq_of_mem_replicate hx]; rfl)) hbh hc
      exact resultsA_bd h4 h3 hr
end

/-- The heap of a run that begins with nothing. -/
def bare (P : Program) : Heap := ⟨P.globals.size, fun _ => none, .nil, 0⟩
theorem bare_get (P : Program) (b : Nat) : (bare P).get b = none := by
  unfold Heap.get bare
  simp only [Nat.add_zero]
  split
  · rfl
  · rfl

/-- What a function without arguments answers in the empty heap it answers in every heap, and leaves that as it was. -/
theorem Contract.closed {P : Program} {C : CallF} (hC : CSound P C) {f : FuncId} {v : Value} (hv : flat v = true) (hr : ∃ h1, C f [] (bare P) = some (v, h1)) :
    Contract P f fun args h => match args with | [] => some (v, h) | _ => none := by
  obtain ⟨h1, hr⟩ := hr
  have hbd : ∀ n, bdV n v = true := fun n => bdV_flat hv
  refine ⟨hC.fn _ _ _ _ _ hr, ?_, ?_, ?_⟩
  · intro args h v' h' e
    cases args with
    | nil => cases e; exact Grow.refl _
    | cons => cases e
  · intro args h v' h' e _ hb
    cases args with
    | nil => cases e; exact ⟨hbd _, hb⟩
    | cons => cases e
  · intro args h v' h' e _ hbh hg μ w args' S hfr r
    cases args with
    | cons => cases e
    | nil =>
      cases e
      have ha : args' = [] := List.length_eq_zero_iff.1 r.1.symm
      subst ha
      have S0 : Sim (μ.cut P.globals.size) (bare P) w := by
        refine ⟨?_, ?_, ?_, Nat.le_trans hg S.size, ?_⟩
        · intro b cs _ hc; cases hc
        · intro b k _ hk; rw [bare_get] at hk; cases hk
        · intro b b' k k' L L' _ _ _ hk; rw [bare_get] at hk; cases hk
        · intro b hb
          obtain ⟨L, h2, h3⟩ := S.low b (Nat.lt_of_lt_of_le hb hg)
          exact ⟨L, Mu.cut_some h2 hb, h3⟩
      have hno : ∀ B, ¬ Own (μ.cut P.globals.size) (bare P) B := by
        rintro B ⟨b, k, L, _, hk, _⟩
        rw [bare_get] at hk; cases hk
      refine (hC.run _ _ _ _ _ hr rfl (fun b k hk => by rw [bare_get] at hk; cases hk) (Nat.le_refl _) (μ.cut P.globals.size) w [] S0
        (fun b hb _ => by
          have : ¬ b < P.globals.size := Nat.not_lt.2 hb
          simp [Mu.cut, this]) (LRel.nil _)).mono ?_
      rintro e w' ⟨μ1, v1, rfl, S1, St, hv1⟩
      have same : ∀ (B : Nat) (x : Obj), w.heap[B]? = some x → w'.heap[B]? = some x := by
        intro B x hx
        rw [St.same B (Array.getElem?_eq_some_iff.1 hx).1 (hno B)]; exact hx
      refine ⟨μ, v1, rfl, ⟨?_, ?_, S.inj, Nat.le_trans S.size St.size, S.low⟩, ⟨fun _ _ => rfl, rfl, rfl, Nat.le_refl _, St.os, St.tape, St.output, St.size, fun B hB _ => St.same B hB (hno B), fun B hB => .inl hB⟩, ?_⟩
      · intro b cs hb hc
        obtain ⟨L, arr, T, fr, h2, h3, h4, h5, h6⟩ := S.old b cs hb hc
        exact ⟨L, arr, T, fr, h2, h3, h4, same _ _ h5, h6⟩
      · intro b k hb hk
        obtain ⟨L, arr, T, fr, h2, h3, h4, h5⟩ := S.new b k hb hk
        exact ⟨L, arr, T, fr, h2, h3, same _ _ h4, h5⟩
      · rw [hv1.flat_eq hv]; exact .flat hv

end Go.Abs

