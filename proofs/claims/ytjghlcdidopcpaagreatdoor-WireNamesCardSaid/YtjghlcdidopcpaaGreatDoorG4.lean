/-
  The abstract machine: from a contract to what a call does in the world; calls whose arguments lead to no memory.
  Conditions: as each theorem states.
  The abstract machine: closed runs with arguments that lead to no memory; calls in programs with package variables that nobody reads.
  Conditions: as each theorem states.
-/
import Derived.Test.YtjghlcdidopcpaaGreatDoorG3
import Derived.ProofKit
namespace Go.Abs
open Go.RowKit

/-- The heap of a run that begins in a world: its blocks are there, unseen. -/
def topHeap (W : World) (old : Nat → Option (List Value)) : Heap := ⟨W.heap.size, old, .nil, 0⟩
def topMu (W : World) : Mu := fun b => if b < W.heap.size then some ⟨b, 0, 0, 0⟩ else none

theorem topHeap_new (W : World) (old : Nat → Option (List Value)) {b : Nat} (hb : W.heap.size ≤ b) : (topHeap W old).get b = none := by
  unfold Heap.get topHeap
  simp only [Nat.add_zero]
  rw [if_neg (by omega), if_neg (by omega)]

theorem top_sim (W : World) : Sim (topMu W) (topHeap W fun _ => none) W := by
  refine ⟨?_, ?_, ?_, Nat.le_refl _, ?_⟩
  · intro b cs _ hc; cases hc
  · intro b k hb hk; rw [topHeap_new W _ hb] at hk; cases hk
  · intro b b' k k' L L' hb _ _ hk; rw [topHeap_new W _ hb] at hk; cases hk
  · intro b hb
    have hb2 : b < W.heap.size := hb
    exact ⟨⟨b, 0, 0, 0⟩, by unfold topMu; rw [if_pos hb2], rfl, rfl⟩

theorem Step.below {μ μ' : Mu} {h h' : Heap} {W W' : World} (hn : ∀ B, B < W.heap.size → ¬ Own μ h B) (St : Step μ h W μ' h' W') : Below W.heap.size W W' :=
  ⟨St.os, St.tape, St.output, St.size, fun k hk => St.same k hk (hn k hk)⟩

/-- A call with arguments that lead to no memory. -/
theorem Contract.call_flat {P : Program} {f : FuncId} {s : List Value → Heap → Out} (K : Contract P f s) (hg : P.globals.size = 0) (args : List Value) (ha : flatAll args = true) (v : Value) (hv : flat v = true) (W : World)
    (hs : ∃ h', s args (topHeap W fun _ => none) = some (v, h')) : Calls P f args.toArray W fun e W' => e = .returned v ∧ Below W.heap.size W W' := by
  obtain ⟨h', hs⟩ := hs
  have hno : ∀ B, ¬ Own (topMu W) (topHeap W fun _ => none) B := by
    rintro B ⟨b, k, L, hb, hk, _⟩
    rw [topHeap_new W _ hb] at hk; cases hk
  have hbd : HeapBd (topHeap W fun _ => none) := by
    intro b k hk
    unfold Heap.get topHeap at hk
    simp only [Nat.add_zero] at hk
    split at hk
    · cases hk
    · cases hk
  refine (K.run args _ v h' hs (bdL_flat ha) hbd (by rw [hg]; exact Nat.zero_le _) (topMu W) W args (top_sim W) ?_ (LRel.of_flat ha)).mono ?_
  · intro b hb _
    have : ¬ b < W.heap.size := Nat.not_lt.2 hb
    unfold topMu; rw [if_neg this]
  · rintro e W' ⟨μ', v', rfl, S, St, hv'⟩
    rw [hv'.flat_eq hv]
    exact ⟨rfl, St.below fun B _ => hno B⟩

end Go.Abs

namespace Go.Abs
open Go.RowKit

/-- What a function answers in the empty heap at arguments that lead to no memory it answers in every heap, and leaves that as it was. -/
theorem Contract.closed_at {P : Program} {C : CallF} (hC : CSound P C) {f : FuncId} (S : List Value → Option Value)
    (hS : ∀ args v, S args = some v → flatAll args = true ∧ flat v = true ∧ ∃ h1, C f args (bare P) = some (v, h1)) (hne : ∃ args v, S args = some v) :
    Contract P f fun args h => (S args).map fun v => (v, h) := by
  have key : ∀ (args : List Value) (h : Heap) (v : Value) (h' : Heap), ((S args).map fun v => (v, h)) = some (v, h') → S args = some v ∧ h' = h := by
    intro args h v h' e
    simp only [Option.map_eq_some_iff, Prod.mk.injEq] at e
    obtain ⟨w, h1, rfl, rfl⟩ := e
    exact ⟨h1, rfl⟩
  refine ⟨?_, ?_, ?_, ?_⟩
  · obtain ⟨args, v, e⟩ := hne
    obtain ⟨_, _, h1, hr⟩ := hS args v e
    exact hC.fn _ _ _ _ _ hr
  · intro args h v h' e
    obtain ⟨_, rfl⟩ := key _ _ _ _ e
    exact Grow.refl _
  · intro args h v h' e _ hb
    obtain ⟨e1, rfl⟩ := key _ _ _ _ e
    exact ⟨bdV_flat (hS _ _ e1).2.1, hb⟩
  · intro args h v h' e hba hbh hg μ w args' Sm hfr r
    obtain ⟨e1, rfl⟩ := key _ _ _ _ e
    obtain ⟨ha, hv, h1, hr⟩ := hS _ _ e1
    have hargs := r.flat_eq ha
    subst hargs
    have S0 : Sim (μ.cut P.globals.size) (bare P) w := by
      refine ⟨?_, ?_, ?_, Nat.le_trans hg Sm.size, ?_⟩
      · intro b cs _ hc; cases hc
      · intro b k _ hk; rw [bare_get] at hk; cases hk
      · intro b b' k k' L L' _ _ _ hk; rw [bare_get] at hk; cases hk
      · intro b hb
        obtain ⟨L, h2, h3⟩ := Sm.low b (Nat.lt_of_lt_of_le hb hg)
        exact ⟨L, Mu.cut_some h2 hb, h3⟩
    have hno : ∀ B, ¬ Own (μ.cut P.globals.size) (bare P) B := by
      rintro B ⟨b, k, L, _, hk, _⟩
      rw [bare_get] at hk; cases hk
    refine (hC.run _ _ _ _ _ hr (bdL_flat ha) (fun b k hk => by rw [bare_get] at hk; cases hk) (Nat.le_refl _) (μ.cut P.globals.size) w _ S0
      (fun b hb _ => by
        have : ¬ b < P.globals.size := Nat.not_lt.2 hb
        simp [Mu.cut, this]) (LRel.of_flat ha)).mono ?_
    rintro e w' ⟨μ1, v1, rfl, S1, St, hv1⟩
    have same : ∀ (B : Nat) (x : Obj), w.heap[B]? = some x → w'.heap[B]? = some x := by
      intro B x hx
      rw [St.same B (Array.getElem?_eq_some_iff.1 hx).1 (hno B)]; exact hx
    refine ⟨μ, v1, rfl, ⟨?_, ?_, Sm.inj, Nat.le_trans Sm.size St.size, Sm.low⟩, ⟨fun _ _ => rfl, rfl, rfl, Nat.le_refl _, St.os, St.tape, St.output, St.size, fun B hB _ => St.same B hB (hno B), fun B hB => .inl hB⟩, ?_⟩
    · intro b cs hb hc
      obtain ⟨L, arr, T, fr, h2, h3, h4, h5, h6⟩ := Sm.old b cs hb hc
      exact ⟨L, arr, T, fr, h2, h3, h4, same _ _ h5, h6⟩
    · intro b k hb hk
      obtain ⟨L, arr, T, fr, h2, h3, h4, h5⟩ := Sm.new b k hb hk
      exact ⟨L, arr, T, fr, h2, h3, same _ _ h4, h5⟩
    · rw [hv1.flat_eq hv]; exact .flat hv

/-- A call with arguments that lead to no memory, where the package variables are there. -/
theorem Contract.call_flat' {P : Program} {f : FuncId} {s : List Value → Heap → Out} (K : Contract P f s) (args : List Value) (ha : flatAll args = true) (v : Value) (hv : flat v = true) (W : World) (hg : P.globals.size ≤ W.heap.size)
    (hs : ∃ h', s args (topHeap W fun _ => none) = some (v, h')) : Calls P f args.toArray W fun e W' => e = .returned v ∧ Below W.heap.size W W' := by
  obtain ⟨h', hs⟩ := hs
  have hno : ∀ B, ¬ Own (topMu W) (topHeap W fun _ => none) B := by
    rintro B ⟨b, k, L, hb, hk, _⟩
    rw [topHeap_new W _ hb] at hk; cases hk
  have hbd : HeapBd (topHeap W fun _ => none) := by
    intro b k hk
    unfold Heap.get topHeap at hk
    simp only [Nat.add_zero] at hk
    split at hk
    · cases hk
    · cases hk
  refine (K.run args _ v h' hs (bdL_flat ha) hbd hg (topMu W) W args (top_sim W) ?_ (LRel.of_flat ha)).mono ?_
  · intro b hb _
    have : ¬ b < W.heap.size := Nat.not_lt.2 hb
    unfold topMu; rw [if_neg this]
  · rintro e W' ⟨μ', v', rfl, S, St, hv'⟩
    rw [hv'.flat_eq hv]
    exact ⟨rfl, St.below fun B _ => hno B⟩

end Go.Abs

