/-
  The abstract machine: from a contract to what a call does in the world; calls whose arguments lead to no memory.
  Conditions: as each theorem states.
-/
import Derived.Test.YtcmfgmhadeeieaaA28
import Derived.Test.YtcmfgmhadeeieaaB2
import Derived.ProofKit
namespace Go.Abs
open Go.RowKit

/-- The heap of a run that begins in a world: its blocks are there, unseen. -/
def topHeap (W : World) (old : Nat → Option (List Value)) : Heap := ⟨W.heap.size, old, .nil, 0⟩
def topMu (W : World) : Mu := fun b => if b < W.heap.size then some ⟨b, 0, 0, 0⟩ else none

theorem topHeap_new (W : World) (old : Nat → Option (List Value)) {b : Nat} (hb : W.heap.size ≤ b) : (topHeap W old).get b = none := by
  unfold Heap.get topHeap
  simp only [Nat.add_zero]
  rw [if_neg (by omega), if_neg (by omega)]

theorem top_sim (W : World) : Sim (topMu W) (topHeap W fun _ => none) W := by
  refine ⟨?_, ?_, ?_, Nat.le_refl _, ?_⟩
  · intro b cs _ hc; cases hc
  · intro b k hb hk; rw [topHeap_new W _ hb] at hk; cases hk
  · intro b b' k k' L L' hb _ _ hk; rw [topHeap_new W _ hb] at hk; cases hk
  · intro b hb
    have hb2 : b < W.heap.size := hb
    exact ⟨⟨b, 0, 0, 0⟩, by unfold topMu; rw [if_pos hb2], rfl, rfl⟩

theorem Step.below {μ μ' : Mu} {h h' : Heap} {W W' : World} (hn : ∀ B, B < W.heap.size → ¬ Own μ h B) (St : Step μ h W μ' h' W') : Below W.heap.size W W' :=
  ⟨St.os, St.tape, St.output, St.size, fun k hk => St.same k hk (hn k hk)⟩

/-- A call with arguments that lead to no memory. -/
theorem Contract.call_flat {P : Program} {f : FuncId} {s : List Value → Heap → Out} (K : Contract P f s) (hg : P.globals.size = 0) (args : List Value) (ha : flatAll args = true) (v : Value) (hv : flat v = true) (W : World)
    (hs : ∃ h', s args (topHeap W fun _ => none) = some (v, h')) : Calls P f args.toArray W fun e W' => e = .returned v ∧ Below W.heap.size W W' := by
  obtain ⟨h', hs⟩ := hs
  have hno : ∀ B, ¬ Own (topMu W) (topHeap W fun _ => none) B := by
    rintro B ⟨b, k, L, hb, hk, _⟩
    rw [topHeap_new W _ hb] at hk; cases hk
  have hbd : HeapBd (topHeap W fun _ => none) := by
    intro b k hk
    unfold Heap.get topHeap at hk
    simp only [Nat.add_zero] at hk
    split at hk
    · cases hk
    · cases hk
  refine (K.run args _ v h' hs (bdL_flat ha) hbd (by rw [hg]; exact Nat.zero_le _) (topMu W) W args (top_sim W) ?_ (LRel.of_flat ha)).mono ?_
  · intro b hb _
    have : ¬ b < W.heap.size := Nat.not_lt.2 hb
    unfold topMu; rw [if_neg this]
  · rintro e W' ⟨μ', v', rfl, S, St, hv'⟩
    rw [hv'.flat_eq hv]
    exact ⟨rfl, St.below fun B _ => hno B⟩

end Go.Abs
