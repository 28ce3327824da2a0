/-
  The abstract machine: from a contract to what a call does in the world; calls whose arguments lead to no memory.
  Conditions: as each theorem states.
  The abstract machine: calls whose arguments lead into the memory that was there: what of it a contract may look at.
  Conditions: as each theorem states.
-/
import Derived.Test.YtcmfgmhadeeieaaG3
import Derived.ProofKit
namespace Go.Abs
open Go.RowKit

/-- The heap of a run that begins in a world: its blocks are there, unseen. -/
def topHeap (W : World) (old : Nat → Option (List Value)) : Heap := ⟨W.heap.size, old, .nil, 0⟩
def topMu (W : World) : Mu := fun b => if b < W.heap.size then some ⟨b, 0, 0, 0⟩ else none

theorem topHeap_new (W : World) (old : Nat → Option (List Value)) {b : Nat} (hb : W.heap.size ≤ b) : (topHeap W old).get b = none := by
  unfold Heap.get topHeap
  simp only [Nat.add_zero]
  rw [if_neg (by omega), if_neg (by omega)]

theorem top_sim (W : World) : Sim (topMu W) (topHeap W fun _ => none) W := by
  refine ⟨?_, ?_, ?_, Nat.le_refl _, ?_⟩
  · intro b cs _ hc; cases hc
  · intro b k hb hk; rw [topHeap_new W _ hb] at hk; cases hk
  · intro b b' k k' L L' hb _ _ hk; rw [topHeap_new W _ hb] at hk; cases hk
  · intro b hb
    have hb2 : b < W.heap.size := hb
    exact ⟨⟨b, 0, 0, 0⟩, by unfold topMu; rw [if_pos hb2], rfl, rfl⟩

theorem Step.below {μ μ' : Mu} {h h' : Heap} {W W' : World} (hn : ∀ B, B < W.heap.size → ¬ Own μ h B) (St : Step μ h W μ' h' W') : Below W.heap.size W W' :=
  ⟨St.os, St.tape, St.output, St.size, fun k hk => St.same k hk (hn k hk)⟩

/-- A call with arguments that lead to no memory. -/
theorem Contract.call_flat {P : Program} {f : FuncId} {s : List Value → Heap → Out} (K : Contract P f s) (hg : P.globals.size = 0) (args : List Value) (ha : flatAll args = true) (v : Value) (hv : flat v = true) (W : World)
    (hs : ∃ h', s args (topHeap W fun _ => none) = some (v, h')) : Calls P f args.toArray W fun e W' => e = .returned v ∧ Below W.heap.size W W' := by
  obtain ⟨h', hs⟩ := hs
  have hno : ∀ B, ¬ Own (topMu W) (topHeap W fun _ => none) B := by
    rintro B ⟨b, k, L, hb, hk, _⟩
    rw [topHeap_new W _ hb] at hk; cases hk
  have hbd : HeapBd (topHeap W fun _ => none) := by
    intro b k hk
    unfold Heap.get topHeap at hk
    simp only [Nat.add_zero] at hk
    split at hk
    · cases hk
    · cases hk
  refine (K.run args _ v h' hs (bdL_flat ha) hbd (by rw [hg]; exact Nat.zero_le _) (topMu W) W args (top_sim W) ?_ (LRel.of_flat ha)).mono ?_
  · intro b hb _
    have : ¬ b < W.heap.size := Nat.not_lt.2 hb
    unfold topMu; rw [if_neg this]
  · rintro e W' ⟨μ', v', rfl, S, St, hv'⟩
    rw [hv'.flat_eq hv]
    exact ⟨rfl, St.below fun B _ => hno B⟩

end Go.Abs

namespace Go.Abs
open Go.RowKit

/-- Values that mean the same in the machine as in the world. -/
def nice (n : Nat) : Value → Bool
  | .pointer (some ⟨b, _, none⟩) => decide (b < n)
  | .slice (some ⟨b, _, none⟩) _ _ => decide (b < n)
  | v => flat v
def clean (n : Nat) (v : Value) : Value :=
  if nice n v then v else match v with
    | .slice (some _) 0 0 => .slice (some ⟨0, 0, some 0⟩) 0 0
    | _ => .chan (some 0)
/-- What a contract may look at of the memory that was there. -/
def view (W : World) (b : Nat) : Option (List Value) :=
  match W.heap[b]? with
  | some (.cells arr _ _) => some (arr.toList.map (clean W.heap.size))
  | _ => none

theorem nice_rel {W : World} {v : Value} (h : nice W.heap.size v = true) : VRel (topMu W) v v := by
  unfold nice at h
  split at h
  · rename_i b off
    simp only [decide_eq_true_eq] at h
    have hm : topMu W b = some ⟨b, 0, 0, 0⟩ := by unfold topMu; rw [if_pos h]
    have := VRel.ptr (off := off) hm
    simpa using this
  · rename_i b off l c
    simp only [decide_eq_true_eq] at h
    have hm : topMu W b = some ⟨b, 0, 0, 0⟩ := by unfold topMu; rw [if_pos h]
    have := VRel.slice (off := off) (len := l) (cap := c) hm
    simpa using this
  · exact .flat h
theorem nice_bd {n : Nat} {v : Value} (h : nice n v = true) : bdV n v = true := by
  unfold nice at h
  split at h
  · simpa [bdV] using h
  · simpa [bdV] using h
  · exact bdV_flat h
theorem clean_rel {W : World} {v : Value} (h : isHole (clean W.heap.size v) = false) : VRel (topMu W) (clean W.heap.size v) v := by
  unfold clean at h ⊢
  split at h
  · rename_i hn
    rw [if_pos hn]; exact nice_rel hn
  · rename_i hn
    rw [if_neg hn]
    split at h
    · exact .zer
    · simp [isHole] at h
theorem clean_bd {n : Nat} {v : Value} (hn : 0 < n) : bdV n (clean n v) = true := by
  unfold clean
  split
  · rename_i h; exact nice_bd h
  · split
    · simpa [bdV] using hn
    · rfl

theorem view_sim (W : World) : Sim (topMu W) (topHeap W (view W)) W := by
  refine ⟨?_, ?_, ?_, Nat.le_refl _, ?_⟩
  · intro b cs hb hc
    have hb2 : b < W.heap.size := hb
    have hc2 : view W b = some cs := hc
    unfold view at hc2
    split at hc2
    · rename_i arr T fr hg
      cases hc2
      refine ⟨⟨b, 0, 0, 0⟩, arr, T, fr, by unfold topMu; rw [if_pos hb2], rfl, rfl, hg, ?_, ?_⟩
      · simp
      · intro i x y hx hy hh
        rw [List.getElem?_map, Option.map_eq_some_iff] at hx
        obtain ⟨z, hz, rfl⟩ := hx
        rw [List.length_map, List.take_of_length_le (Nat.le_refl _), hz] at hy
        cases hy
        exact clean_rel hh
    · cases hc2
  · intro b k hb hk; rw [topHeap_new W _ hb] at hk; cases hk
  · intro b b' k k' L L' hb _ _ hk; rw [topHeap_new W _ hb] at hk; cases hk
  · intro b hb
    have hb2 : b < W.heap.size := hb
    exact ⟨⟨b, 0, 0, 0⟩, by unfold topMu; rw [if_pos hb2], rfl, rfl⟩

theorem view_get (W : World) (b : Nat) : (topHeap W (view W)).get b = view W b := by
  unfold Heap.get topHeap
  simp only [Nat.add_zero]
  by_cases hb : b < W.heap.size
  · rw [if_pos hb]
  · rw [if_neg hb, if_neg hb]
    unfold view
    rw [Array.getElem?_eq_none (by omega)]

theorem view_bd (W : World) : HeapBd (topHeap W (view W)) := by
  intro b k hk
  rw [view_get] at hk
  have hn : (topHeap W (view W)).next = W.heap.size := rfl
  rw [hn]
  unfold view at hk
  split at hk
  · rename_i arr T fr hg
    cases hk
    have hpos : 0 < W.heap.size := by
      have := (Array.getElem?_eq_some_iff.1 hg).1; omega
    rw [bdL_iff]
    intro x hx
    obtain ⟨y, _, rfl⟩ := List.mem_map.1 hx
    exact clean_bd hpos
  · cases hk

/-- A call with arguments that lead into memory. -/
theorem Contract.call_data {P : Program} {f : FuncId} {s : List Value → Heap → Out} (K : Contract P f s) (hg : P.globals.size = 0) (args args' : List Value) (W : World) (hr : LRel (topMu W) args args') (hb : bdL W.heap.size args = true)
    (v : Value) (hv : flat v = true) (hs : ∃ h', s args (topHeap W (view W)) = some (v, h')) : Calls P f args'.toArray W fun e W' => e = .returned v ∧ Below W.heap.size W W' := by
  obtain ⟨h', hs⟩ := hs
  have hno : ∀ B, ¬ Own (topMu W) (topHeap W (view W)) B := by
    rintro B ⟨b, k, L, hb, hk, _⟩
    rw [topHeap_new W _ hb] at hk; cases hk
  refine (K.run args _ v h' hs hb (view_bd W) (by rw [hg]; exact Nat.zero_le _) (topMu W) W args' (view_sim W) ?_ hr).mono ?_
  · intro b hb _
    have : ¬ b < W.heap.size := Nat.not_lt.2 hb
    unfold topMu; rw [if_neg this]
  · rintro e W' ⟨μ', v', rfl, S, St, hv'⟩
    rw [hv'.flat_eq hv]
    exact ⟨rfl, St.below fun B _ => hno B⟩

/-- A cell that can be read, seen. -/
theorem view_cell {W : World} {a : Addr} {v : Value} (h : W.cell? a = some v) : a.spot = none ∧ a.block < W.heap.size ∧ ∃ k, view W a.block = some k ∧ k[a.off]? = some (clean W.heap.size v) := by
  unfold World.cell? at h
  split at h
  · rename_i c T fr hg
    split at h
    · cases h
    · rename_i hs
      refine ⟨by simpa using hs, (Array.getElem?_eq_some_iff.1 hg).1, c.toList.map (clean W.heap.size), ?_, ?_⟩
      · unfold view; rw [hg]
      · rw [List.getElem?_map, Array.getElem?_toList, h]; rfl
  · cases h

end Go.Abs

