/-
  The abstract machine: what is kept of a heap; stores at known places.
  Conditions: as each theorem states.
-/
import Derived.Test.YtcmfgmhadeeieaaA26
namespace Go.Abs

/-- All blocks but some are as they were. -/
structure Kept (h h' : Heap) (B : Nat → Prop) : Prop where
  n0 : h'.n0 = h.n0
  next : h.next ≤ h'.next
  get : ∀ c, c < h.next → ¬ B c → h'.get c = h.get c

theorem Kept.refl (h : Heap) (B : Nat → Prop) : Kept h h B := ⟨rfl, Nat.le_refl _, fun _ _ _ => rfl⟩
theorem Kept.trans {a b c : Heap} {B : Nat → Prop} (x : Kept a b B) (y : Kept b c B) : Kept a c B :=
  ⟨y.n0.trans x.n0, Nat.le_trans x.next y.next, fun d hd hb => (y.get d (Nat.lt_of_lt_of_le hd x.next) hb).trans (x.get d hd hb)⟩
theorem Kept.mono {a b : Heap} {B B' : Nat → Prop} (x : Kept a b B) (hB : ∀ c, c < a.next → B c → B' c) : Kept a b B' :=
  ⟨x.n0, x.next, fun d hd hb => x.get d hd (fun h => hb (hB d hd h))⟩
theorem Kept.alloc (h : Heap) (k : Blk) (B : Nat → Prop) : Kept h (h.alloc k) B :=
  ⟨rfl, by simp, fun c hc _ => by rw [Heap.get_alloc, if_neg (by omega)]⟩
theorem Kept.set {h : Heap} {b : Nat} {k k' : Blk} {B : Nat → Prop} (hb : h.n0 ≤ b) (hg : h.get b = some k) (hB : h.next ≤ b ∨ B b) : Kept h (h.set b k') B :=
  ⟨rfl, by simp, fun c hc hn => by
    by_cases e : c = b
    · subst e; rcases hB with h1 | h1
      · omega
      · exact absurd h1 hn
    · exact Heap.get_set_other hb (h.lt_of_get hg) _ e⟩

theorem splice_one (k : List Value) (o : Nat) (v : Value) (ho : o < k.length) : splice k o [v] = k.set o v := by
  unfold splice
  rw [List.set_eq_take_append_cons_drop, if_pos ho]
  simp
theorem stN1_at {h : Heap} {b o : Nat} {k : Blk} {v : Value} (hg : h.get b = some k) (ho : o < k.length) (hn : h.n0 ≤ b) (hc : v.cells = #[v]) (hv : v.oneCell' = true) :
    stN 1 (ptr b o) v h = some (undef, h.set b (k.set o v)) := by
  unfold stN ptr
  simp only [hc, List.size_toArray, List.length_cons, List.length_nil, Nat.zero_add, if_true]
  unfold stL
  simp only [hg, List.length_cons, List.length_nil, Nat.zero_add]
  rw [if_pos (by simp [hn, oneCells, hv]; omega), splice_one k o v ho]
  rfl
end Go.Abs
