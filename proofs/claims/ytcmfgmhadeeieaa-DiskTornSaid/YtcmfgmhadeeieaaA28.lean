/-
  The abstract machine: environments as functions; how loops' rounds and what comes behind them are told; loops by what stands before each round.
  Conditions: as each theorem states.
-/
import Derived.Test.YtcmfgmhadeeieaaA27
namespace Go.Abs

noncomputable def mkF (n : Nat) (x : Nat → Value) : Env := (List.range n).map x
noncomputable def up (x : Nat → Value) (l : AL) : Nat → Value := lkF x l
@[simp] theorem up_nil (x : Nat → Value) (t : Nat) : up x [] t = x t := rfl
theorem up_cons (x : Nat → Value) (s : Nat) (v : Value) (l : AL) (t : Nat) : up x ((s, v) :: l) t = if s = t then v else up x l t := lkF_cons ..
theorem up_same (x : Nat → Value) (s : Nat) (v : Value) (l : AL) : up x ((s, v) :: l) s = v := by rw [up_cons, if_pos rfl]
theorem up_other (x : Nat → Value) (s : Nat) (v : Value) (l : AL) (t : Nat) (h : Nat.beq s t = false) : up x ((s, v) :: l) t = up x l t := by rw [up_cons, if_neg (Nat.ne_of_beq_eq_false h)]
@[simp] theorem mkF_length (n : Nat) (x : Nat → Value) : (mkF n x).length = n := by simp [mkF]

theorem link_roundF {P : Program} {C : CallF} {n : Nat} {b : Code} {T : (Nat → Value) → Heap → Option (Ex × Env × Heap)} (hT : ∀ x h, roundB P C n b (mkF n x) h = T x h) (x : Nat → Value) (h : Heap) :
    codeA P C b (mkF n x) h = T x h := by
  rw [← roundK_eq, roundB_eq P C n b _ h (by rw [mkF_length]; exact Nat.beq_refl n), ← hT]
theorem link_partF {α : Type} {P : Program} {C : CallF} {n : Nat} {b : Code} {kE rE : Env → Heap → Option α} {xE : Nat → Env → Heap → Option α} {T : (Nat → Value) → Heap → Option α}
    (hT : ∀ x h, startB P C n (mkF n x) b h kE rE xE = T x h) (x : Nat → Value) (h : Heap) :
    codeK P C b (mkF n x) h kE rE xE = T x h := by
  rw [startB_eq P C n (mkF n x) (by rw [mkF_length]; exact Nat.beq_refl n), ← hT]

/-- A loop by what stands before each round: at most k rounds are still to come. -/
theorem loop_inv {P : Program} {C : CallF} {n : Nat} {b : Code} {T : (Nat → Value) → Heap → Option (Ex × Env × Heap)} (hT : ∀ x h, codeA P C b (mkF n x) h = T x h)
    {Inv : Nat → (Nat → Value) → Heap → Prop} {fin : Ex → (Nat → Value) → Heap → Prop}
    (hs : ∀ k x h, Inv k x h → ∃ ex x' h', T x h = some (ex, mkF n x', h') ∧ ((ex = .normal ∧ ∃ j, j < k ∧ Inv j x' h') ∨ (ex ≠ .normal ∧ fin ex x' h')))
    {k : Nat} {x : Nat → Value} {h : Heap} (hk : k < rounds) (hi : Inv k x h) :
    ∃ ex x' h', iter (codeA P C b) rounds (mkF n x) h = some (ex, mkF n x', h') ∧ fin ex x' h' := by
  obtain ⟨ex, e', h', h1, x', rfl, h2⟩ := iter_inv (step := codeA P C b) (Inv := fun k e h => ∃ x, e = mkF n x ∧ Inv k x h) (fin := fun ex e h => ∃ x, e = mkF n x ∧ fin ex x h)
    (by
      rintro k _ h ⟨x, rfl, hi⟩
      obtain ⟨ex, x', h', h1, h2⟩ := hs k x h hi
      refine ⟨ex, mkF n x', h', (hT x h).trans h1, ?_⟩
      rcases h2 with ⟨h2, j, hj, h3⟩ | ⟨h2, h3⟩
      · exact .inl ⟨h2, j, hj, x', rfl, h3⟩
      · exact .inr ⟨h2, x', rfl, h3⟩)
    k rounds (mkF n x) h hk ⟨x, rfl, hi⟩
  exact ⟨ex, x', h', h1, h2⟩

end Go.Abs
