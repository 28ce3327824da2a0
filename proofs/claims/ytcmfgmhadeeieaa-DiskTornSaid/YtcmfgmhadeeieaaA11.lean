/-
  The abstract machine: a region whose order the tape draws.
  Conditions: the calls' summaries are sound (CSound).
-/
import Derived.Test.YtcmfgmhadeeieaaA10
namespace Go.Abs

section kinds
variable {P : Program} {C : CallF} {o : Oper} {ρ : Operand → Value} {h h' : Heap} {v : Value}

theorem kind_pure (hk : kindOf P o = .pure) (e : opA P C o ρ h = some (v, h')) : h' = h ∧ ∀ h2, opA P C o ρ h2 = some (v, h2) := by
  have pure_of : ∀ {r : Option Value}, r.map (fun v => (v, h)) = some (v, h') → h' = h ∧ ∀ h2 : Heap, r.map (fun v => (v, h2)) = some (v, h2) := by
    intro r e
    simp only [Option.map_eq_some_iff, Prod.mk.injEq] at e
    obtain ⟨x, rfl, rfl, rfl⟩ := e
    exact ⟨rfl, fun h2 => rfl⟩
  unfold opA at e ⊢
  simp only at e ⊢
  split at e
  all_goals (rename_i heq)
  all_goals try rw [heq]
  all_goals first
    | exact pure_of e
    | (cases e; exact ⟨rfl, fun _ => rfl⟩)
    | (split at e
       · cases e; rename_i hc; exact ⟨rfl, fun _ => by simp only [hc]⟩
       · cases e)
    | (simp [kindOf, heq] at hk; done)
    | (simp only [kindOf, heq] at hk; split at hk <;> cases hk; done)
    | (cases e; done)

theorem kind_read (hk : kindOf P o = .read) (e : opA P C o ρ h = some (v, h')) : h' = h := by
  unfold opA at e
  simp only at e
  split at e
  all_goals (rename_i heq)
  all_goals try (simp [kindOf, heq] at hk; done)
  · unfold ld at e
    split at e
    · unfold ldN at e
      repeat' split at e
      all_goals first
        | (cases e; done)
        | (simp only [Option.some.injEq, Prod.mk.injEq] at e; exact e.2.symm)
    · unfold ld1 at e
      repeat' split at e
      all_goals first
        | (cases e; done)
        | (simp only [Option.some.injEq, Prod.mk.injEq] at e; exact e.2.symm)
    · cases e
  · simp only [kindOf, heq] at hk
    unfold convA at e
    split at e
    · cases e; rfl
    · cases e; rfl
    · rename_i hd _; rw [hd] at hk; cases hk
    · rename_i hd _; rw [hd] at hk; cases hk
    · repeat' split at e
      all_goals first
        | (cases e; done)
        | (cases e; rfl)
    · cases e
  · rename_i c
    simp only [kindOf, heq] at hk
    split at hk
    all_goals first
      | (cases hk; done)
      | skip
    all_goals
      rename_i hc
      rw [hc] at e
      simp only [builtinA] at e
      split at e
      all_goals first
        | contradiction
        | (cases e; done)
        | (simp only [Option.map_eq_some_iff, Prod.mk.injEq] at e; obtain ⟨_, _, _, rfl⟩ := e; rfl)

theorem kind_alloc (hk : kindOf P o = .alloc) (e : opA P C o ρ h = some (v, h')) :
    ∃ (k : Blk) (mk : Nat → Value), h' = h.alloc k ∧ v = mk h.next ∧ ∀ h2 : Heap, opA P C o ρ h2 = some (mk h2.next, h2.alloc k) := by
  unfold opA at e ⊢
  simp only at e ⊢
  split at e
  all_goals (rename_i heq)
  all_goals try (simp [kindOf, heq] at hk; done)
  · simp only [zero] at e ⊢
    split at e
    · rename_i z hz
      split at e
      · rename_i hf
        simp only [newRow, Option.some.injEq, Prod.mk.injEq] at e
        obtain ⟨rfl, rfl⟩ := e
        exact ⟨_, fun n => ptr n 0, rfl, rfl, fun h2 => by simp only [hf, if_true, newRow]⟩
      · cases e
    · cases e
  · simp only [box] at e ⊢
    split at e
    · rename_i hf
      simp only [newRow, Option.some.injEq, Prod.mk.injEq] at e
      obtain ⟨rfl, rfl⟩ := e
      exact ⟨_, fun n => ptr n 0, rfl, rfl, fun h2 => by simp only [hf, if_true, newRow]⟩
    · cases e
  · simp only [buildSliceA] at e ⊢
    split at e
    · split at e
      · split at e
        · rename_i hc
          split at e
          · rename_i cs hcs
            simp only [Option.some.injEq, Prod.mk.injEq] at e
            obtain ⟨rfl, rfl⟩ := e
            exact ⟨_, fun n => .slice (some ⟨n, 0, none⟩) _ _, rfl, rfl, fun h2 => by rw [if_pos hc]⟩
          · cases e
        · cases e
      · cases e
    · cases e
  · simp only [kindOf, heq] at hk
    split at hk <;> cases hk
  · simp only [makeA] at e ⊢
    split at e
    · split at e
      · split at e
        · rename_i hc
          simp only [Option.some.injEq, Prod.mk.injEq] at e
          obtain ⟨rfl, rfl⟩ := e
          exact ⟨_, fun n => .slice (some ⟨n, 0, none⟩) _ _, rfl, rfl, fun h2 => by rw [if_pos hc]⟩
        · cases e
      · cases e
    · cases e
  · simp only [kindOf, heq] at hk
    split at hk <;> cases hk

end kinds
end Go.Abs
