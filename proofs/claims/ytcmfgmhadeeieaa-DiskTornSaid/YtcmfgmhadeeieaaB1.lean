/-
  The abstract machine: calls of functions by fuel, each by its own body; a run without arguments from an empty heap tells what the function answers in every heap.
  Conditions: as each theorem states.
-/
import Derived.Test.YtcmfgmhadeeieaaA27
namespace Go.Abs

def fnOk (P : Program) (fn : Func) : Bool := !(fn.name == "runtime.NumGoroutine") && match fn.body with | some c => codeOk P c | none => false

/-- Calls by fuel, over functions whose code has been looked through. -/
def callC (P : Program) (ok : FuncId → Bool) : Nat → CallF
  | 0, _, _, _ => none
  | k + 1, f, args, h =>
    if ok f && Nat.ble P.globals.size h.n0 then match P.funcs[f]? with
      | some fn => bodyA P (callC P ok k) fn args h
      | none => none
    else none

section
variable {P : Program} {C : CallF}

theorem ld_bd {t : TypeId} {x v : Value} {h h' : Heap} (hb : HeapBd h) (hx : bdV h.next x = true) (e : ld P t x h = some (v, h')) : bdV h.next v = true := by
  have hC : CSound P (fun _ _ _ => none) := ⟨by simp, by simp, by simp, by simp⟩
  have := opA_bd (P := P) (C := fun _ _ _ => none) (o := { dst := none, type := 0, op := .load t (.const x), after := #[], guard := none, pos := default }) (ρ := fun o => match o with | .const v => v | _ => undef) hC hb
    (by
      intro y hy
      have : y = .const x := by simpa [Op.operands] using hy
      subst this; exact hx) (v := v) (h' := h') e
  have hh : h' = h := by
    unfold ld at e
    split at e
    · unfold ldN at e; split at e
      · split at e
        · split at e
          · cases e; rfl
          · cases e
        · cases e
      · cases e
    · unfold ld1 at e; split at e
      · split at e
        · split at e
          · cases e; rfl
          · cases e
        · cases e
      · cases e
    · cases e
  subst hh; exact this.1

theorem resultA_bd {r : ResultVar} {e : Env} {h : Heap} {v : Value} (hb : HeapBd h) (he : bdL h.next e = true) (x : resultA P r e h = some v) : bdV h.next v = true := by
  have key : ∀ t, bdV h.next (e.getD t undef) = true := by
    intro t
    rw [List.getD_eq_getElem?_getD]
    cases ht : e[t]? with
    | none => rfl
    | some y => exact bdL_iff.1 he y (List.mem_of_getElem? ht)
  cases r with
  | tmp t => simp only [resultA, Option.some.injEq] at x; subst x; exact key t
  | cell a t =>
    simp only [resultA, Option.map_eq_some_iff] at x
    obtain ⟨⟨y, h'⟩, h1, rfl⟩ := x
    exact ld_bd hb (key a) h1

theorem resultsA_bd {rs : List ResultVar} {e : Env} {h h' : Heap} {v : Value} (hb : HeapBd h) (he : bdL h.next e = true) (x : resultsA P rs e h = some (v, h')) : bdV h'.next v = true ∧ HeapBd h' := by
  have hh := resultsA_grow x
  subst hh
  refine ⟨?_, hb⟩
  unfold resultsA at x
  split at x
  · simp only [Option.map_eq_some_iff, Prod.mk.injEq] at x
    obtain ⟨v1, hv1, rfl, _⟩ := x
    exact resultA_bd hb he hv1
  · simp only [Option.map_eq_some_iff, Prod.mk.injEq] at x
    obtain ⟨vs, hvs, rfl, _⟩ := x
    show bdL _ vs = true
    rw [bdL_iff]
    intro y hy
    have : ∀ (rs : List ResultVar) (vs : List Value), rs.mapM (fun r => resultA P r e h') = some vs → ∀ y ∈ vs, bdV h'.next y = true := by
      intro rs
      induction rs with
      | nil => intro vs hvs y hy; simp at hvs; subst hvs; cases hy
      | cons r rs ih =>
        intro vs hvs y hy
        simp only [List.mapM_cons, Option.bind_eq_bind, Option.bind_eq_some_iff, Option.pure_def, Option.some.injEq] at hvs
        obtain ⟨a, ha, b, hb2, rfl⟩ := hvs
        rcases List.mem_cons.1 hy with rfl | hy
        · exact resultA_bd hb he ha
        · exact ih b hb2 y hy
    exact this _ _ hvs y hy

theorem bodyA_grow (hC : CSound P C) {fn : Func} {args : List Value} {h h' : Heap} {v : Value} (he : bodyA P C fn args h = some (v, h')) : Grow h h' := by
  unfold bodyA at he
  split at he
  · cases he
  · rename_i c hb
    cases hc : codeA P C c (args ++ List.replicate (fn.ntmps - args.length) undef) h with
    | none => rw [hc] at he; cases he
    | some y =>
      obtain ⟨ex, e1, h2⟩ := y
      rw [hc] at he
      have hgrow : resultsA P fn.results.toList e1 h2 = some (v, h') := by
        cases ex with
        | normal => exact he
        | ret => exact he
        | exit i => cases he
      rw [resultsA_grow hgrow]
      exact codeA_grow hC c hc

theorem bodyA_bd (hC : CSound P C) {fn : Func} {args : List Value} {h h' : Heap} {v : Value} (hok : fnOk P fn = true) (hg : P.globals.size ≤ h.n0) (he : bodyA P C fn args h = some (v, h')) (hba : bdL h.next args = true) (hbh : HeapBd h) :
    bdV h'.next v = true ∧ HeapBd h' := by
  unfold bodyA at he
  split at he
  · cases he
  · rename_i c hb
    have hco : codeOk P c = true := by
      unfold fnOk at hok
      rw [hb] at hok
      simp only [Bool.and_eq_true] at hok
      exact hok.2
    cases hc : codeA P C c (args ++ List.replicate (fn.ntmps - args.length) undef) h with
    | none => rw [hc] at he; cases he
    | some y =>
      obtain ⟨ex, e1, h2⟩ := y
      rw [hc] at he
      have hr : resultsA P fn.results.toList e1 h2 = some (v, h') := by
        cases ex with
        | normal => exact he
        | ret => exact he
        | exit i => cases he
      obtain ⟨h3, h4⟩ := codeA_bd hC c hco hg (bdL_append hba (bdL_iff.2 fun x hx => by rw [List.eq_of_mem_replicate hx]; rfl)) hbh hc
      exact resultsA_bd h4 h3 hr
end

theorem callC_sound {P : Program} {ok : FuncId → Bool} (hm : P.follows .mixedOrders = true) (hok : ∀ f fn, ok f = true → P.funcs[f]? = some fn → fnOk P fn = true) : ∀ k, CSound P (callC P ok k)
  | 0 => ⟨by simp [callC], by simp [callC], by simp [callC], by simp [callC]⟩
  | k + 1 => by
    have ih := callC_sound hm hok k
    have key : ∀ {f args h v h'}, callC P ok (k + 1) f args h = some (v, h') → ∃ fn, P.funcs[f]? = some fn ∧ fnOk P fn = true ∧ P.globals.size ≤ h.n0 ∧ bodyA P (callC P ok k) fn args h = some (v, h') := by
      intro f args h v h' he
      unfold callC at he
      split at he
      · rename_i h1
        rw [Bool.and_eq_true] at h1
        split at he
        · rename_i fn hf
          exact ⟨fn, hf, hok f fn h1.1 hf, Nat.le_of_ble_eq_true h1.2, he⟩
        · cases he
      · cases he
    refine ⟨?_, ?_, ?_, ?_⟩
    · intro f args h v h' he
      obtain ⟨fn, h1, h2, h3, h4⟩ := key he
      unfold fnOk at h2
      rw [Bool.and_eq_true, Bool.not_eq_true'] at h2
      refine ⟨fn, h1, h2.1, ?_⟩
      cases hb : fn.body with
      | none => rw [hb] at h2; exact absurd h2.2 (by simp)
      | some c => rfl
    · intro f args h v h' he
      obtain ⟨fn, h1, h2, h3, h4⟩ := key he
      exact bodyA_grow ih h4
    · intro f args h v h' he hba hbh
      obtain ⟨fn, h1, h2, h3, h4⟩ := key he
      exact bodyA_bd ih h2 h3 h4 hba hbh
    · intro f args h v h' he hba hbh hg μ w args' S hfr r
      obtain ⟨fn, h1, h2, h3, h4⟩ := key he
      cases hb : fn.body with
      | none => unfold bodyA at h4; rw [hb] at h4; cases h4
      | some c =>
        have hco : codeOk P c = true := by
          unfold fnOk at h2
          rw [hb] at h2
          simp only [Bool.and_eq_true] at h2
          exact h2.2
        exact body_sound ih hm h1 hb hco h4 hg hba hbh S hfr r

/-- The heap of a run that begins with nothing. -/
def bare (P : Program) : Heap := ⟨P.globals.size, fun _ => none, .nil, 0⟩
theorem bare_get (P : Program) (b : Nat) : (bare P).get b = none := by
  unfold Heap.get bare
  simp only [Nat.add_zero]
  split
  · rfl
  · rfl

/-- What a function without arguments answers in the empty heap it answers in every heap, and leaves that as it was. -/
theorem Contract.closed {P : Program} {C : CallF} (hC : CSound P C) {f : FuncId} {v : Value} (hv : flat v = true) (hr : ∃ h1, C f [] (bare P) = some (v, h1)) :
    Contract P f fun args h => match args with | [] => some (v, h) | _ => none := by
  obtain ⟨h1, hr⟩ := hr
  have hbd : ∀ n, bdV n v = true := fun n => bdV_flat hv
  refine ⟨hC.fn _ _ _ _ _ hr, ?_, ?_, ?_⟩
  · intro args h v' h' e
    cases args with
    | nil => cases e; exact Grow.refl _
    | cons => cases e
  · intro args h v' h' e _ hb
    cases args with
    | nil => cases e; exact ⟨hbd _, hb⟩
    | cons => cases e
  · intro args h v' h' e _ hbh hg μ w args' S hfr r
    cases args with
    | cons => cases e
    | nil =>
      cases e
      have ha : args' = [] := List.length_eq_zero_iff.1 r.1.symm
      subst ha
      have S0 : Sim (μ.cut P.globals.size) (bare P) w := by
        refine ⟨?_, ?_, ?_, Nat.le_trans hg S.size, ?_⟩
        · intro b cs _ hc; cases hc
        · intro b k _ hk; rw [bare_get] at hk; cases hk
        · intro b b' k k' L L' _ _ _ hk; rw [bare_get] at hk; cases hk
        · intro b hb
          obtain ⟨L, h2, h3⟩ := S.low b (Nat.lt_of_lt_of_le hb hg)
          exact ⟨L, Mu.cut_some h2 hb, h3⟩
      have hno : ∀ B, ¬ Own (μ.cut P.globals.size) (bare P) B := by
        rintro B ⟨b, k, L, _, hk, _⟩
        rw [bare_get] at hk; cases hk
      refine (hC.run _ _ _ _ _ hr rfl (fun b k hk => by rw [bare_get] at hk; cases hk) (Nat.le_refl _) (μ.cut P.globals.size) w [] S0
        (fun b hb _ => by
          have : ¬ b < P.globals.size := Nat.not_lt.2 hb
          simp [Mu.cut, this]) (LRel.nil _)).mono ?_
      rintro e w' ⟨μ1, v1, rfl, S1, St, hv1⟩
      have same : ∀ (B : Nat) (x : Obj), w.heap[B]? = some x → w'.heap[B]? = some x := by
        intro B x hx
        rw [St.same B (Array.getElem?_eq_some_iff.1 hx).1 (hno B)]; exact hx
      refine ⟨μ, v1, rfl, ⟨?_, ?_, S.inj, Nat.le_trans S.size St.size, S.low⟩, ⟨fun _ _ => rfl, rfl, rfl, Nat.le_refl _, St.os, St.tape, St.output, St.size, fun B hB _ => St.same B hB (hno B), fun B hB => .inl hB⟩, ?_⟩
      · intro b cs hb hc
        obtain ⟨L, arr, T, fr, h2, h3, h4, h5, h6⟩ := S.old b cs hb hc
        exact ⟨L, arr, T, fr, h2, h3, h4, same _ _ h5, h6⟩
      · intro b k hb hk
        obtain ⟨L, arr, T, fr, h2, h3, h4, h5⟩ := S.new b k hb hk
        exact ⟨L, arr, T, fr, h2, h3, same _ _ h4, h5⟩
      · rw [hv1.flat_eq hv]; exact .flat hv

end Go.Abs
