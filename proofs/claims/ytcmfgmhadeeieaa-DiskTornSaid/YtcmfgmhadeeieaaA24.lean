/-
  The abstract machine: contracts of functions that answer and leave nothing.
  Conditions: as each theorem states.
-/
import Derived.Test.YtcmfgmhadeeieaaA23
namespace Go.Abs

/-- All that a function is, as far as a contract asks. -/
structure IsFn (P : Program) (f : FuncId) (fn : Func) : Prop where
  at_ : P.funcs[f]? = some fn
  name : (fn.name == "runtime.NumGoroutine") = false
  some_ : fn.body.isSome = true
  ok : codeOk P (partOf fn []) = true

theorem IsFn.body {P : Program} {f : FuncId} {fn : Func} (i : IsFn P f fn) : fn.body = some (partOf fn []) := by
  have := i.some_
  unfold partOf
  cases h : fn.body with
  | none => rw [h] at this; cases this
  | some c => simp [codeAt]

theorem Contract.mk' {P : Program} {C : CallF} (hC : CSound P C) (hm : P.follows .mixedOrders = true) {f : FuncId} {fn : Func} (i : IsFn P f fn) {s : List Value → Heap → Out}
    (told : ∀ args h v h', s args h = some (v, h') → Grow h h' ∧ (bdL h.next args = true → HeapBd h → bdV h'.next v = true ∧ HeapBd h'))
    (body : ∀ args h v h', s args h = some (v, h') → bdL h.next args = true → HeapBd h → ∃ v1 h1 r, bodyK P C fn args h = some (v1, h1) ∧ Gc h v h' v1 h1 r) : Contract P f s :=
  .of_body hC hm i.at_ i.name i.body i.ok (fun a h v h' e => (told a h v h' e).1) (fun a h v h' e => (told a h v h' e).2) (fun a h v h' e h1 h2 _ => body a h v h' e h1 h2)

/-- A function that answers a value without memory, and leaves nothing. -/
theorem Contract.quiet {P : Program} {C : CallF} (hC : CSound P C) (hm : P.follows .mixedOrders = true) {f : FuncId} {fn : Func} (i : IsFn P f fn) {s : List Value → Heap → Out}
    (told : ∀ args h v h', s args h = some (v, h') → h' = h ∧ ∀ n, bdV n v = true)
    (body : ∀ args h v h', s args h = some (v, h') → bdL h.next args = true → HeapBd h → ∃ h1, bodyK P C fn args h = some (v, h1) ∧ ∀ b k, h.get b = some k → h1.get b = some k) : Contract P f s := by
  refine .mk' hC hm i ?_ ?_
  · intro args h v h' e
    obtain ⟨rfl, h2⟩ := told _ _ _ _ e
    exact ⟨Grow.refl _, fun _ h3 => ⟨h2 _, h3⟩⟩
  · intro args h v h' e h1 h2
    obtain ⟨rfl, h3⟩ := told _ _ _ _ e
    obtain ⟨g, h4, h5⟩ := body _ _ _ _ e h1 h2
    exact ⟨v, g, id, h4, .none (h3 _) h2 (fun b k _ h6 => h5 b k h6)⟩

end Go.Abs
