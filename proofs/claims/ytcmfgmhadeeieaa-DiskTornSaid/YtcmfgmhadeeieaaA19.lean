/-
  The abstract machine: a function's body run is the function called; contracts; what a run leaves behind unseen is dropped and what is left is numbered anew.
  Conditions: as each theorem states.
-/
import Derived.Test.YtcmfgmhadeeieaaA18
namespace Go.Abs

theorem body_sound {P : Program} {C : CallF} (hC : CSound P C) (hm : P.follows .mixedOrders = true) {f : FuncId} {fn : Func} {c : Code} (hf : P.funcs[f]? = some fn) (hb : fn.body = some c) (hok : codeOk P c = true)
    {args : List Value} {h h' : Heap} {v : Value} (he : bodyA P C fn args h = some (v, h')) (hg : P.globals.size ≤ h.n0) (hba : bdL h.next args = true) (hbh : HeapBd h)
    {μ : Mu} {w : World} {args' : List Value} (S : Sim μ h w) (hfr : Free μ h h') (r : LRel μ args args') :
    Calls P f args'.toArray w fun e w' => ∃ μ' v', e = .returned v' ∧ Sim μ' h' w' ∧ Step μ h w μ' h' w' ∧ VRel μ' v v' := by
  unfold bodyA at he
  rw [hb] at he
  simp only at he
  refine calls_of_wp hf hb ?_
  have hbe : bdL h.next (args ++ List.replicate (fn.ntmps - args.length) undef) = true :=
    bdL_append hba (bdL_iff.2 fun x hx => by rw [List.eq_of_mem_replicate hx]; rfl)
  have her : ERel μ (args ++ List.replicate (fn.ntmps - args.length) undef) { tmps := args'.toArray ++ Array.replicate (fn.ntmps - args'.toArray.size) undef, defers := [] } := by
    refine ⟨?_, rfl⟩
    have h1 : args.length = args'.length := r.1
    simp only [Array.toList_append, Array.toList_replicate, List.size_toArray]
    rw [h1]
    exact r.append (LRel.replicate μ _ (VRel.undef μ))
  cases hc : codeA P C c (args ++ List.replicate (fn.ntmps - args.length) undef) h with
  | none => rw [hc] at he; cases he
  | some y =>
    obtain ⟨ex, e1, h1⟩ := y
    rw [hc] at he
    have hgrow : resultsA P fn.results.toList e1 h1 = some (v, h') := by
      cases ex with
      | normal => exact he
      | ret => exact he
      | exit i => cases he
    obtain rfl := resultsA_grow hgrow
    refine codeA_sound hC hm c hok _ _ _ _ _ _ _ _ _ hc hg hbe hbh S hfr her ?_
    rintro a' w' ⟨μ', hS, hSt, hr⟩
    obtain ⟨v', h3, h4⟩ := resultsA_sound hS hr hgrow
    cases ex with
    | normal => exact ⟨hr.2, v', h3, μ', v', rfl, hS, hSt, h4⟩
    | ret => exact ⟨hr.2, v', h3, μ', v', rfl, hS, hSt, h4⟩
    | exit i => cases he

/-! Values with other block numbers. -/
mutual
def renV (r : Nat → Nat) : Value → Value
  | .pointer (some a) => .pointer (some ⟨r a.block, a.off, a.spot⟩)
  | .slice (some a) l c => .slice (some ⟨r a.block, a.off, a.spot⟩) l c
  | .agg ⟨l⟩ => .agg ⟨renL r l⟩
  | .tuple ⟨l⟩ => .tuple ⟨renL r l⟩
  | .func f ⟨a⟩ ⟨b⟩ => .func f ⟨renL r a⟩ ⟨renL r b⟩
  | .iface t v => .iface t (renV r v)
  | v => v
def renL (r : Nat → Nat) : List Value → List Value
  | [] => []
  | x :: l => renV r x :: renL r l
end

theorem renL_map (r : Nat → Nat) : ∀ l, renL r l = l.map (renV r)
  | [] => rfl
  | x :: l => by simp [renL, renL_map r l]

theorem flat_ren (r : Nat → Nat) (v : Value) (h : flat (renV r v) = true) : flat v = true ∧ renV r v = v := by
  cases v with
  | pointer p => cases p with
    | none => exact ⟨rfl, rfl⟩
    | some a => simp [renV, flat] at h
  | slice p l c => cases p with
    | none => exact ⟨rfl, rfl⟩
    | some a => simp [renV, flat] at h
  | agg a => obtain ⟨l⟩ := a; simp [renV, flat] at h
  | tuple a => obtain ⟨l⟩ := a; simp [renV, flat] at h
  | func f a b =>
    obtain ⟨a⟩ := a
    obtain ⟨b⟩ := b
    cases f with
    | func i =>
      simp only [renV, flat, Bool.and_eq_true, List.isEmpty_toArray, List.isEmpty_iff, renL_map, List.map_eq_nil_iff] at h
      obtain ⟨rfl, rfl⟩ := h
      exact ⟨rfl, rfl⟩
    | _ => simp [renV, flat] at h
  | iface t v => simp [renV, flat] at h
  | _ => exact ⟨h, rfl⟩

theorem LRel.of_ren {μ : Mu} {r : Nat → Nat} {l l' : List Value} (h : LRel μ (renL r l) l') (ih : ∀ x ∈ l, ∀ y, VRel μ (renV r x) y → VRel (fun b => μ (r b)) x y) : LRel (fun b => μ (r b)) l l' := by
  rw [renL_map] at h
  refine ⟨by have := h.1; simpa using this, fun i x y hx hy => ?_⟩
  exact ih x (List.mem_of_getElem? hx) y (h.2 i (renV r x) y (by simp [hx]) hy)

mutual
theorem VRel.of_ren {μ : Mu} {r : Nat → Nat} : ∀ (v : Value) {v' : Value}, VRel μ (renV r v) v' → VRel (fun b => μ (r b)) v v'
  | .pointer none, v', h => by have := h.flat_eq rfl; subst this; exact .flat rfl
  | .pointer (some ⟨b, o, s⟩), v', h => by
    simp only [renV] at h
    cases h with
    | flat h => simp [flat] at h
    | ptr h => exact .ptr h
  | .slice none l c, v', h => by have := h.flat_eq rfl; subst this; exact .flat rfl
  | .slice (some ⟨b, o, s⟩) l c, v', h => by
    simp only [renV] at h
    cases h with
    | flat h => simp [flat] at h
    | slice h => exact .slice h
    | hid h a b c d e => exact .hid h a b c d e
    | hemp h => exact .hemp h
  | .agg ⟨l⟩, v', h => by
    simp only [renV] at h
    obtain ⟨ys, rfl, hl⟩ := h.agg_iff
    exact .of_list_agg (LRel.of_ren' l hl)
  | .tuple ⟨l⟩, v', h => by
    simp only [renV] at h
    obtain ⟨ys, rfl, hl⟩ := h.tuple_iff
    exact .of_list_tuple (LRel.of_ren' l hl)
  | .func f ⟨a⟩ ⟨b⟩, v', h => by
    by_cases hf : flat (renV r (.func f ⟨a⟩ ⟨b⟩)) = true
    · obtain ⟨h1, h2⟩ := flat_ren r _ hf
      have h3 := h.flat_eq hf
      rw [h2] at h3
      subst h3
      exact .flat h1
    · simp only [renV] at h hf
      cases h with
      | flat h => exact absurd h hf
      | @func _ _ ys _ zs h1 h2 h3 h4 =>
        have q1 : LRel μ (renL r a) ys.toList := ⟨by simpa using h1, fun i x y hx hy => h2 i x y (by simpa using hx) (by simpa using hy)⟩
        have q2 : LRel μ (renL r b) zs.toList := ⟨by simpa using h3, fun i x y hx hy => h4 i x y (by simpa using hx) (by simpa using hy)⟩
        have p1 := LRel.of_ren' a q1
        have p2 := LRel.of_ren' b q2
        exact .func (by simpa using p1.1) (fun i x y hx hy => p1.2 i x y (by simpa using hx) (by simpa using hy)) (by simpa using p2.1) (fun i x y hx hy => p2.2 i x y (by simpa using hx) (by simpa using hy))
  | .iface t v, v', h => by
    simp only [renV] at h
    cases h with
    | flat h => simp [flat] at h
    | iface h => exact .iface (VRel.of_ren v h)
  | .bool _, v', h => by have := h.flat_eq rfl; subst this; exact .flat rfl
  | .int _ _, v', h => by have := h.flat_eq rfl; subst this; exact .flat rfl
  | .float _ _, v', h => by have := h.flat_eq rfl; subst this; exact .flat rfl
  | .complex _ _ _, v', h => by have := h.flat_eq rfl; subst this; exact .flat rfl
  | .string _, v', h => by have := h.flat_eq rfl; subst this; exact .flat rfl
  | .map none, v', h => by have := h.flat_eq rfl; subst this; exact .flat rfl
  | .map (some _), v', h => by
    simp only [renV] at h
    cases h with
    | flat h => simp [flat] at h
  | .chan none, v', h => by have := h.flat_eq rfl; subst this; exact .flat rfl
  | .chan (some _), v', h => by
    simp only [renV] at h
    cases h with
    | flat h => simp [flat] at h
  | .nilFunc, v', h => by have := h.flat_eq rfl; subst this; exact .flat rfl
  | .nilIface, v', h => by have := h.flat_eq rfl; subst this; exact .flat rfl
theorem LRel.of_ren' {μ : Mu} {r : Nat → Nat} : ∀ (l : List Value) {l' : List Value}, LRel μ (renL r l) l' → LRel (fun b => μ (r b)) l l'
  | [], l', h => by
    have := h.1
    simp only [renL, List.length_nil] at this
    obtain rfl := List.eq_nil_of_length_eq_zero this.symm
    exact LRel.nil _
  | x :: l, l', h => by
    simp only [renL] at h
    match l', h with
    | [], h => have := h.1; simp at this
    | y :: l', h => exact .cons (VRel.of_ren x h.head) (LRel.of_ren' l h.tail)
end

end Go.Abs
