/-
  The abstract machine: contracts of functions, and how one is shown of a function's body.
  Conditions: as each theorem states.
-/
import Derived.Test.YtcmfgmhadeeieaaA19
namespace Go.Abs

mutual
theorem renV_id {r : Nat → Nat} {n : Nat} (hr : ∀ b, b < n → r b = b) : ∀ (v : Value), bdV n v = true → renV r v = v
  | .pointer none, _ => rfl
  | .pointer (some ⟨b, o, s⟩), h => by simp only [bdV, decide_eq_true_eq] at h; simp only [renV, hr b h]
  | .slice none l c, _ => rfl
  | .slice (some ⟨b, o, s⟩) l c, h => by simp only [bdV, decide_eq_true_eq] at h; simp only [renV, hr b h]
  | .agg ⟨l⟩, h => by simp only [renV]; rw [renL_id hr l h]
  | .tuple ⟨l⟩, h => by simp only [renV]; rw [renL_id hr l h]
  | .func f ⟨a⟩ ⟨b⟩, h => by simp only [bdV, Bool.and_eq_true] at h; simp only [renV]; rw [renL_id hr a h.1, renL_id hr b h.2]
  | .iface t v, h => by simp only [bdV] at h; simp only [renV]; rw [renV_id hr v h]
  | .bool _, _ => rfl
  | .int _ _, _ => rfl
  | .float _ _, _ => rfl
  | .complex _ _ _, _ => rfl
  | .string _, _ => rfl
  | .map _, _ => rfl
  | .chan _, _ => rfl
  | .nilFunc, _ => rfl
  | .nilIface, _ => rfl
theorem renL_id {r : Nat → Nat} {n : Nat} (hr : ∀ b, b < n → r b = b) : ∀ (l : List Value), bdL n l = true → renL r l = l
  | [], _ => rfl
  | x :: l, h => by
    simp only [bdL, Bool.and_eq_true] at h
    simp only [renL]
    rw [renV_id hr x h.1, renL_id hr l h.2]
end

/-- What a run left is what is told, but for blocks that nobody knows, and for the new blocks' numbers. -/
structure Gc (h : Heap) (v : Value) (h' : Heap) (v1 : Value) (h1 : Heap) (r : Nat → Nat) : Prop where
  low : ∀ b, b < h.next → r b = b
  new : ∀ b, h.next ≤ b → b < h'.next → h.next ≤ r b
  inj : ∀ b b', h.next ≤ b → b < h'.next → h.next ≤ b' → b' < h'.next → r b = r b' → b = b'
  val : v1 = renV r v
  get : ∀ b k, h'.n0 ≤ b → h'.get b = some k → h1.get (r b) = some (renL r k)

theorem gc_sound {μ μ1 : Mu} {h h' h1 : Heap} {w w' : World} {v v1 v' : Value} {r : Nat → Nat} (G : Gc h v h' v1 h1 r) (gr : Grow h h') (gr1 : Grow h h1) (hbh : HeapBd h) (hbh' : HeapBd h') (hbv : bdV h'.next v = true)
    (S1 : Sim μ1 h1 w') (St : Step (μ.cut h.next) h w μ1 h1 w') (hv : VRel μ1 v1 v') :
    ∃ μ', Sim μ' h' w' ∧ Step μ h w μ' h' w' ∧ VRel μ' v v' := by
  have hle := h.n0_le_next
  let μ' : Mu := fun b => if b < h.next then μ b else if b < h'.next then μ1 (r b) else μ b
  have e1 : ∀ b, b < h.next → μ1 b = μ b := fun b hb => by rw [St.ext b (.inl hb)]; simp [Mu.cut, hb]
  have e2 : ∀ b, b < h'.next → μ' b = μ1 (r b) := by
    intro b hb
    by_cases hb1 : b < h.next
    · rw [G.low b hb1, e1 b hb1]; simp [μ', hb1]
    · simp [μ', hb1, hb]
  have up : ∀ b L, Mu.cut (fun b => μ1 (r b)) h'.next b = some L → μ' b = some L := by
    intro b L hb
    obtain ⟨h2, h3⟩ := Mu.cut_le hb
    rw [e2 b h3]; exact h2
  have relL : ∀ {k l : List Value}, bdL h'.next k = true → LRel μ1 (renL r k) l → LRel μ' k l := fun hb hl => ((LRel.of_ren' _ hl).cut hb).mono up
  have relV : ∀ {k l : Value}, bdV h'.next k = true → VRel μ1 (renV r k) l → VRel μ' k l := fun hb hl => ((VRel.of_ren _ hl).cut hb).mono up
  have n1 : h1.n0 = h'.n0 := gr1.2.1.trans gr.2.1.symm
  have n2 : h'.n0 = h.n0 := gr.2.1
  have rge : ∀ b, h'.n0 ≤ b → b < h'.next → h'.n0 ≤ r b := by
    intro b hb hbn
    by_cases hb1 : b < h.next
    · rw [G.low b hb1]; exact hb
    · have := G.new b (by omega) hbn; omega
  have rinj : ∀ b b', b < h'.next → b' < h'.next → r b = r b' → b = b' := by
    intro b b' hb hb' he
    by_cases c1 : b < h.next
    · by_cases c2 : b' < h.next
      · rw [G.low b c1, G.low b' c2] at he; exact he
      · have := G.new b' (by omega) hb'; rw [G.low b c1] at he; omega
    · by_cases c2 : b' < h.next
      · have := G.new b (by omega) hb; rw [G.low b' c2] at he; omega
      · exact G.inj b b' (by omega) hb (by omega) hb' he
  refine ⟨μ', ⟨?_, ?_, ?_, ?_, ?_⟩, ?_, ?_⟩
  · intro b cs hb hc
    have hbl : b < h.next := by omega
    obtain ⟨L, arr, T, fr, h2, h3, h4, h5, h6⟩ := S1.old b cs (n1 ▸ hb) (by rw [gr1.2.2, ← gr.2.2]; exact hc)
    have hbd : bdL h.next cs = true := by
      refine hbh b cs ?_
      unfold Heap.get
      rw [if_pos (n2 ▸ hb), ← gr.2.2]; exact hc
    refine ⟨L, arr, T, fr, ?_, h3, h4, h5, ?_⟩
    · rw [e2 b (by have := gr.1; omega), G.low b hbl]; exact h2
    · exact relL (bdL_mono gr.1 hbd) (by rw [renL_id G.low cs hbd]; exact h6)
  · intro b k hb hg
    have hbn := h'.lt_of_get hg
    obtain ⟨L, arr, T, fr, h2, h3, h4, h5, h6, h7, h8, h9⟩ := S1.new (r b) _ (n1 ▸ rge b hb hbn) (G.get b k hb hg)
    refine ⟨L, arr, T, fr, by rw [e2 b hbn]; exact h2, by rw [h3, renL_map]; simp, h4, h5, h6, h7, n1 ▸ h8, relL (hbh' b k hg) h9⟩
  · intro b b' k k' L L' hb hb' hne hg hg' hL hL'
    have hbn := h'.lt_of_get hg
    have hbn' := h'.lt_of_get hg'
    rw [e2 b hbn] at hL
    rw [e2 b' hbn'] at hL'
    exact S1.inj (r b) (r b') _ _ L L' (n1 ▸ rge b hb hbn) (n1 ▸ rge b' hb' hbn') (fun he => hne (rinj b b' hbn hbn' he)) (G.get b k hb hg) (G.get b' k' hb' hg') hL hL'
  · rw [← n1]; exact S1.size
  · intro b hb
    obtain ⟨L, h2, h3⟩ := S1.low b (n1 ▸ hb)
    exact ⟨L, by rw [e2 b (by have := gr.1; omega), G.low b (by omega)]; exact h2, h3⟩
  · have ownup : ∀ B, Own (μ.cut h.next) h B → Own μ h B := by
      rintro B ⟨b, k, L, h2, h3, h4, h5⟩
      exact ⟨b, k, L, h2, h3, (Mu.cut_le h4).1, h5⟩
    have owndn : ∀ B, Own μ h B → Own (μ.cut h.next) h B := by
      rintro B ⟨b, k, L, h2, h3, h4, h5⟩
      exact ⟨b, k, L, h2, h3, Mu.cut_some h4 (h.lt_of_get h3), h5⟩
    refine ⟨?_, gr.2.1, gr.2.2, gr.1, St.os, St.tape, St.output, St.size, fun B hB hO => St.same B hB (fun h2 => hO (ownup B h2)), ?_⟩
    · intro b hb
      simp only [μ']
      rcases hb with hb | hb
      · rw [if_pos hb]
      · rw [if_neg (by have := gr.1; omega), if_neg (by omega)]
    · rintro B ⟨b, k, L, h2, h3, h4, h5⟩
      have hbn := h'.lt_of_get h3
      rw [e2 b hbn] at h4
      exact (St.own B ⟨r b, _, L, n1 ▸ rge b h2 hbn, G.get b k h2 h3, h4, h5⟩).imp (ownup B) id
  · exact relV hbv (G.val ▸ hv)

/-- A function does what is told of it. -/
structure Contract (P : Program) (f : FuncId) (s : List Value → Heap → Out) : Prop where
  fn : ∃ fn, P.funcs[f]? = some fn ∧ (fn.name == "runtime.NumGoroutine") = false ∧ fn.body.isNone = false
  grow : ∀ args h v h', s args h = some (v, h') → Grow h h'
  bd : ∀ args h v h', s args h = some (v, h') → bdL h.next args = true → HeapBd h → bdV h'.next v = true ∧ HeapBd h'
  run : ∀ args h v h', s args h = some (v, h') → bdL h.next args = true → HeapBd h → P.globals.size ≤ h.n0 → ∀ μ w args', Sim μ h w → Free μ h h' → LRel μ args args' →
    Calls P f args'.toArray w fun e w' => ∃ μ' v', e = .returned v' ∧ Sim μ' h' w' ∧ Step μ h w μ' h' w' ∧ VRel μ' v v'

theorem Contract.of_body {P : Program} {C : CallF} (hC : CSound P C) (hm : P.follows .mixedOrders = true) {f : FuncId} {fn : Func} {c : Code} {s : List Value → Heap → Out}
    (hf : P.funcs[f]? = some fn) (hn : (fn.name == "runtime.NumGoroutine") = false) (hb : fn.body = some c) (hok : codeOk P c = true)
    (grow : ∀ args h v h', s args h = some (v, h') → Grow h h')
    (bd : ∀ args h v h', s args h = some (v, h') → bdL h.next args = true → HeapBd h → bdV h'.next v = true ∧ HeapBd h')
    (body : ∀ args h v h', s args h = some (v, h') → bdL h.next args = true → HeapBd h → P.globals.size ≤ h.n0 → ∃ v1 h1 r, bodyK P C fn args h = some (v1, h1) ∧ Gc h v h' v1 h1 r) : Contract P f s where
  fn := ⟨fn, hf, hn, by rw [hb]; rfl⟩
  grow := grow
  bd := bd
  run := by
    intro args h v h' hs hba hbh hg μ w args' S hfr r
    obtain ⟨v1, h1, rr, he, G⟩ := body args h v h' hs hba hbh hg
    rw [bodyK_eq] at he
    have gr1 : Grow h h1 := by
      unfold bodyA at he
      rw [hb] at he
      simp only at he
      cases hc : codeA P C c (args ++ List.replicate (fn.ntmps - args.length) undef) h with
      | none => rw [hc] at he; cases he
      | some y =>
        obtain ⟨ex, e1, h2⟩ := y
        rw [hc] at he
        have hgrow : resultsA P fn.results.toList e1 h2 = some (v1, h1) := by
          cases ex with
          | normal => exact he
          | ret => exact he
          | exit i => cases he
        rw [resultsA_grow hgrow]
        exact codeA_grow hC c hc
    have hcut : Free (μ.cut h.next) h h1 := fun b hb _ => by simp [Mu.cut, Nat.not_lt.2 hb]
    refine (body_sound hC hm hf hb hok he hg hba hbh (S.cut hbh) hcut (r.cut hba)).mono ?_
    rintro e w' ⟨μ1, v', rfl, S1, St, hv⟩
    obtain ⟨hb1, hb2⟩ := bd args h v h' hs hba hbh
    obtain ⟨μ', h2, h3, h4⟩ := gc_sound G (grow args h v h' hs) gr1 hbh hb2 hb1 S1 St hv
    exact ⟨μ', v', rfl, h2, h3, h4⟩

/-- Calls by a list of what is told of functions. -/
def callL : List (FuncId × (List Value → Heap → Out)) → CallF
  | [], _, _, _ => none
  | (g, s) :: t, f, args, h => if f = g then s args h else callL t f args h

theorem callL_sound {P : Program} : ∀ (l : List (FuncId × (List Value → Heap → Out))), (∀ p ∈ l, Contract P p.1 p.2) → CSound P (callL l)
  | [], _ => ⟨by simp [callL], by simp [callL], by simp [callL], by simp [callL]⟩
  | (g, s) :: t, hl => by
    have ih := callL_sound t (fun p hp => hl p (List.mem_cons_of_mem _ hp))
    have hg := hl (g, s) List.mem_cons_self
    refine ⟨?_, ?_, ?_, ?_⟩
    · intro f args h v h' he
      simp only [callL] at he
      split at he
      · rename_i e; subst e; exact hg.fn
      · exact ih.fn f args h v h' he
    · intro f args h v h' he
      simp only [callL] at he
      split at he
      · exact hg.grow args h v h' he
      · exact ih.grow f args h v h' he
    · intro f args h v h' he
      simp only [callL] at he
      split at he
      · exact hg.bd args h v h' he
      · exact ih.bd f args h v h' he
    · intro f args h v h' he
      simp only [callL] at he
      split at he
      · rename_i e; subst e; exact hg.run args h v h' he
      · exact ih.run f args h v h' he

/-- Nothing has been left, and nothing was written. -/
theorem Gc.none {h h1 : Heap} {v : Value} (hb : bdV h.next v = true) (hbh : HeapBd h) (hk : ∀ b k, h.n0 ≤ b → h.get b = some k → h1.get b = some k) : Gc h v h v h1 id where
  low _ _ := rfl
  new _ h1 h2 := by omega
  inj _ _ h1 h2 := by omega
  val := (renV_id (n := h.next) (fun _ _ => rfl) v hb).symm
  get b k h1 h2 := by rw [renL_id (r := id) (n := h.next) (fun _ _ => rfl) k (hbh b k h2)]; exact hk b k h1 h2

/-- The told heap is a part of the run's. -/
theorem Gc.sub {h h' h1 : Heap} {v : Value} (hb : bdV h'.next v = true) (hbh : HeapBd h') (hk : ∀ b k, h'.n0 ≤ b → h'.get b = some k → h1.get b = some k) : Gc h v h' v h1 id where
  low _ _ := rfl
  new _ h1 _ := h1
  inj _ _ _ _ _ _ h := h
  val := (renV_id (n := h'.next) (fun _ _ => rfl) v hb).symm
  get b k h1 h2 := by rw [renL_id (r := id) (n := h'.next) (fun _ _ => rfl) k (hbh b k h2)]; exact hk b k h1 h2

/-- One new block is left, under another number. -/
def ren1 (n B : Nat) : Nat → Nat := fun b => if b = n then B else b
theorem Gc.one {h hm h1 : Heap} {v v1 : Value} {k : Blk} {B : Nat} (hn : hm.next = h.next) (h0 : hm.n0 = h.n0) (hB : h.next ≤ B) (hbm : HeapBd hm) (hv : v1 = renV (ren1 h.next B) v) (hk : h1.get B = some (renL (ren1 h.next B) k))
    (hs : ∀ b k, h.n0 ≤ b → hm.get b = some k → h1.get b = some k) : Gc h v (hm.alloc k) v1 h1 (ren1 h.next B) where
  low b hb := by unfold ren1; rw [if_neg (by omega)]
  new b h2 h3 := by
    rw [Heap.next_alloc, hn] at h3
    unfold ren1
    rw [if_pos (by omega)]; exact hB
  inj b b' h2 h3 h4 h5 _ := by rw [Heap.next_alloc, hn] at h3 h5; omega
  val := hv
  get b k' h2 h3 := by
    rw [Heap.get_alloc, hn] at h3
    by_cases e : b = h.next
    · rw [if_pos e] at h3
      cases h3
      have : ren1 h.next B b = B := by unfold ren1; rw [if_pos e]
      rw [this]; exact hk
    · rw [if_neg e] at h3
      have hb := hm.lt_of_get h3
      have : ren1 h.next B b = b := by unfold ren1; rw [if_neg e]
      rw [this, renL_id (n := hm.next) (fun c hc => by unfold ren1; rw [if_neg (by omega)]) k' (hbm b k' h3)]
      exact hs b k' (by rw [Heap.n0_alloc, h0] at h2; exact h2) h3

end Go.Abs
