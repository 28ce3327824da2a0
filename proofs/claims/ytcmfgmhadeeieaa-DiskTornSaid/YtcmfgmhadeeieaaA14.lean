/-
  The abstract machine: one step of a region whose order the tape draws.
  Conditions: the calls' summaries are sound (CSound).
-/
import Derived.Test.YtcmfgmhadeeieaaA13
namespace Go.Abs

section inv
variable {P : Program} {C : CallF} {ops : Array Oper} {l : List (Nat × Oper)} {E : Nat → Env} {H : Nat → Heap} {V : Nat → Value} {R : Nat → Bool} {μ0 : Mu} {w0 : World}
  {listed : Array Bool} {m : Nat} {G : Heap} {μ : Mu} {a : Act} {w : World} {p i : Nat} {o : Oper}

/-- The edges of an operation are listed. -/
def EdgesIn (o : Oper) (listed : Array Bool) : Prop := ∀ e ∈ o.after.toList, Region.binds .any e = true → listed.getD e.on false = true

theorem clash_left {x y : Nat × Oper} {t : Tmp} (hd : y.2.dst = some t) (ht : t ∈ namesA ops x.2) : clash P ops x y = true := by
  unfold clash
  rw [hd]
  simp [List.contains_iff_mem, ht]
theorem clash_right {x y : Nat × Oper} {t : Tmp} (hd : x.2.dst = some t) (ht : t ∈ namesA ops y.2) : clash P ops x y = true := by
  unfold clash
  rw [hd]
  simp [List.contains_iff_mem, ht]

/-- Who writes a temporary that a ready operation names is listed just if it stands ahead. -/
theorem Inv.writers (r : Reg P C ops l E H V R) (I : Inv P ops l E H V R μ0 w0 listed m G μ a w) (hx : l[p]? = some (i, o)) (hnl : listed.getD i false = false) (he : EdgesIn o listed) {t : Tmp} (ht : t ∈ namesA ops o) :
    ∀ q, q < l.length → (l[q]?).bind (·.2.dst) = some t → xsOf l listed q = decide (q < p) := by
  intro q hq hd
  have hy : l[q]? = some l[q] := List.getElem?_eq_getElem hq
  have hxs : xsOf l listed q = listed.getD l[q].1 false := by unfold xsOf; rw [hy]
  rw [hxs]
  rw [hy] at hd
  simp only [Option.bind_some] at hd
  have ho := r.at_ p i o hx
  rcases Nat.lt_trichotomy q p with h | h | h
  · obtain ⟨_, _, h3⟩ := r.ord q p _ _ h hy hx
    rcases h3 with h3 | h3
    · rw [I.ready ho he h3]; simp [h]
    · rw [clash_right (y := (i, o)) hd ht] at h3; cases h3
  · subst h
    rw [hx] at hy
    have : l[q] = (i, o) := by simpa using hy.symm
    rw [this]
    simp [hnl]
  · obtain ⟨_, _, h3⟩ := r.ord p q _ _ h hx hy
    rcases h3 with h3 | h3
    · cases hl : listed.getD l[q].1 false with
      | false => simp; omega
      | true => rw [I.before r hl h3] at hnl; cases hnl
    · rw [clash_left (x := (i, o)) hd ht] at h3; cases h3

theorem Inv.names (r : Reg P C ops l E H V R) (I : Inv P ops l E H V R μ0 w0 listed m G μ a w) (hx : l[p]? = some (i, o)) (hnl : listed.getD i false = false) (he : EdgesIn o listed) {t : Tmp} (ht : t ∈ namesA ops o) :
    (envS l V (xsOf l listed) (E 0) l.length)[t]? = (E p)[t]? := by
  have hp := Nat.le_of_lt (r.lt hx)
  rw [tra_env r.tra rfl p hp, ← envS_first (x := fun q => decide (q < p)) l.length hp (fun _ => rfl)]
  exact envS_congr _ (I.writers r hx hnl he ht)

/-- Listing one more operation writes its value. -/
theorem Inv.listing (r : Reg P C ops l E H V R) (I : Inv P ops l E H V R μ0 w0 listed m G μ a w) (hx : l[p]? = some (i, o)) (hnl : listed.getD i false = false) (he : EdgesIn o listed) :
    envS l V (xsOf l (listed.setIfInBounds i true)) (E 0) l.length = putD (envS l V (xsOf l listed) (E 0) l.length) o.dst (V p) := by
  have ho := r.at_ p i o hx
  have hi : i < ops.size := (Array.getElem?_eq_some_iff.1 ho).1
  have hp := r.lt hx
  have hself : xsOf l (listed.setIfInBounds i true) p = true := by
    unfold xsOf
    rw [hx]
    have : i < listed.size := by rw [I.size]; exact hi
    simp [this]
  have hother : ∀ q, q ≠ p → xsOf l (listed.setIfInBounds i true) q = xsOf l listed q := by
    intro q hq
    unfold xsOf
    cases hy : l[q]? with
    | none => rfl
    | some y =>
      have hne : i ≠ y.1 := by
        rcases Nat.lt_or_gt_of_ne hq with h | h
        · exact (r.ord q p _ _ h hy hx).1.symm
        · exact (r.ord p q _ _ h hx hy).1
      exact getD_set_ne false hne
  apply List.ext_getElem?
  intro t
  by_cases hd : o.dst = some t
  · have ht : t ∈ namesA ops o := by unfold namesA; rw [hd]; simp
    have h1 : (envS l V (xsOf l (listed.setIfInBounds i true)) (E 0) l.length)[t]? = (E (p + 1))[t]? := by
      rw [tra_env r.tra rfl (p + 1) hp, ← envS_first (x := fun q => decide (q < p + 1)) l.length hp (fun _ => rfl)]
      refine envS_congr _ fun q hq hdq => ?_
      by_cases e : q = p
      · subst e; rw [hself]; simp
      · rw [hother q e, I.writers r hx hnl he ht q hq hdq]
        simp only [decide_eq_decide]
        omega
    rw [h1, (r.tra.step p _ hx).2.1]
    simp only [hd, putD]
    rw [List.getElem?_set, List.getElem?_set, if_pos rfl, if_pos rfl, tra_env r.tra rfl p (Nat.le_of_lt hp), length_envS, length_envS]
  · have h1 : (putD (envS l V (xsOf l listed) (E 0) l.length) o.dst (V p))[t]? = (envS l V (xsOf l listed) (E 0) l.length)[t]? := by
      cases hz : o.dst with
      | none => rfl
      | some u =>
        have : u ≠ t := by rintro rfl; exact hd hz
        simp only [putD]
        rw [List.getElem?_set_ne this]
    rw [h1]
    refine envS_congr _ fun q hq hdq => hother q ?_
    rintro rfl
    rw [hx] at hdq
    exact hd (by simpa using hdq)

/-- The operands of a ready operation read as in the one order. -/
theorem Inv.operands (r : Reg P C ops l E H V R) (I : Inv P ops l E H V R μ0 w0 listed m G μ a w) (hx : l[p]? = some (i, o)) (hnl : listed.getD i false = false) (he : EdgesIn o listed) (hg : P.globals.size ≤ (H 0).n0) :
    ∀ x ∈ o.op.operands.toList, VRel μ (ev (E p) x) (a.eval x) := by
  intro x hm
  have ho := r.at_ p i o hx
  have hok := List.all_eq_true.1 (r.ok o (by rw [Array.mem_toList_iff]; exact Array.mem_of_getElem? ho)) x hm
  have hv := ev_rel I.sim (by rw [I.gn0]; exact hg) I.env hok
  have he' : ev (E p) x = ev (envS l V (xsOf l listed) (E 0) l.length) x := by
    cases x with
    | tmp t =>
      have ht : t ∈ namesA ops o := by
        unfold namesA opTmps
        simp only [List.mem_append, List.mem_filterMap]
        exact .inl (.inr ⟨.tmp t, hm, rfl⟩)
      simp only [ev, List.getD_eq_getElem?_getD, I.names r hx hnl he ht]
    | _ => rfl
  rw [he']; exact hv

/-- Whether a ready operation runs is as in the one order. -/
theorem Inv.wanted (r : Reg P C ops l E H V R) (I : Inv P ops l E H V R μ0 w0 listed m G μ a w) (hx : l[p]? = some (i, o)) (hnl : listed.getD i false = false) (he : EdgesIn o listed) :
    Region.wanted o (yielded ops a.tmps) = R p := by
  rw [← want_rel I.env, (r.tra.step p _ hx).1]
  unfold wantA
  cases hgd : o.guard with
  | none => rfl
  | some g =>
    obtain ⟨j, b⟩ := g
    simp only
    congr 1
    unfold yieldA
    cases hd : (ops[j]?).bind (·.dst) with
    | none => rfl
    | some t =>
      have ht : t ∈ namesA ops o := by
        unfold namesA guardTmp
        rw [hgd]
        simp [hd]
      simp only [Option.bind_some, I.names r hx hnl he ht]

/-- An operation that runs on fewer blocks, in the whole heap. -/
theorem Inv.run (r : Reg P C ops l E H V R) (I : Inv P ops l E H V R μ0 w0 listed m G μ a w) (hx : l[p]? = some (i, o)) (hnl : listed.getD i false = false) (he : EdgesIn o listed) (hg : P.globals.size ≤ (H 0).n0)
    {hs h1 : Heap} (hsub : Sub hs G) (hbd : kindOf P o = .eff → (∀ x ∈ o.op.operands.toList, bdV hs.next (ev (E p) x) = true) ∧ HeapBd hs) (hop : opA P C o (ev (E p)) hs = some (V p, h1)) (hfree : Free μ hs h1) (hlo : (H 0).next ≤ hs.next) (hhi : h1.next ≤ G.next)
    {K : Act → World → Prop} {Q : Exit → Act → World → Prop}
    (hK : ∀ μ1 v' w1 G', Sim μ1 G' w1 → Step μ0 (H 0) w0 μ1 G' w1 → VRel μ1 (V p) v' → ERel μ1 (envS l V (xsOf l (listed.setIfInBounds i true)) (E 0) l.length) (a.put o.dst v') → G'.n0 = G.n0 → G'.old = G.old → G'.next = G.next →
      (∀ b k, G.n0 ≤ b → h1.get b = some k → G'.get b = some k) → (∀ b k, G.n0 ≤ b → G.get b = some k → hs.get b = none → (b < hs.next ∨ h1.next ≤ b) → h1.get b = none → G'.get b = some k) →
      (∀ b, b < hs.next ∨ h1.next ≤ b → μ1 b = μ b) → K (a.put o.dst v') w1) : o.wp P a w K Q := by
  refine opA_sound r.hC (I.sim.sub hsub) hfree (I.operands r hx hnl he hg) (by rw [hsub.1, I.gn0]; exact hg) (fun c f h1 h2 => hbd (by unfold kindOf; rw [h1]; simp only; rw [h2])) hop K Q ?_
  intro μ1 v' w1 hS hSt hv
  obtain ⟨g1, g2, g3, g4⟩ := heapOf_spec G.n0 G.old (fun b => match h1.get b with
    | some k => some k
    | none => if (hs.get b).isSome ∨ (hs.next ≤ b ∧ b < h1.next) then none else G.get b) (G.next - G.n0)
  have hnn : G.n0 + (G.next - G.n0) = G.next := by have := G.n0_le_next; omega
  rw [hnn] at g3 g4
  generalize heapOf G.n0 G.old (fun b => match h1.get b with
    | some k => some k
    | none => if (hs.get b).isSome ∨ (hs.next ≤ b ∧ b < h1.next) then none else G.get b) (G.next - G.n0) = G' at g1 g2 g3 g4
  have fr : Framed G hs h1 G' := by
    refine ⟨g1, g2, fun b k hb hgb => ?_⟩
    rw [g4 b (g1 ▸ hb)] at hgb
    split at hgb
    · split at hgb
      · rename_i k' hk'; cases hgb; exact .inl hk'
      · split at hgb
        · cases hgb
        · rename_i hc
          simp only [not_or, not_and, Nat.not_lt] at hc
          refine .inr ⟨hgb, ?_, ?_⟩
          · cases hq : hs.get b with
            | none => rfl
            | some _ => exact absurd (by rw [hq]; rfl) hc.1
          · rcases Nat.lt_or_ge b hs.next with h | h
            · exact .inl h
            · exact .inr (hc.2 h)
    · cases hgb
  have hS' := I.sim.frame hsub hSt hS hfree fr
  have hSt' := I.stp.frame hsub hSt fr g3 hlo hhi
  refine hK μ1 v' w1 G' hS' hSt' hv ?_ g1 g2 g3 ?_ ?_ hSt.ext
  · rw [I.listing r hx hnl he]
    exact (I.env.mono (hSt.mono hfree)).put o.dst hv
  · intro b k hb hgb
    rw [g4 b hb, if_pos (Nat.lt_of_lt_of_le (h1.lt_of_get hgb) hhi), hgb]
  · intro b k hb hgb hn hr h1n
    rw [g4 b hb, if_pos (G.lt_of_get hgb), h1n]
    rw [if_neg ?_]
    · exact hgb
    · rintro (h | h)
      · rw [hn] at h; cases h
      · omega

theorem set_getD {listed : Array Bool} {i j : Nat} (hi : i < listed.size) : (listed.setIfInBounds i true).getD j false = true ↔ j = i ∨ listed.getD j false = true := by
  by_cases e : i = j
  · subst e; simp [hi]
  · rw [getD_set_ne false e]
    constructor
    · intro h; exact .inr h
    · rintro (h | h)
      · exact absurd h.symm e
      · exact h

theorem Inv.closed' (r : Reg P C ops l E H V R) (I : Inv P ops l E H V R μ0 w0 listed m G μ a w) (hx : l[p]? = some (i, o)) (he : EdgesIn o listed) :
    ∀ (j : Nat) (u : Oper), (listed.setIfInBounds i true).getD j false = true → ops[j]? = some u → ∀ e ∈ u.after.toList, Region.binds .any e = true → (listed.setIfInBounds i true).getD e.on false = true := by
  have ho := r.at_ p i o hx
  have hi : i < listed.size := by rw [I.size]; exact (Array.getElem?_eq_some_iff.1 ho).1
  intro j u hj hu e hm hb
  rw [set_getD hi] at hj ⊢
  rcases hj with rfl | hj
  · rw [ho] at hu; cases hu
    exact .inr (he e hm hb)
  · exact .inr (I.closed j u hj hu e hm hb)

end inv
end Go.Abs
