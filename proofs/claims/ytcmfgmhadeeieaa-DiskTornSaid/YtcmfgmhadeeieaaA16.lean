/-
  The abstract machine: regions, code and bodies do what the evaluator says.
  Conditions: the calls' summaries are sound (CSound); the program follows the mixed orders.
-/
import Derived.Test.YtcmfgmhadeeieaaA15
namespace Go.Abs

section any
variable {P : Program} {C : CallF} {ops : Array Oper} {l : List (Nat × Oper)} {E : Nat → Env} {H : Nat → Heap} {V : Nat → Value} {R : Nat → Bool} {μ0 : Mu} {w0 : World}

theorem Reg.any (r : Reg P C ops l E H V R) (hg : P.globals.size ≤ (H 0).n0) {Q : Exit → Act → World → Prop}
    (hQ : ∀ μ a w, Sim μ (H l.length) w → Step μ0 (H 0) w0 μ (H l.length) w → ERel μ (E l.length) a → Q .normal a w) :
    ∀ (fuel : Nat) (L : List Nat) (listed : Array Bool) (m : Nat) (G : Heap) (μ : Mu) (a : Act) (w : World), Inv P ops l E H V R μ0 w0 listed m G μ a w →
      (∀ i, i < ops.size → listed.getD i false = false → i ∈ L) → L.length ≤ fuel → wpAny P .any ops Q fuel listed a w := by
  -- nothing is ready just where all is listed
  have all_listed : ∀ {listed : Array Bool} {m : Nat} {G : Heap} {μ : Mu} {a : Act} {w : World}, Inv P ops l E H V R μ0 w0 listed m G μ a w → Region.ready .any ops listed = [] → ∀ i, i < ops.size → listed.getD i false = true := by
    intro listed m G μ a w I hr i
    induction i using Nat.strongRecOn with
    | _ i ih =>
      intro hi
      cases hl : listed.getD i false with
      | true => rfl
      | false =>
        have ho : ops[i]? = some ops[i] := Array.getElem?_eq_getElem hi
        have : i ∈ Region.ready .any ops listed := by
          rw [mem_ready]
          refine ⟨?_, ops[i], ho, fun e he hb => ?_⟩
          · have hs : i < listed.size := by rw [I.size]; exact hi
            simpa [hs] using hl
          · have hlt := r.fwd i _ ho e (by simpa using he) hb
            exact ih e.on hlt (by omega)
        rw [hr] at this; cases this
  have fin : ∀ {listed : Array Bool} {m : Nat} {G : Heap} {μ : Mu} {a : Act} {w : World}, Inv P ops l E H V R μ0 w0 listed m G μ a w → Region.ready .any ops listed = [] → Q .normal a w := by
    intro listed m G μ a w I hr
    have hall := all_listed I hr
    have hl : ∀ (q : Nat) (x : Nat × Oper), l[q]? = some x → listed.getD x.1 false = true := by
      intro q x hx
      exact hall x.1 (Array.getElem?_eq_some_iff.1 (r.at_ q x.1 x.2 hx)).1
    have I' := I.advance r I.le (Nat.le_refl _)
      (fun q x h1 h2 h3 h4 => by have := (I.effs q x h3 h4).1 (hl q x h3); omega)
      (fun q x _ _ h3 _ => hl q x h3) (fun q x h1 h2 _ => by have := r.lt h2; omega)
    have hsub := I'.sub r
    have hS := I.sim.sub hsub
    refine hQ μ a w hS ?_ ?_
    · have st := I.stp
      obtain ⟨e1, e2⟩ := r.n0 (Nat.le_refl l.length)
      refine ⟨?_, e1, e2, r.nexts (Nat.zero_le _) (Nat.le_refl _), st.os, st.tape, st.output, st.size, st.same, ?_⟩
      · intro b hb
        rw [← I.gnext] at hb
        exact st.ext b hb
      · intro B hB
        exact st.own B (hB.sub hsub)
    · have henv := I.env
      have : envS l V (xsOf l listed) (E 0) l.length = E l.length := by
        rw [tra_env r.tra rfl l.length (Nat.le_refl _)]
        apply List.ext_getElem?
        intro t
        refine envS_congr _ fun q hq _ => ?_
        unfold xsOf
        rw [List.getElem?_eq_getElem hq]
        exact hl q _ (List.getElem?_eq_getElem hq)
      rw [this] at henv
      exact henv
  intro fuel
  induction fuel with
  | zero =>
    intro L listed m G μ a w I hL hlen
    have hnil : L = [] := List.eq_nil_of_length_eq_zero (by omega)
    have hready : Region.ready .any ops listed = [] := by
      apply List.eq_nil_iff_forall_not_mem.2
      intro i hi
      rw [mem_ready] at hi
      obtain ⟨h1, o, ho, _⟩ := hi
      have hlt := (Array.getElem?_eq_some_iff.1 ho).1
      have := hL i hlt (by
        have hs : i < listed.size := by rw [I.size]; exact hlt
        simpa [hs] using h1)
      rw [hnil] at this; cases this
    exact ⟨hready, fin I hready⟩
  | succ fuel ih =>
    intro L listed m G μ a w I hL hlen
    refine ⟨fin I, ?_⟩
    intro i hi
    rw [mem_ready] at hi
    obtain ⟨h1, o, ho, he⟩ := hi
    have hlt := (Array.getElem?_eq_some_iff.1 ho).1
    have hs : i < listed.size := by rw [I.size]; exact hlt
    have hnl : listed.getD i false = false := by simpa [hs] using h1
    obtain ⟨p, hp⟩ := r.pos i o ho
    refine I.step r hp hnl (fun e hm hb => he e (by simpa using hm) hb) hg ?_
    intro m' G' μ' a' w' I'
    refine ih (L.erase i) _ m' G' μ' a' w' I' ?_ ?_
    · intro j hj hjl
      have hne : j ≠ i := by
        rintro rfl
        have := (set_getD (j := j) hs).2 (.inl rfl)
        rw [this] at hjl; cases hjl
      refine (List.mem_erase_of_ne hne).2 (hL j hj ?_)
      cases hq : listed.getD j false with
      | false => rfl
      | true => have := (set_getD (j := j) hs).2 (.inr hq); rw [this] at hjl; cases hjl
    · rw [List.length_erase_of_mem (hL i hlt hnl)]; omega
end any

theorem zip_map_range {α : Type} (l : List (Nat × Oper)) (f : Nat → α) : ∀ (p : Nat) (x : Nat × Oper), l[p]? = some x → (l.zip ((List.range l.length).map f))[p]? = some (x, f p) := by
  intro p x hx
  have hp : p < l.length := (List.getElem?_eq_some_iff.1 hx).1
  rw [List.getElem?_zip_eq_some]
  exact ⟨hx, by rw [List.getElem?_map, List.getElem?_range hp]; rfl⟩

theorem region_draw_sound {P : Program} {C : CallF} (hC : CSound P C) (hm : P.follows .mixedOrders = true) {id : Nat} {ops : Array Oper} {Q : Exit → Act → World → Prop} {μ : Mu} {e e' : Env} {h h' : Heap} {a : Act} {w : World}
    (hok : ops.toList.all (operOk P) = true) (he : regionA P C ops true e h = some (e', h')) (hg : P.globals.size ≤ h.n0) (hbe : bdL h.next e = true) (hbh : HeapBd h) (S : Sim μ h w) (hf : Free μ h h') (rr : ERel μ e a)
    (hQ : ∀ a' w', Behind μ h w e' h' a' w' → Q .normal a' w') : (Code.region id ops true).wp P Q a w := by
  unfold regionA at he
  simp only [if_true] at he
  split at he
  · rename_i hst
    split at he
    · rename_i tr e1 h1 htr
      split at he
      · rename_i hdyn
        simp only [Option.some.injEq, Prod.mk.injEq] at he
        obtain ⟨rfl, rfl⟩ := he
        obtain ⟨E, H, V, R, e0, h0, en, hn, T, htr'⟩ := trace_tra htr
        simp only [statOk, Bool.and_eq_true] at hst
        obtain ⟨⟨⟨hlen, hgd⟩, hfw⟩, hpairs⟩ := hst
        have hat : ∀ (p i : Nat) (o : Oper), (late P ops)[p]? = some (i, o) → ops[i]? = some o := fun p i o hx => mem_late.1 (List.mem_of_getElem? hx)
        have hbd := T.bd hC (by rw [h0]; exact hg) (fun p x hx => List.all_eq_true.1 hok x.2 (by rw [Array.mem_toList_iff]; exact Array.mem_of_getElem? (hat p x.1 x.2 hx))) (by rw [h0, e0]; exact hbe) (by rw [h0]; exact hbh)
        have r : Reg P C ops (late P ops) E H V R := by
          refine ⟨hC, T, by simpa using hlen, ?_, hat, ?_, ?_, ?_, ?_, ?_, fun p hp => (hbd p hp).1, fun p hp => (hbd p hp).2⟩
          · intro i o ho
            obtain ⟨p, hp⟩ := List.getElem?_of_mem ((mem_late (P := P)).2 ho)
            exact ⟨p, hp⟩
          · intro i o ho e hem hb
            have := List.all_eq_true.1 hfw (o, i) (List.mem_zipIdx_iff_getElem?.2 (by simpa using ho))
            simp only [Array.all_eq_true_iff_forall_mem] at this
            have := this e (by simpa using hem)
            simp only [hb, Bool.not_true, Bool.false_or, decide_eq_true_eq] at this
            exact this
          · intro p i o j b hx hgo
            have := List.all_eq_true.1 hgd (i, o) (List.mem_of_getElem? hx)
            simp only [hgo, Bool.and_eq_true] at this
            exact this.2
          · intro p q x y hpq hx hy
            have := pairs_spec hpairs hpq hx hy
            simp only [Bool.and_eq_true, bne_iff_ne, ne_eq, Bool.not_eq_true', Bool.or_eq_true] at this
            exact ⟨this.1.1, this.1.2, this.2⟩
          · intro p q x y hx hy hkx hr hky nb1 nb2
            have hp : p < (late P ops).length := (List.getElem?_eq_some_iff.1 hx).1
            have hq : q < (late P ops).length := (List.getElem?_eq_some_iff.1 hy).1
            unfold dynOk at hdyn
            simp only at hdyn
            have hzip := zip_map_range (late P ops) (fun p => (⟨E p, H p, V p, R p⟩ : Tr1)) p x hx
            rw [← htr'] at hzip
            have d1 := List.all_eq_true.1 hdyn ((x, ⟨E p, H p, V p, R p⟩), p) (List.mem_zipIdx_iff_getElem?.2 (by simpa using hzip))
            simp only [hkx, hr, beq_self_eq_true, Bool.and_self, Bool.not_true, Bool.false_or] at d1
            have d2 := List.all_eq_true.1 d1 (y, q) (by
              rw [List.mem_filter]
              exact ⟨List.mem_zipIdx_iff_getElem?.2 (by simpa using hy), by simp [hky]⟩)
            simp only [nb1, nb2, Bool.false_or] at d2
            have hhs : ∀ j, j ≤ (late P ops).length → (tr.map (·.h) ++ [h1])[j]? = some (H j) := by
              intro j hj
              have hl : (tr.map (·.h)).length = (late P ops).length := by rw [htr']; simp
              rcases Nat.lt_or_ge j (late P ops).length with hlt | hge
              · rw [List.getElem?_append_left (by omega), htr', List.map_map, List.getElem?_map, List.getElem?_range hlt]
                rfl
              · obtain rfl : j = (late P ops).length := by omega
                rw [List.getElem?_append_right (by omega), hl, Nat.sub_self, hn]
                rfl
            rw [hhs _ (by split <;> omega)] at d2
            simp only [same] at d2
            split at d2
            · rename_i v hv hop
              rw [veq_eq d2] at hop
              exact ⟨_, hop⟩
            · cases d2
          · exact fun o ho => List.all_eq_true.1 hok o ho
        subst e0 h0 en hn
        refine wp_region_any hm ?_
        have hlist : ∀ j, (Array.replicate ops.size false).getD j false = false := by
          intro j
          rcases Nat.lt_or_ge j ops.size with hj | hj
          · simp [hj]
          · simp [Array.getElem?_eq_none (show (Array.replicate ops.size false).size ≤ j by simpa using hj)]
        have hgr := r.nexts (Nat.zero_le _) (Nat.le_refl (late P ops).length)
        have hn0 := (H 0).n0_le_next
        obtain ⟨g1, g2, g3, g4⟩ := heapOf_spec (H 0).n0 (H 0).old (H 0).get ((H (late P ops).length).next - (H 0).n0)
        rw [show (H 0).n0 + ((H (late P ops).length).next - (H 0).n0) = (H (late P ops).length).next from by omega] at g3 g4
        generalize heapOf (H 0).n0 (H 0).old (H 0).get ((H (late P ops).length).next - (H 0).n0) = G at g1 g2 g3 g4
        have hsub : Sub G (H 0) := ⟨g1, g2, fun b k hb hgb => by
          rw [g4 b (g1 ▸ hb)] at hgb
          split at hgb
          · exact hgb
          · cases hgb⟩
        have hxs : ∀ n, envS (late P ops) V (xsOf (late P ops) (Array.replicate ops.size false)) (E 0) n = E 0 := by
          intro n
          induction n with
          | zero => rfl
          | succ n ih =>
            unfold envS
            have : xsOf (late P ops) (Array.replicate ops.size false) n = false := by
              unfold xsOf
              split
              · exact hlist _
              · rfl
            rw [this, ih]; simp
        have I : Inv P ops (late P ops) E H V R μ w (Array.replicate ops.size false) 0 G μ a { w with drawn := w.drawn + 1 } := by
          refine ⟨by simp, ?_, Nat.zero_le _, ?_, ?_, g1, g2, g3, ?_, ?_, ?_, ?_, ?_, ?_⟩
          · intro i o hl
            rw [hlist] at hl; cases hl
          · intro p x _ _
            rw [hlist]; simp
          · intro p x hp; omega
          · intro b k hb hgb
            rw [g4 b hb, if_pos (Nat.lt_of_lt_of_le ((H 0).lt_of_get hgb) hgr)]; exact hgb
          · intro p x k _ _ _ hl
            rw [hlist] at hl; cases hl
          · intro b hb hn _
            exact hf b hb hn
          · exact (S.sub hsub).world rfl
          · exact ⟨fun _ _ => rfl, g1, g2, by rw [g3]; exact hgr, rfl, rfl, rfl, Nat.le_refl _, fun _ _ _ => rfl, fun B hB => .inl (hB.sub hsub)⟩
          · rw [hxs]; exact rr
        refine r.any hg (fun μ' a' w' hS hSt hr' => hQ a' w' ⟨μ', hS, hSt, hr'⟩) ops.size (List.range ops.size) _ 0 G μ a _ I ?_ (by simp)
        intro i hi _
        simpa using hi
      · cases he
    · cases he
  · cases he

end Go.Abs
