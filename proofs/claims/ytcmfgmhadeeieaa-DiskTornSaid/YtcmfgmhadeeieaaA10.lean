/-
  The abstract machine: frames of heaps; heaps out of functions; what is before what in a region.
  Conditions: none (lemmas).
-/
import Derived.Test.YtcmfgmhadeeieaaA9
namespace Go.Abs

/-- Fewer blocks. -/
def Sub (h G : Heap) : Prop := h.n0 = G.n0 ∧ h.old = G.old ∧ ∀ b k, h.n0 ≤ b → h.get b = some k → G.get b = some k

theorem Sim.sub {μ : Mu} {h G : Heap} {w : World} (s : Sim μ G w) (hs : Sub h G) : Sim μ h w := by
  obtain ⟨h1, h2, h3⟩ := hs
  refine ⟨?_, ?_, ?_, ?_, ?_⟩
  · rw [h1, h2]; exact s.old
  · intro b k hb hg
    have := s.new b k (h1 ▸ hb) (h3 b k hb hg)
    rw [h1]; exact this
  · intro b b' k k' L L' hb hb' hne hg hg'
    exact s.inj b b' k k' L L' (h1 ▸ hb) (h1 ▸ hb') hne (h3 _ _ hb hg) (h3 _ _ hb' hg')
  · rw [h1]; exact s.size
  · rw [h1]; exact s.low

theorem Own.sub {μ : Mu} {h G : Heap} {B : Nat} (o : Own μ h B) (hs : Sub h G) : Own μ G B := by
  obtain ⟨b, k, L, h1, h2, h3, h4⟩ := o
  exact ⟨b, k, L, hs.1 ▸ h1, hs.2.2 b k h1 h2, h3, h4⟩

/-- The heap behind a run on fewer blocks: the run's own blocks, and the others as they were. -/
structure Framed (G h h1 G' : Heap) : Prop where
  n0 : G'.n0 = G.n0
  old : G'.old = G.old
  get : ∀ b k, G'.n0 ≤ b → G'.get b = some k → h1.get b = some k ∨ (G.get b = some k ∧ h.get b = none ∧ (b < h.next ∨ h1.next ≤ b))

theorem Sim.frame {μ μ1 : Mu} {G h h1 G' : Heap} {w w1 : World} (s : Sim μ G w) (hs : Sub h G) (st : Step μ h w μ1 h1 w1) (s1 : Sim μ1 h1 w1) (hf : Free μ h h1) (fr : Framed G h h1 G') : Sim μ1 G' w1 := by
  have hm := st.mono hf
  have hn0 : h1.n0 = G.n0 := st.n0.trans hs.1
  -- a block that the run did not see
  have key : ∀ b k, G.n0 ≤ b → G.get b = some k → h.get b = none → (b < h.next ∨ h1.next ≤ b) → ∃ L, μ b = some L ∧ μ1 b = some L ∧ ¬ Own μ h L.blk ∧ L.blk < w.heap.size ∧ Holds μ1 w1 G.n0 b k := by
    intro b k hb hg hn hr
    obtain ⟨L, arr, T, f, h2, h3, h4, h5, h6, h7, h8, h9⟩ := s.new b k hb hg
    have hno : ¬ Own μ h L.blk := by
      rintro ⟨c, kc, Lc, c1, c2, c3, c4⟩
      refine s.inj b c k kc L Lc hb (hs.1 ▸ c1) ?_ hg (hs.2.2 c kc c1 c2) h2 c3 c4.symm
      rintro rfl
      rw [hn] at c2; cases c2
    have hlt : L.blk < w.heap.size := (Array.getElem?_eq_some_iff.1 h4).1
    have hμ : μ1 b = some L := by rw [st.ext b hr]; exact h2
    exact ⟨L, h2, hμ, hno, hlt, L, arr, T, f, hμ, h3, by rw [st.same _ hlt hno]; exact h4, h5, h6, h7, h8, h9.mono hm⟩
  refine ⟨?_, ?_, ?_, ?_, ?_⟩
  · intro b cs hb hc
    rw [fr.n0] at hb
    rw [fr.old] at hc
    exact s1.old b cs (hn0 ▸ hb) (by rw [st.old, hs.2.1]; exact hc)
  · intro b k hb hg
    rcases fr.get b k hb hg with h2 | ⟨h2, h3, h4⟩
    · have := s1.new b k (by rw [hn0, ← fr.n0]; exact hb) h2
      rw [fr.n0, ← hn0]; exact this
    · obtain ⟨_, _, _, _, _, hh⟩ := key b k (fr.n0 ▸ hb) h2 h3 h4
      rw [fr.n0]; exact hh
  · intro b b' k k' L L' hb hb' hne hg hg' hL hL'
    have hb0 : G.n0 ≤ b := fr.n0 ▸ hb
    have hb0' : G.n0 ≤ b' := fr.n0 ▸ hb'
    have cross : ∀ {b b' : Nat} {k k' : Blk} {L L' : Loc}, G.n0 ≤ b → G.n0 ≤ b' → h1.get b = some k → μ1 b = some L → G.get b' = some k' → h.get b' = none → (b' < h.next ∨ h1.next ≤ b') → μ1 b' = some L' → L.blk ≠ L'.blk := by
      intro b b' k k' L L' c0 c0' c1 c2 c3 c4 c5 c6 heq
      obtain ⟨L2, g1, g2, g3, g4, _⟩ := key b' k' c0' c3 c4 c5
      rw [g2] at c6; cases c6
      rcases st.own L.blk ⟨b, k, L, by rw [hn0]; exact c0, c1, c2, rfl⟩ with h6 | h6
      · exact g3 (heq ▸ h6)
      · omega
    rcases fr.get b k hb hg with h2 | ⟨h2, h3, h4⟩
    · rcases fr.get b' k' hb' hg' with h2' | ⟨h2', h3', h4'⟩
      · exact s1.inj b b' k k' L L' (by rw [hn0]; exact hb0) (by rw [hn0]; exact hb0') hne h2 h2' hL hL'
      · exact cross hb0 hb0' h2 hL h2' h3' h4' hL'
    · rcases fr.get b' k' hb' hg' with h2' | ⟨h2', h3', h4'⟩
      · exact (cross hb0' hb0 h2' hL' h2 h3 h4 hL).symm
      · rw [st.ext b h4] at hL
        rw [st.ext b' h4'] at hL'
        exact s.inj b b' k k' L L' hb0 hb0' hne h2 h2' hL hL'
  · rw [fr.n0, ← hn0]; exact s1.size
  · rw [fr.n0, ← hn0]; exact s1.low

theorem Step.frame {μ0 μ μ1 : Mu} {h0 G h h1 G' : Heap} {w0 w w1 : World} (st0 : Step μ0 h0 w0 μ G w) (hs : Sub h G) (st : Step μ h w μ1 h1 w1) (fr : Framed G h h1 G') (hn : G'.next = G.next)
    (hlo : h0.next ≤ h.next) (hhi : h1.next ≤ G.next) : Step μ0 h0 w0 μ1 G' w1 where
  ext b hb := by
    rw [hn] at hb
    rw [st.ext b (by omega), st0.ext b hb]
  n0 := fr.n0.trans st0.n0
  old := fr.old.trans st0.old
  next := by rw [hn]; exact st0.next
  os := st.os.trans st0.os
  tape := st.tape.trans st0.tape
  output := st.output.trans st0.output
  size := Nat.le_trans st0.size st.size
  same B hB hO := by
    rw [st.same B (Nat.lt_of_lt_of_le hB st0.size) (fun ho => (st0.own B (ho.sub hs)).elim hO (fun h2 => by omega))]
    exact st0.same B hB hO
  own := by
    rintro B ⟨b, k, L, hb, hg, hL, rfl⟩
    rcases fr.get b k hb hg with h2 | ⟨h2, h3, h4⟩
    · rcases st.own L.blk ⟨b, k, L, by rw [st.n0, hs.1, ← fr.n0]; exact hb, h2, hL, rfl⟩ with h5 | h5
      · exact st0.own _ (h5.sub hs)
      · exact .inr (Nat.le_trans st0.size h5)
    · rw [st.ext b h4] at hL
      exact st0.own _ ⟨b, k, L, fr.n0 ▸ hb, h2, hL, rfl⟩

/-- A heap with given new blocks. -/
def heapOf (n0 : Nat) (old : Nat → Option (List Value)) (g : Nat → Option Blk) : Nat → Heap
  | 0 => ⟨n0, old, .nil, 0⟩
  | i + 1 => match g (n0 + i) with
    | some k => (heapOf n0 old g i).alloc k
    | none => ((heapOf n0 old g i).alloc []).kill (n0 + i)

theorem heapOf_spec (n0 : Nat) (old : Nat → Option (List Value)) (g : Nat → Option Blk) : ∀ i, (heapOf n0 old g i).n0 = n0 ∧ (heapOf n0 old g i).old = old ∧ (heapOf n0 old g i).next = n0 + i ∧
    ∀ b, n0 ≤ b → (heapOf n0 old g i).get b = if b < n0 + i then g b else none
  | 0 => by
    refine ⟨rfl, rfl, rfl, fun b hb => ?_⟩
    simp [heapOf, Heap.get, Nat.not_lt.2 hb]
  | i + 1 => by
    obtain ⟨h1, h2, h3, h4⟩ := heapOf_spec n0 old g i
    unfold heapOf
    cases hg : g (n0 + i) with
    | some k =>
      refine ⟨h1, h2, by simp [h3]; omega, fun b hb => ?_⟩
      simp only
      rw [Heap.get_alloc, h3]
      by_cases e : b = n0 + i
      · subst e; simp [hg]
      · rw [if_neg e, h4 b hb]
        by_cases e2 : b < n0 + i
        · rw [if_pos e2, if_pos (by omega)]
        · rw [if_neg e2, if_neg (by omega)]
    | none =>
      refine ⟨h1, h2, by simp [h3]; omega, fun b hb => ?_⟩
      simp only
      unfold Heap.kill
      rw [Heap.get_put _ (by simp [h1]) (by simp [h3]), Heap.get_alloc, h3]
      by_cases e : b = n0 + i
      · subst e; simp [hg]
      · rw [if_neg e, if_neg e, h4 b hb]
        by_cases e2 : b < n0 + i
        · rw [if_pos e2, if_pos (by omega)]
        · rw [if_neg e2, if_neg (by omega)]

/-! What is before what. -/

def befStep (acc : Array Nat) (o : Oper) : Nat := o.after.foldl (fun s e => if Region.binds .any e then s ||| 2 ^ e.on ||| acc.getD e.on 0 else s) 0

theorem befStep_bit {acc : Array Nat} {o : Oper} {j : Nat} (h : (befStep acc o).testBit j = true) : ∃ e ∈ o.after.toList, Region.binds .any e = true ∧ (e.on = j ∨ (acc.getD e.on 0).testBit j = true) := by
  unfold befStep at h
  rw [← Array.foldl_toList] at h
  have key : ∀ (l : List Edge) (s : Nat), (l.foldl (fun s e => if Region.binds .any e then s ||| 2 ^ e.on ||| acc.getD e.on 0 else s) s).testBit j = true →
      s.testBit j = true ∨ ∃ e ∈ l, Region.binds .any e = true ∧ (e.on = j ∨ (acc.getD e.on 0).testBit j = true) := by
    intro l
    induction l with
    | nil => intro s h; exact .inl h
    | cons x l ih =>
      intro s h
      rw [List.foldl_cons] at h
      rcases ih _ h with h1 | ⟨e, he, h1⟩
      · split at h1
        · rename_i hb
          rw [Nat.testBit_or, Nat.testBit_or, Nat.testBit_two_pow] at h1
          simp only [Bool.or_eq_true, decide_eq_true_eq] at h1
          rcases h1 with (h1 | h1) | h1
          · exact .inl h1
          · exact .inr ⟨x, by simp, hb, .inl h1⟩
          · exact .inr ⟨x, by simp, hb, .inr h1⟩
        · exact .inl h1
      · exact .inr ⟨e, by simp [he], h1⟩
  rcases key _ _ h with h | h
  · simp at h
  · exact h

theorem before_foldl : ∀ (l : List Oper) (acc : Array Nat), ∃ r : Array Nat, l.foldl (fun acc o => acc.push (befStep acc o)) acc = r ∧ r.size = acc.size + l.length ∧ (∀ i, i < acc.size → r.getD i 0 = acc.getD i 0) ∧
    ∀ i o, l[i]? = some o → ∃ acc' : Array Nat, acc'.size = acc.size + i ∧ (∀ k, k < acc'.size → acc'.getD k 0 = r.getD k 0) ∧ r.getD (acc.size + i) 0 = befStep acc' o
  | [], acc => ⟨acc, rfl, rfl, fun _ _ => rfl, by simp⟩
  | o :: l, acc => by
    obtain ⟨r, h1, h2, h3, h4⟩ := before_foldl l (acc.push (befStep acc o))
    have hp : ∀ i, i < acc.size → (acc.push (befStep acc o)).getD i 0 = acc.getD i 0 := by
      intro i hi
      simp [Array.getElem?_push, Nat.ne_of_lt hi]
    have hp2 : (acc.push (befStep acc o)).getD acc.size 0 = befStep acc o := by simp
    refine ⟨r, by rw [List.foldl_cons]; exact h1, by rw [h2]; simp; omega, fun i hi => by rw [h3 i (by simp; omega), hp i hi], ?_⟩
    intro i u hu
    cases i with
    | zero =>
      simp only [List.getElem?_cons_zero, Option.some.injEq] at hu
      subst hu
      refine ⟨acc, rfl, fun k hk => ?_, ?_⟩
      · rw [h3 k (by simp; omega), hp k hk]
      · rw [Nat.add_zero, h3 _ (by simp), hp2]
    | succ i =>
      obtain ⟨acc', g1, g2, g3⟩ := h4 i u (by simpa using hu)
      refine ⟨acc', by rw [g1]; simp; omega, g2, ?_⟩
      rw [← g3]
      congr 1
      simp; omega

/-- Whatever is before an operation is one of the direct edges, or before one of them. -/
theorem before_spec {ops : Array Oper} {i j : Nat} {o : Oper} (ho : ops[i]? = some o) (h : befB (befM ops) i j = true) :
    ∃ e ∈ o.after.toList, Region.binds .any e = true ∧ (e.on = j ∨ (e.on < i ∧ befB (befM ops) e.on j = true)) := by
  unfold befB befM Region.before at h
  rw [← Array.foldl_toList] at h
  obtain ⟨r, h1, h2, h3, h4⟩ := before_foldl ops.toList #[]
  have hr : (Array.foldl (fun acc o => acc.push (o.after.foldl (fun s e => if Region.binds .any e then s ||| 2 ^ e.on ||| acc.getD e.on 0 else s) 0)) #[] ops) = r := by
    rw [← Array.foldl_toList]; exact h1
  obtain ⟨acc', g1, g2, g3⟩ := h4 i o (by simpa using ho)
  simp only [List.size_toArray, List.length_nil, Nat.zero_add] at g1 g3
  have hb : (befStep acc' o).testBit j = true := by
    rw [← g3]
    exact h1 ▸ h
  obtain ⟨e, he, hbind, hor⟩ := befStep_bit hb
  refine ⟨e, he, hbind, hor.imp id fun hj => ?_⟩
  have hlt : e.on < i := by
    rcases Nat.lt_or_ge e.on i with h5 | h5
    · exact h5
    · have : acc'.getD e.on 0 = 0 := by simp [Array.getElem?_eq_none (show acc'.size ≤ e.on by omega)]
      rw [this] at hj; simp at hj
  refine ⟨hlt, ?_⟩
  unfold befB befM Region.before
  rw [hr, ← g2 e.on (by omega)]
  exact hj

/-- A set of operations that holds all that its members hang on directly holds all that is before them. -/
theorem before_closed {ops : Array Oper} {X : Nat → Prop} (hX : ∀ i o, X i → ops[i]? = some o → ∀ e ∈ o.after.toList, Region.binds .any e = true → X e.on) :
    ∀ (i : Nat) (o : Oper), ops[i]? = some o → (∀ e ∈ o.after.toList, Region.binds .any e = true → X e.on) → (∀ k, X k → (ops[k]?).isSome) → ∀ j, befB (befM ops) i j = true → X j := by
  intro i
  induction i using Nat.strongRecOn with
  | _ i ih =>
    intro o ho hd hs j hj
    obtain ⟨e, he, hb, hor⟩ := before_spec ho hj
    rcases hor with rfl | ⟨hlt, hj2⟩
    · exact hd e he hb
    · have hx := hd e he hb
      obtain ⟨o2, ho2⟩ := Option.isSome_iff_exists.1 (hs _ hx)
      exact ih e.on hlt o2 ho2 (hX _ _ hx ho2) hs j hj2

end Go.Abs
