/-
  The abstract machine: reading, writing and making memory, as the model does it.
  Conditions: none (lemmas).
-/
import Derived.Test.YtcmfgmhadeeieaaA2
namespace Go.Abs

theorem cell_at {w : World} {B : Nat} {arr : Array Value} {T : TypeId} {fr : Nat × Nat} (hg : w.heap[B]? = some (.cells arr T fr)) (j : Nat) : w.cell? ⟨B, j, none⟩ = arr[j]? :=
  cell_of_row w B j arr T fr hg

theorem Sim.loadCells {μ : Mu} {h : Heap} {w : World} (s : Sim μ h w) {b off n : Nat} {k : Blk} (hg : h.get b = some k) (hn : off + n ≤ k.length) (P : Program) :
    ∃ L cs, μ b = some L ∧ LRel μ ((k.drop off).take n) cs ∧ ∀ w', w'.heap = w.heap → (Go.loadCells ⟨L.blk, L.off + off, none⟩ n).run P w' = .ok cs.toArray w' := by
  obtain ⟨L, arr, T, fr, h1, h2, h3⟩ := s.read hg
  refine ⟨L, (arr.toList.drop (L.off + off)).take n, h1, ?_, ?_⟩
  · have := (h3.drop off).take n
    rw [List.drop_take, List.drop_drop, List.take_take] at this
    rw [show min n (k.length - off) = n from by omega] at this
    exact this
  · intro w' hw'
    rw [← hw'] at h2
    have hl : ((arr.toList.drop (L.off + off)).take n).length = n := by
      have := h3.1
      simp only [List.length_take, List.length_drop, Array.length_toList] at this ⊢
      omega
    have := run_loadCells_list (P := P) w' ⟨L.blk, L.off + off, none⟩ ((arr.toList.drop (L.off + off)).take n) (fun j v hv => by
      rw [Addr.add_lit, cell_at h2]
      rw [List.getElem?_take] at hv
      split at hv
      · rw [List.getElem?_drop] at hv; simpa using hv
      · cases hv)
    rw [hl] at this
    exact this

theorem Sim.cell {μ : Mu} {h : Heap} {w : World} (s : Sim μ h w) {b off : Nat} {k : Blk} {c : Value} (hg : h.get b = some k) (hc : k[off]? = some c) :
    ∃ L c', μ b = some L ∧ w.cell? ⟨L.blk, L.off + off, none⟩ = some c' ∧ VRel μ c c' := by
  obtain ⟨L, arr, T, fr, h1, h2, h3⟩ := s.read hg
  obtain ⟨c', hc', hv⟩ := h3.get hc
  refine ⟨L, c', h1, ?_, hv⟩
  rw [cell_at h2]
  rw [List.getElem?_take] at hc'
  split at hc'
  · rw [List.getElem?_drop] at hc'; simpa using hc'
  · cases hc'

theorem run_storeCells_any (P : Program) (g o : Nat) (t : TypeId) (fr : Nat × Nat) : ∀ (vs : List Value) (i : Nat) (cur : Array Value) (w : World), w.heap[g]? = some (.cells cur t fr) → (fr.1 = fr.2 ∨ cur.size ≤ fr.1) →
    o + i + vs.length ≤ cur.size → (∀ v ∈ vs, v.oneCell' = true) →
    (storeCells ⟨g, o, none⟩ vs i).run P w = .ok () (w.setRow g (splice cur.toList (o + i) vs).toArray)
  | [], i, cur, w, hg, _, _, _ => by
    simp only [storeCells, splice, List.append_nil, List.length_nil, Nat.add_zero, List.take_append_drop, Array.toArray_toList]
    rw [setRow_self w g cur t fr hg]
    rfl
  | v :: rest, i, cur, w, hg, hfr, hl, h1 => by
    have hi : o + i < cur.size := by simp at hl; omega
    have hcell : w.cell? ⟨g, o + i, none⟩ = some cur[o + i] := by simp [World.cell?, hg, hi]
    have hfro : w.frozen? ⟨g, o + i, none⟩ = false := by
      simp only [World.frozen?, hg]
      simp only [Bool.and_eq_false_iff, decide_eq_false_iff_not]
      omega
    have hst : (store ((⟨g, o, none⟩ : Addr).add i) v).run P w = .ok () (w.setRow g (cur.setIfInBounds (o + i) v)) := by
      rw [Addr.add_lit, run_store P w _ v _ (h1 v (by simp)), hcell]
      simp [hfro, setCell_eq_setRow w g (o + i) cur t fr v hg]
    have ih := run_storeCells_any P g o t fr rest (i + 1) (cur.setIfInBounds (o + i) v) (w.setRow g (cur.setIfInBounds (o + i) v)) (setRow_heap w g cur _ t _ hg) (by simpa using hfr) (by simp at hl ⊢; omega) (fun x hx => h1 x (by simp [hx]))
    simp only [storeCells, Sem.run_bind, hst, Result.andThen_ok, ih, setRow_setRow]
    congr 3
    have e := list_seg_step cur.toList (o + i) v rest (by simp at hl ⊢; omega)
    simpa [splice, Array.toList_setIfInBounds, Nat.add_assoc] using e

theorem length_splice {l xs : List Value} {off : Nat} (h : off + xs.length ≤ l.length) : (splice l off xs).length = l.length := by
  simp only [splice, List.length_append, List.length_take, List.length_drop]; omega

/-- A segment of a list written at its place within a larger one. -/
theorem splice_seg {l xs : List Value} {o off n : Nat} (h : off + xs.length ≤ n) (hl : o + n ≤ l.length) :
    ((splice l (o + off) xs).drop o).take n = splice ((l.drop o).take n) off xs := by
  unfold splice
  have e1 : (l.take (o + off)).drop o = (l.drop o).take off := by rw [List.drop_take]; congr 1; omega
  have e2 : List.drop o (l.take (o + off) ++ xs ++ l.drop (o + off + xs.length)) = (l.drop o).take off ++ xs ++ l.drop (o + off + xs.length) := by
    rw [List.append_assoc, List.drop_append_of_le_length (by simp; omega), e1, List.append_assoc]
  rw [e2, List.take_take, show min off n = off from by omega]
  have e3 : ((l.drop o).take off ++ xs).length = off + xs.length := by simp; omega
  rw [List.take_append, List.take_of_length_le (by omega), e3]
  congr 1
  rw [List.drop_take, List.drop_drop, show o + (off + xs.length) = o + off + xs.length from by omega]

/-- What is written into a block of one's own. -/
theorem Sim.storeCells {μ : Mu} {h : Heap} {w : World} (s : Sim μ h w) {b off : Nat} {k : Blk} {xs ys : List Value} (hb : h.n0 ≤ b) (hg : h.get b = some k) (hn : off + xs.length ≤ k.length)
    (hx : LRel μ xs ys) (ho : oneCells xs = true) (P : Program) :
    ∃ L w', μ b = some L ∧ (Go.storeCells ⟨L.blk, L.off + off, none⟩ ys).run P w = .ok () w' ∧ Sim μ (h.set b (splice k off xs)) w' ∧ Step μ h w μ (h.set b (splice k off xs)) w' := by
  obtain ⟨L, arr, T, fr, h1, h2, h4, h5, h6, h7, h8, h9⟩ := s.new b k hb hg
  have hlt := h.lt_of_get hg
  have hys : ys.length = xs.length := hx.1.symm
  refine ⟨L, w.setRow L.blk (splice arr.toList (L.off + off) ys).toArray, h1, ?_, ?_, ?_⟩
  · have := run_storeCells_any P L.blk (L.off + off) T fr ys 0 arr w h4 h7 (by rw [hys]; omega) (hx.oneCells ho)
    simpa using this
  · have hB : (w.setRow L.blk (splice arr.toList (L.off + off) ys).toArray).heap[L.blk]? = some (.cells (splice arr.toList (L.off + off) ys).toArray T fr) := setRow_heap w L.blk arr _ T fr h4
    have hsz : ((splice arr.toList (L.off + off) ys).toArray).size = arr.size := by
      have hal : arr.toList.length = arr.size := Array.length_toList
      rw [List.size_toArray, length_splice (by omega), hal]
    constructor
    · intro c cs hc hcs
      obtain ⟨L', arr', T', fr', g1, g2, g3, g4, g5⟩ := s.old c cs (by simpa using hc) hcs
      refine ⟨L', arr', T', fr', g1, g2, g3, ?_, g5⟩
      rw [setRow_other _ _ _ _ (by simp at hc; omega)]; exact g4
    · intro c kc hc hgc
      simp only [Heap.n0_set] at hc ⊢
      by_cases e : c = b
      · subst e
        rw [Heap.get_set_same hb hg] at hgc
        cases hgc
        refine ⟨L, _, T, fr, h1, ?_, hB, hsz.trans h5, h6, ?_, h8, ?_⟩
        · rw [length_splice hn]; exact h2
        · rcases h7 with h7 | h7
          · exact .inl h7
          · exact .inr (hsz ▸ h7)
        · rw [splice_seg (by omega) (by have hal : arr.toList.length = arr.size := Array.length_toList; omega)]
          exact h9.splice hx off
      · rw [Heap.get_set_other hb hlt _ e] at hgc
        obtain ⟨L', arr', T', fr', g1, g2, g4, g5⟩ := s.new c kc hc hgc
        refine ⟨L', arr', T', fr', g1, g2, ?_, g5⟩
        rw [setRow_other _ _ _ _ (s.inj c b kc k L' L hc hb e hgc hg g1 h1)]; exact g4
    · intro c c' kc kc' Lc Lc' hc hc' hne hgc hgc' hm hm'
      simp only [Heap.n0_set] at hc hc'
      have fix : ∀ d kd, (h.set b (splice k off xs)).get d = some kd → ∃ kd', h.get d = some kd' := by
        intro d kd hd
        by_cases e : d = b
        · subst e; exact ⟨k, hg⟩
        · rw [Heap.get_set_other hb hlt _ e] at hd; exact ⟨kd, hd⟩
      obtain ⟨k1, g1⟩ := fix c kc hgc
      obtain ⟨k2, g2⟩ := fix c' kc' hgc'
      exact s.inj c c' k1 k2 Lc Lc' hc hc' hne g1 g2 hm hm'
    · simpa [World.setRow] using s.size
    · exact s.low
  · refine ⟨fun _ _ => rfl, rfl, rfl, Nat.le_refl _, rfl, rfl, rfl, by simp [World.setRow], ?_, ?_⟩
    · intro B hB hO
      exact setRow_other _ _ _ _ (fun e => hO ⟨b, k, L, hb, hg, h1, e.symm⟩)
    · rintro B ⟨c, kc, Lc, hc, hgc, hm, rfl⟩
      refine .inl ?_
      simp only [Heap.n0_set] at hc
      by_cases e : c = b
      · subst e; exact ⟨c, k, Lc, hc, hg, hm, rfl⟩
      · rw [Heap.get_set_other hb hlt _ e] at hgc; exact ⟨c, kc, Lc, hc, hgc, hm, rfl⟩

def Mu.put (μ : Mu) (b : Nat) (L : Loc) : Mu := fun c => if c = b then some L else μ c
theorem Mu.put_same (μ : Mu) (b : Nat) (L : Loc) : μ.put b L b = some L := by simp [Mu.put]
theorem Mu.put_other (μ : Mu) {b c : Nat} (L : Loc) (h : c ≠ b) : μ.put b L c = μ c := by simp [Mu.put, h]
theorem Mu.put_mono {μ : Mu} {b : Nat} {L : Loc} (h : μ b = none) : ∀ c M, μ c = some M → μ.put b L c = some M := by
  intro c M hc
  rw [Mu.put_other _ _ (by rintro rfl; rw [h] at hc; cases hc)]; exact hc

/-- A new concrete block, of which an abstract new block is the head. -/
theorem Sim.alloc {μ : Mu} {h : Heap} {w : World} (s : Sim μ h w) {k : Blk} (hf : Free μ h (h.alloc k)) {arr : Array Value} {T : TypeId} {fr : Nat × Nat} (hfr : fr.1 = fr.2 ∨ arr.size ≤ fr.1)
    (hl : k.length ≤ arr.size) (hx : LRel μ k (arr.toList.take k.length)) {w1 : World} (ho : w1.os = w.os) (ht : w1.tape = w.tape) (hp : w1.output = w.output)
    (hw : w1.heap = w.heap.push (.cells arr T fr)) :
    Sim (μ.put h.next ⟨w.heap.size, 0, arr.size, k.length⟩) (h.alloc k) w1 ∧ Step μ h w (μ.put h.next ⟨w.heap.size, 0, arr.size, k.length⟩) (h.alloc k) w1 := by
  have hnone : μ h.next = none := hf _ (Nat.le_refl _) (by simp)
  have hm := Mu.put_mono (L := ⟨w.heap.size, 0, arr.size, k.length⟩) hnone
  have hold : ∀ B, B < w.heap.size → w1.heap[B]? = w.heap[B]? := fun B hB => by rw [hw, Array.getElem?_push, if_neg (by omega)]
  have hnew : w1.heap[w.heap.size]? = some (.cells arr T fr) := by rw [hw]; simp
  have blt : ∀ (B : Nat) (o : Obj), w.heap[B]? = some o → B < w.heap.size := fun B o hB => (Array.getElem?_eq_some_iff.1 hB).1
  have hn0 := h.n0_le_next
  refine ⟨⟨?_, ?_, ?_, ?_, fun b hb => let ⟨L, h1, h2⟩ := s.low b hb; ⟨L, hm _ _ h1, h2⟩⟩, ⟨?_, rfl, rfl, by simp, ho, ht, hp, by rw [hw]; simp, fun B hB _ => hold B hB, ?_⟩⟩
  · intro b cs hb hcs
    obtain ⟨L, a, T', f', g1, g2, g3, g4, g5⟩ := s.old b cs hb hcs
    exact ⟨L, a, T', f', hm _ _ g1, g2, g3, by rw [hold _ (blt _ _ g4)]; exact g4, g5.mono hm⟩
  · intro b kb hb hg
    rw [h.get_alloc] at hg
    by_cases e : b = h.next
    · subst e
      rw [if_pos rfl] at hg
      cases hg
      refine ⟨_, arr, T, fr, Mu.put_same _ _ _, rfl, hnew, rfl, by simpa using hl, hfr, by simpa using s.size, ?_⟩
      simpa using hx.mono hm
    · rw [if_neg e] at hg
      obtain ⟨L, a, T', f', g1, g2, g4, g5, g6, g7, g8, g9⟩ := s.new b kb hb hg
      exact ⟨L, a, T', f', hm _ _ g1, g2, by rw [hold _ (blt _ _ g4)]; exact g4, g5, g6, g7, g8, g9.mono hm⟩
  · intro b b' kb kb' L L' hb hb' hne hg hg' h1 h2
    rw [h.get_alloc] at hg hg'
    by_cases e : b = h.next
    · subst e
      rw [Mu.put_same] at h1
      cases h1
      rw [if_neg (Ne.symm hne)] at hg'
      rw [Mu.put_other _ _ (Ne.symm hne)] at h2
      obtain ⟨L2, a, T', f', g1, g2, g4, _⟩ := s.new b' kb' hb' hg'
      rw [g1] at h2; cases h2
      have := blt _ _ g4
      simp only [ne_eq]; omega
    · rw [if_neg e] at hg
      rw [Mu.put_other _ _ e] at h1
      by_cases e' : b' = h.next
      · subst e'
        rw [Mu.put_same] at h2
        cases h2
        obtain ⟨L2, a, T', f', g1, g2, g4, _⟩ := s.new b kb hb hg
        rw [g1] at h1; cases h1
        have := blt _ _ g4
        simp only [ne_eq]; omega
      · rw [if_neg e'] at hg'
        rw [Mu.put_other _ _ e'] at h2
        exact s.inj b b' kb kb' L L' hb hb' hne hg hg' h1 h2
  · rw [hw]; have := s.size; simp; omega
  · intro b hb
    rw [Mu.put_other _ _ (by simp at hb; omega)]
  · rintro B ⟨b, kb, L, hb, hg, h1, rfl⟩
    rw [h.get_alloc] at hg
    by_cases e : b = h.next
    · subst e; rw [Mu.put_same] at h1; cases h1; exact .inr (Nat.le_refl _)
    · rw [if_neg e] at hg; rw [Mu.put_other _ _ e] at h1; exact .inl ⟨b, kb, L, hb, hg, h1, rfl⟩

/-- A world that differs in its draws alone. -/
theorem Sim.world {μ : Mu} {h : Heap} {w w' : World} (s : Sim μ h w) (hh : w'.heap = w.heap) : Sim μ h w' :=
  ⟨fun b cs hb hc => by rw [hh]; exact s.old b cs hb hc, fun b k hb hg => by unfold Holds; rw [hh]; exact s.new b k hb hg, s.inj, by rw [hh]; exact s.size, s.low⟩

/-- A block is forgotten. -/
theorem Sim.kill {μ : Mu} {h : Heap} {w : World} (s : Sim μ h w) {b : Nat} (hb : h.n0 ≤ b) (hn : b < h.next) : Sim μ (h.kill b) w ∧ Step μ h w μ (h.kill b) w := by
  have hget : ∀ c k, (h.kill b).get c = some k → h.get c = some k := fun c k hc => by
    unfold Heap.kill at hc
    rw [h.get_put hb hn] at hc
    split at hc
    · cases hc
    · exact hc
  refine ⟨⟨s.old, fun c k hc hg => s.new c k hc (hget _ _ hg), fun c c' k k' L L' h1 h2 h3 h4 h5 => s.inj c c' k k' L L' h1 h2 h3 (hget _ _ h4) (hget _ _ h5), s.size, s.low⟩, ?_⟩
  refine ⟨fun _ _ => rfl, rfl, rfl, Nat.le_refl _, rfl, rfl, rfl, Nat.le_refl _, fun _ _ _ => rfl, ?_⟩
  rintro B ⟨c, k, L, h1, h2, h3, h4⟩
  exact .inl ⟨c, k, L, h1, hget _ _ h2, h3, h4⟩

end Go.Abs
