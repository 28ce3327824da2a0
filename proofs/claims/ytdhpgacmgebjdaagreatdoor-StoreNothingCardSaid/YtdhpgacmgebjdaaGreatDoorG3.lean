/-
  The abstract machine: values that lead to given blocks alone.
  Conditions: none (definitions and lemmas).
-/
import Derived.Test.YtdhpgacmgebjdaaGreatDoorG2
namespace Go.Abs
noncomputable section

/-- A loop's body leads to the loop's record. -/
def bdF (n : Nat) : Fn → Bool
  | .yield l => decide (l < n)
  | _ => true
theorem bdF_mono {n m : Nat} (h : n ≤ m) {f : Fn} (e : bdF n f = true) : bdF m f = true := by
  cases f with
  | yield l => simp only [bdF, decide_eq_true_eq] at e ⊢; omega
  | _ => rfl

mutual
/-- All blocks that a value leads to have numbers below n. -/
def bdV (n : Nat) : Value → Bool
  | .pointer (some a) => a.block < n
  | .slice (some a) _ _ => a.block < n
  | .map (some b) => b < n
  | .agg ⟨l⟩ => bdL n l
  | .tuple ⟨l⟩ => bdL n l
  | .func f ⟨l⟩ ⟨r⟩ => bdF n f && (bdL n l && bdL n r)
  | .iface _ v => bdV n v
  | _ => true
def bdL (n : Nat) : List Value → Bool
  | [] => true
  | v :: l => bdV n v && bdL n l
end

theorem bdL_iff {n : Nat} : ∀ {l : List Value}, bdL n l = true ↔ ∀ x ∈ l, bdV n x = true
  | [] => by simp [bdL]
  | v :: l => by simp [bdL, bdL_iff (l := l)]

mutual
theorem bdV_mono {n m : Nat} (h : n ≤ m) : ∀ {v : Value}, bdV n v = true → bdV m v = true
  | .pointer none, _ => rfl
  | .pointer (some a), e => by simp only [bdV, decide_eq_true_eq] at e ⊢; omega
  | .slice none _ _, _ => rfl
  | .slice (some a) _ _, e => by simp only [bdV, decide_eq_true_eq] at e ⊢; omega
  | .map none, _ => rfl
  | .map (some _), e => by simp only [bdV, decide_eq_true_eq] at e ⊢; omega
  | .chan none, _ => rfl
  | .chan (some _), e => rfl
  | .agg ⟨l⟩, e => by simp only [bdV] at e ⊢; exact bdL_mono h e
  | .tuple ⟨l⟩, e => by simp only [bdV] at e ⊢; exact bdL_mono h e
  | .func _ ⟨l⟩ ⟨r⟩, e => by
    simp only [bdV, Bool.and_eq_true] at e ⊢
    exact ⟨bdF_mono h e.1, bdL_mono h e.2.1, bdL_mono h e.2.2⟩
  | .iface _ v, e => by simp only [bdV] at e ⊢; exact bdV_mono h e
  | .bool _, _ => rfl
  | .int _ _, _ => rfl
  | .float _ _, _ => rfl
  | .complex _ _ _, _ => rfl
  | .string _, _ => rfl
  | .nilFunc, _ => rfl
  | .nilIface, _ => rfl
theorem bdL_mono {n m : Nat} (h : n ≤ m) : ∀ {l : List Value}, bdL n l = true → bdL m l = true
  | [], _ => rfl
  | v :: l, e => by
    simp only [bdL, Bool.and_eq_true] at e ⊢
    exact ⟨bdV_mono h e.1, bdL_mono h e.2⟩
end

theorem bdV_flat {n : Nat} {v : Value} (h : flat v = true) : bdV n v = true := by
  cases v with
  | pointer a => cases a <;> first | rfl | (simp [flat] at h)
  | slice a => cases a <;> first | rfl | (simp [flat] at h)
  | map a => cases a <;> first | rfl | (simp [flat] at h)
  | chan a => cases a <;> first | rfl | (simp [flat] at h)
  | func f a b =>
    cases f <;> simp [flat] at h
    obtain ⟨rfl, rfl⟩ := h
    rfl
  | agg a => simp [flat] at h
  | tuple a => simp [flat] at h
  | iface t v => simp [flat] at h
  | _ => rfl
theorem bdL_flat {n : Nat} {l : List Value} (h : flatAll l = true) : bdL n l = true := bdL_iff.2 fun x hx => bdV_flat (List.all_eq_true.1 h x hx)
theorem bdL_append {n : Nat} {a b : List Value} (ha : bdL n a = true) (hb : bdL n b = true) : bdL n (a ++ b) = true := by
  rw [bdL_iff] at *
  intro x hx
  rcases List.mem_append.1 hx with h | h
  · exact ha x h
  · exact hb x h
theorem bdL_take {n k : Nat} {a : List Value} (ha : bdL n a = true) : bdL n (a.take k) = true := by
  rw [bdL_iff] at *
  exact fun x hx => ha x (List.mem_of_mem_take hx)
theorem bdL_drop {n k : Nat} {a : List Value} (ha : bdL n a = true) : bdL n (a.drop k) = true := by
  rw [bdL_iff] at *
  exact fun x hx => ha x (List.mem_of_mem_drop hx)
theorem bdL_splice {n off : Nat} {a b : List Value} (ha : bdL n a = true) (hb : bdL n b = true) : bdL n (splice a off b) = true :=
  bdL_append (bdL_append (bdL_take ha) hb) (bdL_drop ha)
theorem bdL_get {n i : Nat} {a : List Value} {x : Value} (ha : bdL n a = true) (hx : a[i]? = some x) : bdV n x = true := bdL_iff.1 ha x (List.mem_of_getElem? hx)
theorem bdL_set {n i : Nat} {a : List Value} {x : Value} (ha : bdL n a = true) (hx : bdV n x = true) : bdL n (a.set i x) = true := by
  rw [bdL_iff] at *
  intro y hy
  rcases List.mem_or_eq_of_mem_set hy with h | h
  · exact ha y h
  · subst h; exact hx
theorem bdL_getD {n i : Nat} {a : List Value} (ha : bdL n a = true) : bdV n (a.getD i undef) = true := by
  rw [List.getD_eq_getElem?_getD]
  cases h : a[i]? with
  | none => rfl
  | some x => exact bdL_get ha h
theorem bdV_agg {n : Nat} {a : Array Value} : bdV n (.agg a) = bdL n a.toList := by obtain ⟨l⟩ := a; rfl
theorem bdV_tuple {n : Nat} {a : Array Value} : bdV n (.tuple a) = bdL n a.toList := by obtain ⟨l⟩ := a; rfl
theorem bdL_cells {n : Nat} {v : Value} (h : bdV n v = true) : bdL n v.cells.toList = true := by
  cases v with
  | agg a => rw [bdV_agg] at h; exact h
  | _ => simpa [Value.cells, bdL] using h

/-- The part of a map below a number. -/
def Mu.cut (μ : Mu) (n : Nat) : Mu := fun b => if b < n then μ b else none
theorem Mu.cut_some {μ : Mu} {n b : Nat} {L : Loc} (h : μ b = some L) (hb : b < n) : μ.cut n b = some L := by simp [Mu.cut, hb, h]
theorem Mu.cut_le {μ : Mu} {n b : Nat} {L : Loc} (h : μ.cut n b = some L) : μ b = some L ∧ b < n := by
  unfold Mu.cut at h
  split at h
  · exact ⟨h, by assumption⟩
  · cases h

theorem VRel.cut {μ : Mu} {n : Nat} {v v' : Value} (h : VRel μ v v') (hb : bdV n v = true) : VRel (μ.cut n) v v' := by
  have arr : ∀ {xs ys : Array Value}, bdL n xs.toList = true → (∀ (i : Nat) (x y : Value), xs[i]? = some x → ys[i]? = some y → bdV n x = true → VRel (μ.cut n) x y) → ∀ (i : Nat) (x y : Value), xs[i]? = some x → ys[i]? = some y → VRel (μ.cut n) x y := by
    intro xs ys hl ih i x y hx hy
    exact ih i x y hx hy (bdL_get (i := i) hl (by simpa using hx))
  induction h with
  | flat h => exact .flat h
  | ptr h => simp only [bdV, decide_eq_true_eq] at hb; exact .ptr (Mu.cut_some h hb)
  | slice h => simp only [bdV, decide_eq_true_eq] at hb; exact .slice (Mu.cut_some h hb)
  | hid h a b c d e => simp only [bdV, decide_eq_true_eq] at hb; exact .hid (Mu.cut_some h hb) a b c d e
  | hemp h => simp only [bdV, decide_eq_true_eq] at hb; exact .hemp (Mu.cut_some h hb)
  | map h => simp only [bdV, decide_eq_true_eq] at hb; exact .map (Mu.cut_some h hb)
  | zer => exact .zer
  | agg hs _ ih => rw [bdV_agg] at hb; exact .agg hs (arr hb ih)
  | tuple hs _ ih => rw [bdV_tuple] at hb; exact .tuple hs (arr hb ih)
  | @func f g a b c d hf h1 _ h3 _ i1 i2 =>
    obtain ⟨la⟩ := a
    obtain ⟨lc⟩ := c
    simp only [bdV, Bool.and_eq_true] at hb
    refine .func ?_ h1 (arr hb.2.1 i1) h3 (arr hb.2.2 i2)
    cases f with
    | yield l => obtain ⟨L, h5, h6⟩ := hf; exact ⟨L, Mu.cut_some h5 (by simpa [bdF] using hb.1), h6⟩
    | _ => exact hf
  | iface _ ih => simp only [bdV] at hb; exact .iface (ih hb)
theorem LRel.cut {μ : Mu} {n : Nat} {v v' : List Value} (h : LRel μ v v') (hb : bdL n v = true) : LRel (μ.cut n) v v' :=
  ⟨h.1, fun i x y hx hy => (h.2 i x y hx hy).cut (bdL_get hb hx)⟩

theorem CRel.cut {μ : Mu} {n : Nat} {v v' : List Value} (h : CRel μ v v') (hb : bdL n v = true) : CRel (μ.cut n) v v' :=
  ⟨h.1, fun i x y hx hy hh => (h.2 i x y hx hy hh).cut (bdL_get hb hx)⟩

/-- The cells of all living blocks lead to numbers that are given. -/
def bdO (n : Nat) : MObj → Bool
  | .map es _ => es.all fun x => bdV n x.1 && bdV n x.2.1
  | .iter m _ _ _ => match m with
    | some b => decide (b < n)
    | none => true
  | .loop _ _ tmps _ _ _ => bdL n tmps
theorem bdO_mono {n m : Nat} (h : n ≤ m) {o : MObj} (e : bdO n o = true) : bdO m o = true := by
  cases o with
  | map es c =>
    simp only [bdO, List.all_eq_true, Bool.and_eq_true] at e ⊢
    exact fun x hx => ⟨bdV_mono h (e x hx).1, bdV_mono h (e x hx).2⟩
  | iter m' a b c =>
    cases m' with
    | none => rfl
    | some q => simp only [bdO, decide_eq_true_eq] at e ⊢; omega
  | loop a b c d f g => exact bdL_mono (l := c) h e
theorem MRel.cut {μ : Mu} {n : Nat} {o : MObj} {ob : Obj} (h : MRel μ o ob) (hb : bdO n o = true) : MRel (μ.cut n) o ob := by
  cases o with
  | map es c =>
    cases ob with
    | map es' c' =>
      obtain ⟨h1, h2, h3⟩ := h
      simp only [bdO, List.all_eq_true, Bool.and_eq_true] at hb
      refine ⟨h1, h2, fun i x e hx he => ?_⟩
      have hm := hb x (List.mem_of_getElem? hx)
      obtain ⟨k1, k2, k3⟩ := h3 i x e hx he
      exact ⟨k1.cut hm.1, k2.cut hm.2, k3⟩
    | _ => exact h.elim
  | iter m since seen st =>
    cases ob with
    | mapIter m' since' seen' st' =>
      obtain ⟨h1, h2⟩ := h
      refine ⟨?_, h2⟩
      cases m with
      | none => cases m' with
        | none => trivial
        | some B => exact h1
      | some a =>
        cases m' with
        | none => exact h1
        | some B =>
          obtain ⟨L, h3, h4⟩ := h1
          exact ⟨L, Mu.cut_some h3 (by simpa [bdO] using hb), h4⟩
    | _ => exact h.elim
  | loop st pend tmps params assign body =>
    cases ob with
    | loop r =>
      obtain ⟨h1, h2, h3, h4⟩ := h
      exact ⟨h1, h2, h3.cut hb, h4⟩
    | _ => exact h.elim
structure HeapBd (h : Heap) : Prop where
  cell : ∀ b k, h.get b = some k → bdL h.next k = true
  obj : ∀ b o, h.getB b = some (.obj o) → bdO h.next o = true
instance {h : Heap} : CoeFun (HeapBd h) (fun _ => ∀ b k, h.get b = some k → bdL h.next k = true) := ⟨HeapBd.cell⟩

theorem Sim.cut {μ : Mu} {h : Heap} {w : World} (s : Sim μ h w) (hb : HeapBd h) : Sim (μ.cut h.next) h w := by
  have hle := h.n0_le_next
  refine ⟨?_, ?_, ?_, ?_, s.size, ?_⟩
  · intro b cs hbn hc
    obtain ⟨L, arr, T, fr, h1, h2, h3, h4, h5⟩ := s.old b cs hbn hc
    refine ⟨L, arr, T, fr, Mu.cut_some h1 (by omega), h2, h3, h4, h5.cut (hb b cs ?_)⟩
    unfold Heap.get; simp only [Heap.getB_eq]
    rw [if_pos hbn, hc]; rfl
  · intro b k hbn hg
    obtain ⟨L, arr, T, fr, h1, h2, h3, h4, h5, h6, h7, h8⟩ := s.new b k hbn hg
    exact ⟨L, arr, T, fr, Mu.cut_some h1 (h.lt_of_get hg), h2, h3, h4, h5, h6, h7, h8.cut (hb b k hg)⟩
  · intro b o hbn hg
    obtain ⟨L, ob, h1, h2, h3, h4⟩ := s.obj b o hbn hg
    exact ⟨L, ob, Mu.cut_some h1 (h.lt_of_getB hg), h2, h3.cut (hb.obj b o hg), h4⟩
  · intro b b' k k' L L' h1 h2 h3 h4 h5 h6 h7
    exact s.inj b b' k k' L L' h1 h2 h3 h4 h5 (Mu.cut_le h6).1 (Mu.cut_le h7).1
  · intro b hbn
    obtain ⟨L, h1, h2⟩ := s.low b hbn
    exact ⟨L, Mu.cut_some h1 (by omega), h2⟩

theorem HeapBd.alloc {h : Heap} {k : Blk} (hb : HeapBd h) (hk : bdL (h.next + 1) k = true) : HeapBd (h.alloc k) := by
  refine ⟨fun b k' hg => ?_, fun b o hg => ?_⟩
  · rw [Heap.get_alloc] at hg
    rw [Heap.next_alloc]
    split at hg
    · cases hg; exact hk
    · exact bdL_mono (by omega) (hb b k' hg)
  · rw [Heap.getB_alloc] at hg
    rw [Heap.next_alloc]
    split at hg
    · cases hg
    · exact bdO_mono (by omega) (hb.obj b o hg)
theorem HeapBd.putB {h : Heap} {b : Nat} {x : Option BB} (hb : HeapBd h) (h0 : h.n0 ≤ b) (hn : b < h.next) (hk : ∀ k, x = some (.cells k) → bdL h.next k = true) (ho : ∀ o, x = some (.obj o) → bdO h.next o = true) : HeapBd (h.put b x) := by
  refine ⟨fun c k' hg => ?_, fun c o hg => ?_⟩
  · have hg := (h.put b x).getB_of_get hg
    rw [h.getB_put h0 hn] at hg
    rw [Heap.next_put]
    split at hg
    · exact hk _ hg
    · exact hb c k' (h.get_of_getB hg)
  · rw [h.getB_put h0 hn] at hg
    rw [Heap.next_put]
    split at hg
    · exact ho _ hg
    · exact hb.obj c o hg
theorem HeapBd.setO {h : Heap} {b : Nat} {k : BB} {o : MObj} (hb : HeapBd h) (h0 : h.n0 ≤ b) (hg : h.getB b = some k) (ho : bdO h.next o = true) : HeapBd (h.setO b o) :=
  hb.putB h0 (h.lt_of_getB hg) (fun _ e => by cases e) (fun _ e => by cases e; exact ho)
theorem HeapBd.allocO {h : Heap} {o : MObj} (hb : HeapBd h) (ho : bdO (h.next + 1) o = true) : HeapBd (h.allocB (.obj o)) := by
  refine ⟨fun b k' hg => ?_, fun b o' hg => ?_⟩
  · have hg := (h.allocB _).getB_of_get hg
    rw [Heap.getB_allocB] at hg
    rw [Heap.next_allocB]
    split at hg
    · cases hg
    · exact bdL_mono (by omega) (hb b k' (h.get_of_getB hg))
  · rw [Heap.getB_allocB] at hg
    rw [Heap.next_allocB]
    split at hg
    · cases hg; exact ho
    · exact bdO_mono (by omega) (hb.obj b o' hg)
theorem HeapBd.put {h : Heap} {b : Nat} {x : Option Blk} (hb : HeapBd h) (h0 : h.n0 ≤ b) (hn : b < h.next) (hk : ∀ k, x = some k → bdL h.next k = true) : HeapBd (h.put b (x.map .cells)) := by
  refine hb.putB h0 hn (fun k hx => ?_) (fun o hx => ?_)
  · cases x with
    | none => cases hx
    | some k' => cases hx; exact hk _ rfl
  · cases x with
    | none => cases hx
    | some k' => cases hx
theorem HeapBd.stL {b off : Nat} {xs : List Value} {h h' : Heap} (hb : HeapBd h) (hx : bdL h.next xs = true) (e : stL b off xs h = some h') : HeapBd h' := by
  unfold Abs.stL at e
  split at e
  · rename_i k hk
    split at e
    · rename_i hc
      simp only [Bool.and_eq_true, decide_eq_true_eq] at hc
      cases e
      exact hb.put (x := some _) hc.1.1 (h.lt_of_get hk) (fun k' hk' => by cases hk'; exact bdL_splice (hb b k hk) hx)
    · cases e
  · cases e

section ops
variable {P : Program} {h h' : Heap} {v : Value}

theorem bd_first {size n : Nat} {x : Value} {cs : List Value} (hb : HeapBd h) (e : firstA size n x h = some cs) : bdL h.next cs = true := by
  unfold firstA at e
  split at e
  · split at e <;> cases e; rfl
  · split at e
    · cases e; rfl
    · split at e
      · rename_i k hk
        split at e
        · cases e; exact bdL_take (bdL_drop (hb _ k hk))
        · cases e
      · cases e
  · cases e
    exact bdL_flat (by rw [flatAll, List.all_eq_true]; intro x hx; obtain ⟨b, _, rfl⟩ := List.mem_map.1 hx; rfl)
  · cases e

theorem bd_fill {n : Nat} : ∀ {ts : List (Nat × Nat × Value)} {cells out : List Value}, bdL n cells = true → (∀ t ∈ ts, bdV n t.2.2 = true) → fillL cells ts = some out → bdL n out = true
  | [], cells, out, hc, _, e => by simp only [fillL, Option.some.injEq] at e; subst e; exact hc
  | (off, k, v) :: ts, cells, out, hc, ht, e => by
    simp only [fillL] at e
    split at e
    · exact bd_fill (ts := ts) (bdL_splice hc (bdL_cells (ht (off, k, v) (by simp)))) (fun t hm => ht t (by simp [hm])) e
    · cases e

theorem flat_zeros {z : List Value} {n : Nat} (h : flatAll z = true) : flatAll (zeros z n) = true := by
  simp only [flatAll, List.all_eq_true, zeros, List.mem_flatMap] at h ⊢
  rintro x ⟨_, _, hx⟩; exact h x hx

theorem bd_append {size by_ : Nat} {s x : Value} (hb : HeapBd h) (hs : bdV h.next s = true) (e : appendA size by_ s x h = some (v, h')) : bdV h'.next v = true ∧ HeapBd h' := by
  unfold appendA at e
  split at e
  · rename_i base len cap m hm
    split at e
    · cases e
    · rename_i news hnews
      have hn := bd_first hb hnews
      split at e
      · cases e
      · split at e
        · split at e
          · cases e; exact ⟨hs, hb⟩
          · split at e
            · simp only [Option.map_eq_some_iff, Prod.mk.injEq] at e
              obtain ⟨h1, hst, rfl, rfl⟩ := e
              have hgr : h1.next = h.next := by
                unfold stL at hst
                split at hst
                · split at hst
                  · cases hst; rfl
                  · cases hst
                · cases hst
              exact ⟨by rw [hgr]; simpa [bdV] using hs, hb.stL hn hst⟩
            · cases e
        · split at e
          · split at e
            · simp only [Option.some.injEq, Prod.mk.injEq] at e
              obtain ⟨rfl, rfl⟩ := e
              exact ⟨by simp [bdV], hb.alloc (bdL_mono (by omega) hn)⟩
            · cases e
          · split at e
            · cases e
            · rename_i olds holds
              have ho := bd_first hb holds
              split at e
              · cases e
              · split at e
                · simp only [Option.some.injEq, Prod.mk.injEq] at e
                  obtain ⟨rfl, rfl⟩ := e
                  exact ⟨by simp [bdV], hb.alloc (bdL_mono (by omega) (bdL_append ho hn))⟩
                · split at e
                  · rename_i hc
                    simp only [Bool.and_eq_true, decide_eq_true_eq] at hc
                    obtain ⟨k, hk⟩ := Option.isSome_iff_exists.1 hc.2
                    simp only [Option.some.injEq, Prod.mk.injEq] at e
                    obtain ⟨rfl, rfl⟩ := e
                    have hkl : HeapBd (h.kill _) := hb.put (x := none) hc.1.2 (h.lt_of_get hk) (fun k' hk' => by cases hk')
                    exact ⟨by simp [bdV], hkl.alloc (bdL_mono (by simp) (bdL_append ho hn))⟩
                  · cases e
  · cases e

theorem next_stL {b off : Nat} {xs : List Value} (e : stL b off xs h = some h') : h'.next = h.next := by
  unfold stL at e
  split at e
  · split at e
    · cases e; rfl
    · cases e
  · cases e

theorem bd_ld {t : TypeId} {x : Value} (hb : HeapBd h) (e : ld P t x h = some (v, h')) : bdV h'.next v = true ∧ HeapBd h' := by
  unfold ld at e
  split at e
  · unfold ldN at e
    split at e
    · split at e
      · rename_i k hk
        split at e
        · simp only [Option.some.injEq, Prod.mk.injEq] at e
          obtain ⟨rfl, rfl⟩ := e
          exact ⟨by rw [bdV_agg]; exact bdL_take (bdL_drop (hb _ k hk)), hb⟩
        · cases e
      · cases e
    · cases e
  · unfold ld1 at e
    split at e
    · split at e
      · rename_i k hk
        split at e
        · rename_i c hc
          split at e
          · simp only [Option.some.injEq, Prod.mk.injEq] at e
            obtain ⟨rfl, rfl⟩ := e
            exact ⟨bdL_get (hb _ k hk) hc, hb⟩
          · cases e
        · cases e
      · cases e
    · cases e
  · cases e

theorem bd_st {t : TypeId} {x y : Value} (hb : HeapBd h) (hy : bdV h.next y = true) (e : st P t x y h = some (v, h')) : bdV h'.next v = true ∧ HeapBd h' := by
  unfold st at e
  split at e
  · unfold stN at e
    split at e
    · split at e
      · simp only [Option.map_eq_some_iff, Prod.mk.injEq] at e
        obtain ⟨h1, hst, rfl, rfl⟩ := e
        exact ⟨rfl, hb.stL (bdL_cells hy) hst⟩
      · cases e
    · cases e
  · cases e

theorem bd_sliceSl {n size : Nat} {x r : Value} {lo hi mx : Option Value} (hx : bdV n x = true) (e : sliceSl size x lo hi mx = some r) : bdV n r = true := by
  unfold sliceSl at e
  repeat' split at e
  all_goals first
    | (cases e; done)
    | (cases e; first | rfl | (simpa [bdV] using hx))
theorem bd_sliceArr {n k size : Nat} {x r : Value} {lo hi mx : Option Value} (hx : bdV n x = true) (e : sliceArr k size x lo hi mx = some r) : bdV n r = true := by
  unfold sliceArr at e
  repeat' split at e
  all_goals first
    | (cases e; done)
    | (cases e; simpa [bdV] using hx)
theorem bd_slice {n : Nat} {t : TypeId} {x r : Value} {lo hi mx : Option Value} (hx : bdV n x = true) (e : sliceA P t x lo hi mx = some r) : bdV n r = true := by
  unfold sliceA at e
  split at e
  · simp only [Option.bind_eq_some_iff] at e
    obtain ⟨z, _, e⟩ := e
    exact bd_sliceArr hx e
  · split at e
    · simp only [Option.bind_eq_some_iff] at e
      obtain ⟨z, _, e⟩ := e
      exact bd_sliceArr hx e
    · cases e
  · split at e
    · cases e
    · simp only [Option.bind_eq_some_iff] at e
      obtain ⟨z, _, e⟩ := e
      exact bd_sliceSl hx e
  · split at e
    · exact bd_sliceSl hx e
    · cases e
  · cases e
theorem bd_addP {n k : Nat} {x r : Value} (hx : bdV n x = true) (e : addP x k = some r) : bdV n r = true := by
  unfold addP at e
  split at e
  · cases e; simpa [bdV, ptr] using hx
  · cases e
theorem bd_fieldAt {n : Nat} {t : TypeId} {x r : Value} {i : Nat} (hx : bdV n x = true) (e : fieldAtA P t x i = some r) : bdV n r = true := by
  unfold fieldAtA at e
  repeat' split at e
  all_goals first
    | (cases e; done)
    | exact bd_addP hx e
theorem bd_indexAt {n : Nat} {t : TypeId} {x ix r : Value} (hx : bdV n x = true) (e : indexAtA P t x ix = some r) : bdV n r = true := by
  unfold indexAtA at e
  split at e
  · simp only [Option.bind_eq_some_iff] at e
    obtain ⟨z, _, e⟩ := e
    unfold idxA at e
    repeat' split at e
    all_goals first
      | (cases e; done)
      | exact bd_addP hx e
  · simp only [Option.bind_eq_some_iff] at e
    obtain ⟨z, _, e⟩ := e
    unfold idxS at e
    repeat' split at e
    all_goals first
      | (cases e; done)
      | (cases e; simpa [bdV, ptr] using hx)
  · cases e
theorem bd_part {n : Nat} {t : TypeId} {cs : Array Value} {off : Nat} {r : Value} (hx : bdL n cs.toList = true) (e : partA P t cs off = some r) : bdV n r = true := by
  unfold partA at e
  split at e
  · cases e
    rw [bdV_agg]
    have : ∀ k, (cs.extract off (off + k)).toList = (cs.toList.drop off).take k := by intro k; simp
    rw [this]
    exact bdL_take (bdL_drop hx)
  · exact bdL_get (i := off) hx (by simpa using e)
  · cases e
theorem bd_field {n : Nat} {t : TypeId} {x r : Value} {i : Nat} (hx : bdV n x = true) (e : fieldA P t x i = some r) : bdV n r = true := by
  unfold fieldA at e
  split at e
  · split at e
    · rw [bdV_agg] at hx; exact bd_part hx e
    · cases e
  · cases e
theorem bd_index {n : Nat} {t : TypeId} {x ix r : Value} (hx : bdV n x = true) (e : indexA P t x ix = some r) : bdV n r = true := by
  unfold indexA at e
  split at e
  · split at e
    · simp only [Option.bind_eq_some_iff] at e
      obtain ⟨z, _, e⟩ := e
      rw [bdV_agg] at hx; exact bd_part hx e
    · cases e
  · split at e
    · simp only [Option.map_eq_some_iff] at e
      obtain ⟨b, _, rfl⟩ := e
      rfl
    · cases e
  · cases e
theorem bd_extract {n : Nat} {x r : Value} {i : Nat} (hx : bdV n x = true) (e : extractA x i = some r) : bdV n r = true := by
  unfold extractA at e
  split at e
  · rw [bdV_tuple] at hx; exact bdL_get (i := i) hx (by simpa using e)
  · cases e
theorem bd_nil {n : Nat} {x r : Value} (hx : bdV n x = true) (e : nilCheckA x = some r) : bdV n r = true := by
  unfold nilCheckA at e
  split at e <;> cases e <;> exact hx
theorem bd_build {n : Nat} {t : TypeId} {ps : List (Nat × Value)} {r : Value} (hx : ∀ p ∈ ps, bdV n p.2 = true) (e : buildA P t ps = some r) : bdV n r = true := by
  unfold buildA at e
  split at e
  · split at e
    · rename_i hf
      simp only [Bool.and_eq_true] at hf
      split at e
      · rename_i ts hts
        simp only [Option.map_eq_some_iff] at e
        obtain ⟨cs, hcs, rfl⟩ := e
        rw [bdV_agg]
        refine bd_fill (bdL_flat hf.1) ?_ hcs
        have key : ∀ {fs : Array Field} {ps : List (Nat × Value)} {ts}, (∀ p ∈ ps, bdV n p.2 = true) → fieldPlaces P fs ps = some ts → ∀ t ∈ ts, bdV n t.2.2 = true := by
          intro fs ps
          induction ps with
          | nil => intro ts _ h; simp [fieldPlaces] at h; subst h; simp
          | cons p ps ih =>
            intro ts hp h
            unfold fieldPlaces at h
            rw [List.mapM_cons] at h
            simp only [bind, Option.bind_eq_some_iff, pure, Option.some.injEq] at h
            obtain ⟨a, ha, l, hl, rfl⟩ := h
            split at ha
            · simp only [Option.map_eq_some_iff] at ha
              obtain ⟨k, _, rfl⟩ := ha
              intro t ht
              rcases List.mem_cons.1 ht with rfl | ht
              · exact hp p (by simp)
              · exact ih (fun q hq => hp q (by simp [hq])) hl t ht
            · cases ha
        exact key hx hts
      · cases e
    · cases e
  · split at e
    · split at e
      · rename_i hf
        simp only [Option.map_eq_some_iff] at e
        obtain ⟨cs, hcs, rfl⟩ := e
        rw [bdV_agg]
        refine bd_fill (bdL_flat hf) ?_ hcs
        intro t ht
        obtain ⟨p, hp, rfl⟩ := List.mem_map.1 ht
        exact hx p hp
      · cases e
    · cases e
  · cases e

theorem bd_conv {s d : TypeId} {x : Value} (hb : HeapBd h) (hx : bdV h.next x = true) (e : convA P s d x h = some (v, h')) : bdV h'.next v = true ∧ HeapBd h' := by
  unfold convA at e
  repeat' split at e
  all_goals first
    | (cases e; done)
    | (simp only [Option.some.injEq, Prod.mk.injEq] at e
       obtain ⟨rfl, rfl⟩ := e
       first
         | exact ⟨rfl, hb⟩
         | exact ⟨hx, hb⟩
         | exact ⟨by simp [bdV], hb.alloc (bdL_flat (by rw [flatAll, List.all_eq_true]; intro x hx; obtain ⟨b, _, rfl⟩ := List.mem_map.1 hx; rfl))⟩)
theorem bd_make {t : TypeId} {l c : Value} (hb : HeapBd h) (e : makeA P t l c h = some (v, h')) : bdV h'.next v = true ∧ HeapBd h' := by
  unfold makeA at e
  split at e
  · split at e
    · split at e
      · rename_i hc
        simp only [Bool.and_eq_true, decide_eq_true_eq] at hc
        simp only [Option.some.injEq, Prod.mk.injEq] at e
        obtain ⟨rfl, rfl⟩ := e
        exact ⟨by simp [bdV], hb.alloc (bdL_flat (flat_zeros hc.1.1.2))⟩
      · cases e
    · cases e
  · cases e
theorem bd_buildSlice {t : TypeId} {len : Nat} {ps : List (Nat × Value)} (hb : HeapBd h) (hx : ∀ p ∈ ps, bdV h.next p.2 = true) (e : buildSliceA P t len ps h = some (v, h')) : bdV h'.next v = true ∧ HeapBd h' := by
  unfold buildSliceA at e
  split at e
  · split at e
    · split at e
      · rename_i hc
        simp only [Bool.and_eq_true, decide_eq_true_eq] at hc
        split at e
        · rename_i cs hcs
          simp only [Option.some.injEq, Prod.mk.injEq] at e
          obtain ⟨rfl, rfl⟩ := e
          refine ⟨by simp [bdV], hb.alloc (bdL_mono (Nat.le_succ _) (bd_fill (bdL_flat (flat_zeros hc.1.1.1.1)) ?_ hcs))⟩
          intro t ht
          obtain ⟨p, hp, rfl⟩ := List.mem_map.1 ht
          exact hx p hp
        · cases e
      · cases e
    · cases e
  · cases e
theorem bd_minmax {n : Nat} {mx : Bool} : ∀ {l : List Value} {x r : Value}, bdV n x = true → minmax mx x l = some r → bdV n r = true
  | [], x, r, hx, e => by cases e; exact hx
  | y :: l, x, r, hx, e => by
    unfold minmax at e
    split at e
    · rename_i h; cases h
    · rename_i k a k' b rest heq
      cases heq
      split at e
      · exact bd_minmax (l := l) rfl e
      · cases e
    · cases e
theorem bd_entries {x : Value} {es : List (Value × Value × Nat)} (hb : HeapBd h) (e : entriesA x h = some es) : ∀ p ∈ es, bdV h.next p.1 = true ∧ bdV h.next p.2.1 = true := by
  unfold entriesA at e
  split at e
  · cases e; simp
  · split at e
    · rename_i b es' c hg
      cases e
      have := hb.obj _ _ hg
      simpa [bdO] using this
    · cases e
  · cases e
theorem findA_mem {t : TypeId} {k : Value} : ∀ {es : List (Value × Value × Nat)} {n i : Nat} {v : Value}, findA P t k es n = some (some (i, v)) → n ≤ i ∧ ∃ x, es[i - n]? = some x ∧ x.2.1 = v ∧ eqA P t k x.1 = some true
  | [], n, i, v, e => by simp [findA] at e
  | x :: es, n, i, v, e => by
    unfold findA at e
    split at e
    · rename_i he
      simp only [Option.some.injEq, Prod.mk.injEq] at e
      obtain ⟨rfl, rfl⟩ := e
      exact ⟨Nat.le_refl _, x, by simp, rfl, he⟩
    · obtain ⟨h1, y, h2, h3⟩ := findA_mem e
      refine ⟨by omega, y, ?_, h3⟩
      rw [show i - n = (i - (n + 1)) + 1 by omega]
      exact h2
    · cases e
theorem bd_lookup {t : TypeId} {x k : Value} {ok : Bool} (hb : HeapBd h) (e : lookupA P t x k ok h = some (v, h')) : bdV h'.next v = true ∧ HeapBd h' := by
  have gr : ∀ {z : Value}, ground z = true → bdV h.next z = true := by
    intro z hz
    cases z with
    | agg cs => rw [bdV_agg]; exact bdL_flat (by simpa [ground] using hz)
    | _ => exact bdV_flat hz
  unfold lookupA at e
  split at e
  · rename_i kt et es _ hes
    split at e
    · split at e
      · rename_i i v1 z hf hz
        obtain ⟨_, y, hy, rfl, _⟩ := findA_mem hf
        have hm := bd_entries hb hes y (List.mem_of_getElem? hy)
        simp only [Option.some.injEq, Prod.mk.injEq] at e
        obtain ⟨rfl, rfl⟩ := e
        refine ⟨?_, hb⟩
        split
        · simp [bdV, bdL, hm.2]
        · exact hm.2
      · rename_i z hz
        split at e
        · rename_i hgz
          simp only [Option.some.injEq, Prod.mk.injEq] at e
          obtain ⟨rfl, rfl⟩ := e
          refine ⟨?_, hb⟩
          split
          · simp [bdV, bdL, gr hgz]
          · exact gr hgz
        · cases e
      · cases e
    · cases e
  · cases e
theorem bd_ground {n : Nat} {z : Value} (hz : ground z = true) : bdV n z = true := by
  cases z with
  | agg cs => rw [bdV_agg]; exact bdL_flat (by simpa [ground] using hz)
  | _ => exact bdV_flat hz
theorem bd_entries_set {n : Nat} {es : List (Value × Value × Nat)} {c : Nat} {i : Nat} {x : Value × Value × Nat} (hb : bdO n (.map es c) = true) (h1 : bdV n x.1 = true) (h2 : bdV n x.2.1 = true) (c' : Nat) : bdO n (.map (es.set i x) c') = true := by
  simp only [bdO, List.all_eq_true, Bool.and_eq_true] at hb ⊢
  intro y hy
  rcases List.mem_or_eq_of_mem_set hy with h | h
  · exact hb y h
  · subst h; exact ⟨h1, h2⟩
theorem bd_entries_add {n : Nat} {es : List (Value × Value × Nat)} {c : Nat} {x : Value × Value × Nat} (hb : bdO n (.map es c) = true) (h1 : bdV n x.1 = true) (h2 : bdV n x.2.1 = true) (c' : Nat) : bdO n (.map (es ++ [x]) c') = true := by
  simp only [bdO, List.all_eq_true, Bool.and_eq_true] at hb ⊢
  intro y hy
  rcases List.mem_append.1 hy with h | h
  · exact hb y h
  · rw [List.mem_singleton.1 h]; exact ⟨h1, h2⟩
theorem bd_entries_get {n : Nat} {es : List (Value × Value × Nat)} {c i : Nat} {x : Value × Value × Nat} (hb : bdO n (.map es c) = true) (hx : es[i]? = some x) : bdV n x.1 = true ∧ bdV n x.2.1 = true := by
  simp only [bdO, List.all_eq_true, Bool.and_eq_true] at hb
  exact hb x (List.mem_of_getElem? hx)
theorem bd_mapUpdate {t : TypeId} {m k x : Value} (hb : HeapBd h) (hx : bdV h.next x = true) (e : mapUpdateA P t m k x h = some (v, h')) : bdV h'.next v = true ∧ HeapBd h' := by
  unfold mapUpdateA at e
  split at e
  · split at e
    · rename_i b es clock hg
      have ho := hb.obj _ _ hg
      have h0 := h.n0_of_obj hg
      split at e
      · rename_i hk
        simp only [Bool.and_eq_true] at hk
        have hkb := bd_ground (n := h.next) hk.2
        split at e
        · split at e
          · split at e
            · cases e
              exact ⟨rfl, hb.setO h0 hg (bd_entries_set ho hkb hx _)⟩
            · cases e
          · cases e
        · cases e
          exact ⟨rfl, hb.setO h0 hg (bd_entries_add ho hkb hx _)⟩
        · cases e
      · cases e
    · cases e
  · cases e
theorem bd_mapEntry {t : TypeId} {m k : Value} (hb : HeapBd h) (e : mapEntryA P t m k h = some (v, h')) : bdV h'.next v = true ∧ HeapBd h' := by
  unfold mapEntryA at e
  split at e
  · split at e
    · rename_i b es clock hg
      have ho := hb.obj _ _ hg
      have h0 := h.n0_of_obj hg
      split at e
      · rename_i hk
        simp only [Bool.and_eq_true] at hk
        have hkb := bd_ground (n := h.next) hk.2
        split at e
        · rename_i i v1 hf
          obtain ⟨_, y, hy, rfl, _⟩ := findA_mem hf
          split at e
          · rename_i x hx
            split at e
            · cases e
              have hm := bd_entries_get ho hx
              have hm2 := bd_entries_get ho hy
              exact ⟨by simp only [Heap.next_setO, bdV, bdL, Bool.and_true, hm2.2, Bool.true_and]; rfl, hb.setO h0 hg (bd_entries_set (x := (k, x.2.1, x.2.2)) ho hkb hm.2 _)⟩
            · cases e
          · cases e
        · split at e
          · rename_i z hz
            split at e
            · rename_i hgz
              cases e
              exact ⟨by simp only [Heap.next_setO, bdV, bdL, Bool.and_true, bd_ground hgz, Bool.true_and]; rfl, hb.setO h0 hg (bd_entries_add ho hkb (bd_ground hgz) _)⟩
            · cases e
          · cases e
        · cases e
      · cases e
    · cases e
  · cases e
theorem bd_entryStore {m s x : Value} (hb : HeapBd h) (hx : bdV h.next x = true) (e : entryStoreA m s x h = some (v, h')) : bdV h'.next v = true ∧ HeapBd h' := by
  unfold entryStoreA at e
  split at e
  · split at e
    · rename_i b n es clock hg
      have ho := hb.obj _ _ hg
      have h0 := h.n0_of_obj hg
      split at e
      · split at e
        · rename_i y hy
          cases e
          exact ⟨rfl, hb.setO h0 hg (bd_entries_set (x := (y.1, x, y.2.2)) ho (bd_entries_get ho hy).1 hx _)⟩
        · cases e
      · cases e
    · cases e
  · cases e
theorem bd_makeMap {r : Option Value} {t : TypeId} (hb : HeapBd h) (e : makeMapA r P t h = some (v, h')) : bdV h'.next v = true ∧ HeapBd h' := by
  unfold makeMapA at e
  split at e
  · cases e; exact ⟨by simp [bdV], hb.allocO rfl⟩
  · split at e
    · cases e; exact ⟨by simp [bdV], hb.allocO rfl⟩
    · cases e
  · cases e
theorem bd_range {t : TypeId} {x : Value} (hb : HeapBd h) (e : rangeA P t x h = some (v, h')) : bdV h'.next v = true ∧ HeapBd h' := by
  unfold rangeA at e
  split at e
  · cases e; exact ⟨by simp [bdV, ptr], hb.allocO rfl⟩
  · split at e
    · rename_i b es clock hg
      cases e
      have := h.lt_of_getB hg
      exact ⟨by simp [bdV, ptr], hb.allocO (by simp only [bdO, decide_eq_true_eq]; omega)⟩
    · cases e
  · cases e
theorem bd_nexts {it : Value} {l : List (Value × Heap)} (hb : HeapBd h) (e : nextsA it h = some l) : ∀ p ∈ l, bdV p.2.next p.1 = true ∧ HeapBd p.2 := by
  unfold nextsA at e
  split at e
  · split at e
    · cases e
      intro p hp
      rw [List.mem_singleton.1 hp]
      exact ⟨rfl, hb⟩
    · rename_i r m since seen last hr
      split at e
      · rename_i es clock hm
        simp only [Option.map_eq_some_iff] at e
        obtain ⟨cs, hc, rfl⟩ := e
        intro p hp
        obtain ⟨c, hcm, rfl⟩ := List.mem_map.1 hp
        cases c with
        | none => exact ⟨rfl, hb⟩
        | some c =>
          unfold candsA at hc
          split at hc
          · cases hc
          · simp only [Option.some.injEq] at hc
            subst hc
            have hin : c ∈ es := by
              rcases List.mem_append.1 hcm with h1 | h1
              · split at h1
                · simp at h1
                · cases h1
              · simp only [List.map_append, List.mem_append, List.mem_map, Option.some.injEq, exists_eq_right] at h1
                rcases h1 with h1 | h1
                · exact (List.mem_filter.1 (List.mem_filter.1 h1).1).1
                · exact (List.mem_filter.1 (List.mem_filter.1 h1).1).1
            have hbm := hb.obj _ _ hm
            simp only [bdO, List.all_eq_true, Bool.and_eq_true] at hbm
            have hq := hbm c hin
            refine ⟨by simp only [stepTo, Heap.next_setO, bdV, bdL, hq.1, hq.2, Bool.and_self], hb.setO (h.n0_of_obj hr) hr ?_⟩
            simp only [bdO, decide_eq_true_eq]
            exact h.lt_of_getB hm
      · cases e
    · cases e
  · cases e
theorem bd_next {it : Value} {str : Bool} (hb : HeapBd h) (e : nextA it str h = some (v, h')) : bdV h'.next v = true ∧ HeapBd h' := by
  unfold nextA at e
  split at e
  · cases e
  · split at e
    · rename_i r hr
      cases e
      exact bd_nexts hb hr (v, h') (by simp)
    · cases e
theorem bd_delete {t : TypeId} {m k : Value} (hb : HeapBd h) (e : deleteA P t m k h = some (v, h')) : bdV h'.next v = true ∧ HeapBd h' := by
  unfold deleteA at e
  split at e
  · split at e
    · split at e
      · cases e; exact ⟨rfl, hb⟩
      · split at e
        · rename_i b es clock hg
          have ho := hb.obj _ _ hg
          have h0 := h.n0_of_obj hg
          split at e
          · cases e
            refine ⟨rfl, hb.setO h0 hg ?_⟩
            simp only [bdO, List.all_eq_true, Bool.and_eq_true] at ho ⊢
            exact fun x hx => ho x (List.mem_of_mem_eraseIdx hx)
          · cases e
            exact ⟨rfl, hb.setO h0 hg ho⟩
          · cases e
        · cases e
      · cases e
    · cases e
  · cases e
theorem bd_mapClear {x : Value} (hb : HeapBd h) (e : mapClearA x h = some (v, h')) : bdV h'.next v = true ∧ HeapBd h' := by
  unfold mapClearA at e
  split at e
  · cases e; exact ⟨rfl, hb⟩
  · split at e
    · rename_i b es clock hg
      cases e
      exact ⟨rfl, hb.setO (h.n0_of_obj hg) hg rfl⟩
    · cases e
  · cases e
theorem bd_builtin {b : Builtin} {ts : List TypeId} {args : List Value} (hb : HeapBd h) (ha : bdL h.next args = true) (e : builtinA P b ts args h = some (v, h')) : bdV h'.next v = true ∧ HeapBd h' := by
  unfold builtinA at e
  split at e
  · simp only [bdL, Bool.and_eq_true] at ha
    repeat' split at e
    all_goals first
      | (cases e; done)
      | exact bd_append hb ha.1 e
  · split at e
    · simp only [Option.bind_eq_some_iff] at e
      obtain ⟨n, _, e⟩ := e
      unfold copyA at e
      split at e
      · simp only at e
        split at e
        · cases e
        · rename_i news hn
          split at e
          · cases e; exact ⟨rfl, hb⟩
          · split at e
            · cases e
            · simp only [Option.map_eq_some_iff, Prod.mk.injEq] at e
              obtain ⟨h1, hst, rfl, rfl⟩ := e
              exact ⟨rfl, hb.stL (bd_first hb hn) hst⟩
      · cases e
    · cases e
  · split at e
    · simp only [Option.bind_eq_some_iff] at e
      obtain ⟨n, _, e⟩ := e
      unfold clearA at e
      split at e
      · cases e; exact ⟨rfl, hb⟩
      · split at e
        · cases e; exact ⟨rfl, hb⟩
        · split at e
          · split at e
            · rename_i hc
              simp only [Bool.and_eq_true, decide_eq_true_eq] at hc
              simp only [Option.map_eq_some_iff, Prod.mk.injEq] at e
              obtain ⟨h1, hst, rfl, rfl⟩ := e
              exact ⟨rfl, hb.stL (bdL_flat (flat_zeros hc.1.1)) hst⟩
            · cases e
          · cases e
      · cases e
    · split at e
      · exact bd_mapClear hb e
      · cases e
  · split at e
    · rename_i r hr
      cases e
      unfold lenOfT at hr
      repeat' split at hr
      all_goals first
        | (cases hr; done)
        | (cases hr; exact ⟨rfl, hb⟩)
    · split at e
      · simp only [Option.map_eq_some_iff, Prod.mk.injEq] at e
        obtain ⟨r, hr, rfl, rfl⟩ := e
        unfold mapLenA at hr
        simp only [Option.map_eq_some_iff] at hr
        obtain ⟨_, _, rfl⟩ := hr
        exact ⟨rfl, hb⟩
      · cases e
  · exact bd_delete hb e
  · simp only [bdL, Bool.and_eq_true] at ha
    simp only [Option.map_eq_some_iff, Prod.mk.injEq] at e
    obtain ⟨r, hr, rfl, rfl⟩ := e
    exact ⟨bd_minmax ha.1 hr, hb⟩
  · simp only [bdL, Bool.and_eq_true] at ha
    simp only [Option.map_eq_some_iff, Prod.mk.injEq] at e
    obtain ⟨r, hr, rfl, rfl⟩ := e
    exact ⟨bd_minmax ha.1 hr, hb⟩
  · cases e
end ops
end
end Go.Abs

