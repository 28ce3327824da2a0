/-
  The abstract machine: the tree of blocks and the heap as maps; how abstract values and heaps stand to the model's.
  Conditions: none (definitions and lemmas).
-/
import Derived.Test.YtcmfgmhadeeieaaA1
namespace Go.Abs

theorem Tr.get_setF : ∀ (f : Nat) (t : Tr) (n : Nat) (x : Option Blk) (m : Nat), n < f → (Tr.setF f t n x).get m = if m = n then x else t.get m
  | 0, _, _, _, _, h => by omega
  | f + 1, .nil, n, x, m, h => by
    unfold Tr.setF
    by_cases h0 : n = 0
    · subst h0
      simp only [if_true, Tr.get]
      by_cases hm : m = 0
      · simp [hm]
      · simp [hm]
    · rw [if_neg h0]
      by_cases h1 : n % 2 = 1
      · rw [if_pos h1]
        simp only [Tr.get]
        by_cases hm : m = 0
        · have : ¬ m = n := by omega
          simp [hm, Ne.symm h0]
        · rw [if_neg hm]
          by_cases hm1 : m % 2 = 1
          · rw [if_pos hm1, Tr.get_setF f .nil (n / 2) x (m / 2) (by omega)]
            by_cases e : m = n
            · subst e; simp
            · rw [if_neg e, if_neg (by omega)]; simp [Tr.get]
          · rw [if_neg hm1, if_neg (by intro e; subst e; exact hm1 h1)]
      · rw [if_neg h1]
        simp only [Tr.get]
        by_cases hm : m = 0
        · simp [hm, Ne.symm h0]
        · rw [if_neg hm]
          by_cases hm1 : m % 2 = 1
          · rw [if_pos hm1, if_neg (by intro e; subst e; exact h1 hm1)]
          · rw [if_neg hm1, Tr.get_setF f .nil (n / 2 - 1) x (m / 2 - 1) (by omega)]
            by_cases e : m = n
            · subst e; simp
            · rw [if_neg e, if_neg (by omega)]; simp [Tr.get]
  | f + 1, .node l v r, n, x, m, h => by
    unfold Tr.setF
    by_cases h0 : n = 0
    · subst h0
      simp only [if_true, Tr.get]
      by_cases hm : m = 0
      · simp [hm]
      · simp [hm]
    · rw [if_neg h0]
      by_cases h1 : n % 2 = 1
      · rw [if_pos h1]
        simp only [Tr.get]
        by_cases hm : m = 0
        · simp [hm, Ne.symm h0]
        · rw [if_neg hm]
          by_cases hm1 : m % 2 = 1
          · rw [if_pos hm1, Tr.get_setF f l (n / 2) x (m / 2) (by omega), if_neg hm, if_pos hm1]
            by_cases e : m = n
            · subst e; simp
            · rw [if_neg e, if_neg (by omega)]
          · rw [if_neg hm1, if_neg (by intro e; subst e; exact hm1 h1), if_neg hm, if_neg hm1]
      · rw [if_neg h1]
        simp only [Tr.get]
        by_cases hm : m = 0
        · simp [hm, Ne.symm h0]
        · rw [if_neg hm]
          by_cases hm1 : m % 2 = 1
          · rw [if_pos hm1, if_neg (by intro e; subst e; exact h1 hm1), if_neg hm, if_pos hm1]
          · rw [if_neg hm1, Tr.get_setF f r (n / 2 - 1) x (m / 2 - 1) (by omega), if_neg hm, if_neg hm1]
            by_cases e : m = n
            · subst e; simp
            · rw [if_neg e, if_neg (by omega)]

theorem Tr.get_set (t : Tr) (n : Nat) (x : Option Blk) (m : Nat) : (t.set n x).get m = if m = n then x else t.get m :=
  Tr.get_setF _ _ _ _ _ (by omega)

section
variable (h : Heap)
@[simp] theorem Heap.next_put (b : Nat) (x : Option Blk) : (h.put b x).next = h.next := rfl
@[simp] theorem Heap.next_set (b : Nat) (x : Blk) : (h.set b x).next = h.next := rfl
@[simp] theorem Heap.next_kill (b : Nat) : (h.kill b).next = h.next := rfl
@[simp] theorem Heap.next_alloc (x : Blk) : (h.alloc x).next = h.next + 1 := rfl
@[simp] theorem Heap.n0_put (b : Nat) (x : Option Blk) : (h.put b x).n0 = h.n0 := rfl
@[simp] theorem Heap.n0_set (b : Nat) (x : Blk) : (h.set b x).n0 = h.n0 := rfl
@[simp] theorem Heap.n0_kill (b : Nat) : (h.kill b).n0 = h.n0 := rfl
@[simp] theorem Heap.n0_alloc (x : Blk) : (h.alloc x).n0 = h.n0 := rfl
@[simp] theorem Heap.old_put (b : Nat) (x : Option Blk) : (h.put b x).old = h.old := rfl
@[simp] theorem Heap.old_set (b : Nat) (x : Blk) : (h.set b x).old = h.old := rfl
@[simp] theorem Heap.old_kill (b : Nat) : (h.kill b).old = h.old := rfl
@[simp] theorem Heap.old_alloc (x : Blk) : (h.alloc x).old = h.old := rfl
theorem Heap.n0_le_next : h.n0 ≤ h.next := Nat.le_add_right _ _

theorem Heap.get_alloc (x : Blk) (c : Nat) : (h.alloc x).get c = if c = h.next then some x else h.get c := by
  unfold Heap.get Heap.alloc Heap.next
  dsimp only
  by_cases h1 : c < h.n0
  · simp only [h1, if_true]
    rw [if_neg (by omega)]
  · rw [if_neg h1, if_neg h1]
    by_cases h2 : c = h.n0 + h.cnt
    · subst h2
      simp [Tr.get_set]
    · rw [if_neg h2]
      by_cases h3 : c < h.n0 + h.cnt
      · rw [if_pos (by omega), if_pos h3, Tr.get_set, if_neg (by omega)]
      · rw [if_neg (by omega), if_neg h3]

theorem Heap.get_put {b : Nat} (hb : h.n0 ≤ b) (hn : b < h.next) (x : Option Blk) (c : Nat) : (h.put b x).get c = if c = b then x else h.get c := by
  unfold Heap.next at hn
  unfold Heap.get Heap.put
  dsimp only
  by_cases h1 : c < h.n0
  · rw [if_pos h1, if_pos h1, if_neg (by omega)]
  · rw [if_neg h1, if_neg h1]
    by_cases h3 : c < h.n0 + h.cnt
    · rw [if_pos h3, if_pos h3, Tr.get_set]
      by_cases h2 : c = b
      · subst h2; simp
      · rw [if_neg h2, if_neg (by omega)]
    · rw [if_neg h3, if_neg h3, if_neg (by omega)]

theorem Heap.lt_of_get {b : Nat} {k : Blk} (hg : h.get b = some k) : b < h.next := by
  unfold Heap.get at hg
  unfold Heap.next
  split at hg
  · omega
  · split at hg
    · omega
    · cases hg

theorem Heap.get_next : h.get h.next = none := by
  cases hg : h.get h.next with
  | none => rfl
  | some k => exact absurd (h.lt_of_get hg) (by omega)
end

theorem Heap.get_set_same {h : Heap} {b : Nat} {k : Blk} (hb : h.n0 ≤ b) (hg : h.get b = some k) (x : Blk) : (h.set b x).get b = some x := by
  unfold Heap.set; rw [h.get_put hb (h.lt_of_get hg)]; simp
theorem Heap.get_set_other {h : Heap} {b c : Nat} (hb : h.n0 ≤ b) (hn : b < h.next) (x : Blk) (hc : c ≠ b) : (h.set b x).get c = h.get c := by
  unfold Heap.set; rw [h.get_put hb hn]; simp [hc]
theorem Heap.get_alloc_some {h : Heap} {b : Nat} {k : Blk} (hg : h.get b = some k) (x : Blk) : (h.alloc x).get b = some k := by
  rw [h.get_alloc, if_neg (by have := h.lt_of_get hg; omega)]; exact hg

/-- Where an abstract block lies: concrete block, its first cell, the concrete block's cells, its own cells. -/
structure Loc where
  blk : Nat
  off : Nat
  ext : Nat
  len : Nat

abbrev Mu := Nat → Option Loc

inductive VRel (μ : Mu) : Value → Value → Prop
  | flat {v : Value} (h : flat v = true) : VRel μ v v
  | ptr {b off : Nat} {L : Loc} (h : μ b = some L) : VRel μ (.pointer (some ⟨b, off, none⟩)) (.pointer (some ⟨L.blk, L.off + off, none⟩))
  | slice {b off len cap : Nat} {L : Loc} (h : μ b = some L) : VRel μ (.slice (some ⟨b, off, none⟩) len cap) (.slice (some ⟨L.blk, L.off + off, none⟩) len cap)
  | hid {b off len cap cap' s : Nat} {L : Loc} (h : μ b = some L) (hl : len ≤ cap) (hc : cap ≤ cap') (hm : cap' ≤ maxLen) (h1 : off + cap * s = L.len)
      (h2 : L.off + off + cap' * s ≤ L.ext) : VRel μ (.slice (some ⟨b, off, some s⟩) len cap) (.slice (some ⟨L.blk, L.off + off, none⟩) len cap')
  | hemp {b off s O : Nat} {L : Loc} (h : μ b = some L) : VRel μ (.slice (some ⟨b, off, some s⟩) 0 0) (.slice (some ⟨L.blk, O, none⟩) 0 0)
  | agg {xs ys : Array Value} (hs : xs.size = ys.size) (h : ∀ (i : Nat) (x y : Value), xs[i]? = some x → ys[i]? = some y → VRel μ x y) : VRel μ (.agg xs) (.agg ys)
  | tuple {xs ys : Array Value} (hs : xs.size = ys.size) (h : ∀ (i : Nat) (x y : Value), xs[i]? = some x → ys[i]? = some y → VRel μ x y) : VRel μ (.tuple xs) (.tuple ys)
  | func {f : Fn} {a b c d : Array Value} (h1 : a.size = b.size) (h2 : ∀ (i : Nat) (x y : Value), a[i]? = some x → b[i]? = some y → VRel μ x y)
      (h3 : c.size = d.size) (h4 : ∀ (i : Nat) (x y : Value), c[i]? = some x → d[i]? = some y → VRel μ x y) : VRel μ (.func f a c) (.func f b d)
  | iface {t : TypeId} {x y : Value} (h : VRel μ x y) : VRel μ (.iface t x) (.iface t y)

theorem VRel.undef (μ : Mu) : VRel μ undef undef := .tuple rfl (by intro i x y h; simp at h)

theorem VRel.mono {μ μ' : Mu} {v v' : Value} (h : VRel μ v v') (hm : ∀ b L, μ b = some L → μ' b = some L) : VRel μ' v v' := by
  induction h with
  | flat h => exact .flat h
  | ptr h => exact .ptr (hm _ _ h)
  | slice h => exact .slice (hm _ _ h)
  | hid h hl hc hx h1 h2 => exact .hid (hm _ _ h) hl hc hx h1 h2
  | hemp h => exact .hemp (hm _ _ h)
  | agg hs _ ih => exact .agg hs ih
  | tuple hs _ ih => exact .tuple hs ih
  | func h1 _ h3 _ i1 i2 => exact .func h1 i1 h3 i2
  | iface _ ih => exact .iface ih

/-- Lists, place by place. -/
def LRel (μ : Mu) (xs ys : List Value) : Prop := xs.length = ys.length ∧ ∀ (i : Nat) (x y : Value), xs[i]? = some x → ys[i]? = some y → VRel μ x y

theorem LRel.mono {μ μ' : Mu} {v v' : List Value} (h : LRel μ v v') (hm : ∀ b L, μ b = some L → μ' b = some L) : LRel μ' v v' :=
  ⟨h.1, fun i x y hx hy => (h.2 i x y hx hy).mono hm⟩
theorem LRel.nil (μ : Mu) : LRel μ [] [] := ⟨rfl, by simp⟩
theorem LRel.cons {μ : Mu} {x y : Value} {xs ys : List Value} (h : VRel μ x y) (ht : LRel μ xs ys) : LRel μ (x :: xs) (y :: ys) := by
  refine ⟨by simp [ht.1], fun i a b ha hb => ?_⟩
  cases i with
  | zero => simp at ha hb; subst ha hb; exact h
  | succ i => simp at ha hb; exact ht.2 i a b ha hb
theorem LRel.head {μ : Mu} {x y : Value} {xs ys : List Value} (h : LRel μ (x :: xs) (y :: ys)) : VRel μ x y := h.2 0 x y rfl rfl
theorem LRel.tail {μ : Mu} {x y : Value} {xs ys : List Value} (h : LRel μ (x :: xs) (y :: ys)) : LRel μ xs ys :=
  ⟨by have := h.1; simpa using this, fun i a b ha hb => h.2 (i + 1) a b ha hb⟩
theorem LRel.get {μ : Mu} {xs ys : List Value} (h : LRel μ xs ys) {i : Nat} {x : Value} (hx : xs[i]? = some x) : ∃ y, ys[i]? = some y ∧ VRel μ x y := by
  have hi : i < ys.length := by rw [← h.1]; exact (List.getElem?_eq_some_iff.1 hx).1
  exact ⟨ys[i], List.getElem?_eq_getElem hi, h.2 i x _ hx (List.getElem?_eq_getElem hi)⟩
theorem LRel.getD {μ : Mu} {xs ys : List Value} (h : LRel μ xs ys) (i : Nat) : VRel μ (xs.getD i Go.undef) (ys.getD i Go.undef) := by
  rw [List.getD_eq_getElem?_getD, List.getD_eq_getElem?_getD]
  cases hx : xs[i]? with
  | none =>
    have : ys[i]? = none := by rw [List.getElem?_eq_none_iff] at hx ⊢; rw [← h.1]; exact hx
    rw [this]; exact VRel.undef μ
  | some x =>
    obtain ⟨y, hy, hv⟩ := h.get hx
    rw [hy]; exact hv
theorem LRel.append {μ : Mu} {a b c d : List Value} (h : LRel μ a b) (k : LRel μ c d) : LRel μ (a ++ c) (b ++ d) := by
  refine ⟨by simp [h.1, k.1], fun i x y hx hy => ?_⟩
  by_cases hi : i < a.length
  · rw [List.getElem?_append_left hi] at hx
    rw [List.getElem?_append_left (h.1 ▸ hi)] at hy
    exact h.2 i x y hx hy
  · rw [List.getElem?_append_right (by omega)] at hx
    rw [List.getElem?_append_right (by rw [← h.1]; omega), ← h.1] at hy
    exact k.2 _ x y hx hy
theorem LRel.take {μ : Mu} {a b : List Value} (h : LRel μ a b) (n : Nat) : LRel μ (a.take n) (b.take n) := by
  refine ⟨by simp [h.1], fun i x y hx hy => ?_⟩
  rw [List.getElem?_take] at hx hy
  split at hx
  · rename_i hi; rw [if_pos hi] at hy; exact h.2 i x y hx hy
  · cases hx
theorem LRel.drop {μ : Mu} {a b : List Value} (h : LRel μ a b) (n : Nat) : LRel μ (a.drop n) (b.drop n) := by
  refine ⟨by simp [h.1], fun i x y hx hy => ?_⟩
  rw [List.getElem?_drop] at hx hy
  exact h.2 _ x y hx hy
theorem LRel.splice {μ : Mu} {a b c d : List Value} (h : LRel μ a b) (k : LRel μ c d) (off : Nat) : LRel μ (splice a off c) (splice b off d) := by
  unfold Abs.splice
  rw [← k.1]
  exact ((h.take off).append k).append (h.drop _)
theorem LRel.set {μ : Mu} {a b : List Value} (h : LRel μ a b) (n : Nat) {x y : Value} (hv : VRel μ x y) : LRel μ (a.set n x) (b.set n y) := by
  refine ⟨by simp [h.1], fun i u v hu hv' => ?_⟩
  rw [List.getElem?_set] at hu hv'
  by_cases e : n = i
  · subst e
    simp only [if_true] at hu hv'
    split at hu
    · rename_i hl
      simp only [Option.some.injEq] at hu
      rw [if_pos (h.1 ▸ hl)] at hv'
      simp only [Option.some.injEq] at hv'
      subst hu hv'; exact hv
    · cases hu
  · rw [if_neg e] at hu hv'; exact h.2 i u v hu hv'
theorem LRel.replicate (μ : Mu) (n : Nat) {x y : Value} (hv : VRel μ x y) : LRel μ (List.replicate n x) (List.replicate n y) := by
  refine ⟨by simp, fun i u v hu hv' => ?_⟩
  simp only [List.getElem?_replicate] at hu hv'
  split at hu
  · rename_i hi; rw [if_pos hi] at hv'; simp at hu hv'; subst hu hv'; exact hv
  · cases hu
theorem LRel.of_flat {μ : Mu} {l : List Value} (h : flatAll l = true) : LRel μ l l := by
  refine ⟨rfl, fun i x y hx hy => ?_⟩
  rw [hx] at hy; cases hy
  have := List.mem_of_getElem? hx
  exact .flat (List.all_eq_true.1 h x this)

theorem VRel.agg_iff {μ : Mu} {xs : Array Value} {v : Value} (h : VRel μ (.agg xs) v) : ∃ ys, v = .agg ys ∧ LRel μ xs.toList ys.toList := by
  cases h with
  | flat h => simp [Abs.flat] at h
  | agg hs h => exact ⟨_, rfl, by simpa using hs, fun i x y hx hy => h i x y (by simpa using hx) (by simpa using hy)⟩
theorem VRel.tuple_iff {μ : Mu} {xs : Array Value} {v : Value} (h : VRel μ (.tuple xs) v) : ∃ ys, v = .tuple ys ∧ LRel μ xs.toList ys.toList := by
  cases h with
  | flat h => simp [Abs.flat] at h
  | tuple hs h => exact ⟨_, rfl, by simpa using hs, fun i x y hx hy => h i x y (by simpa using hx) (by simpa using hy)⟩
theorem VRel.of_list_agg {μ : Mu} {xs ys : List Value} (h : LRel μ xs ys) : VRel μ (.agg xs.toArray) (.agg ys.toArray) :=
  .agg (by simpa using h.1) (fun i x y hx hy => h.2 i x y (by simpa using hx) (by simpa using hy))
theorem VRel.of_list_tuple {μ : Mu} {xs ys : List Value} (h : LRel μ xs ys) : VRel μ (.tuple xs.toArray) (.tuple ys.toArray) :=
  .tuple (by simpa using h.1) (fun i x y hx hy => h.2 i x y (by simpa using hx) (by simpa using hy))
theorem VRel.flat_eq {μ : Mu} {x v : Value} (h : VRel μ x v) (hf : Abs.flat x = true) : v = x := by
  cases h with
  | flat _ => rfl
  | func h1 _ h3 _ =>
    rename_i f a b c d _ _
    cases f <;> simp [Abs.flat] at hf
    obtain ⟨ha, hc⟩ := hf
    subst ha hc
    have hb : b = #[] := Array.eq_empty_of_size_eq_zero (by simpa using h1.symm)
    have hd : d = #[] := Array.eq_empty_of_size_eq_zero (by simpa using h3.symm)
    rw [hb, hd]
  | _ => simp [Abs.flat] at hf
theorem LRel.flat_eq {μ : Mu} {xs ys : List Value} (h : LRel μ xs ys) (hf : flatAll xs = true) : ys = xs := by
  apply List.ext_getElem?
  intro i
  cases hx : xs[i]? with
  | none => rw [List.getElem?_eq_none_iff] at hx ⊢; rw [← h.1]; exact hx
  | some x =>
    obtain ⟨y, hy, hv⟩ := h.get hx
    rw [hy, hv.flat_eq (List.all_eq_true.1 hf x (List.mem_of_getElem? hx))]
theorem VRel.ground_eq {μ : Mu} {x v : Value} (h : VRel μ x v) (hf : ground x = true) : v = x := by
  cases x with
  | agg cs =>
    obtain ⟨ys, rfl, hl⟩ := h.agg_iff
    have := hl.flat_eq (by simpa [ground] using hf)
    rw [Array.toList_inj] at this
    rw [this]
  | _ => exact h.flat_eq (by simpa [ground] using hf)
theorem VRel.int {μ : Mu} {k : IntKind} {n : Int} {v : Value} (h : VRel μ (.int k n) v) : v = .int k n := h.flat_eq rfl
theorem VRel.bool {μ : Mu} {n : Bool} {v : Value} (h : VRel μ (.bool n) v) : v = .bool n := h.flat_eq rfl

/-- The cells of related values are related. -/
theorem VRel.cells {μ : Mu} {x y : Value} (h : VRel μ x y) : LRel μ x.cells.toList y.cells.toList := by
  cases h with
  | agg hs h => exact ⟨by simpa [Value.cells] using hs, fun i a b ha hb => h i a b (by simpa [Value.cells] using ha) (by simpa [Value.cells] using hb)⟩
  | flat h =>
    cases x <;> first | exact LRel.cons (.flat h) (LRel.nil μ) | (simp [Abs.flat] at h)
  | ptr h => exact LRel.cons (.ptr h) (LRel.nil μ)
  | slice h => exact LRel.cons (.slice h) (LRel.nil μ)
  | hid h a b c d e => exact LRel.cons (.hid h a b c d e) (LRel.nil μ)
  | hemp h => exact LRel.cons (.hemp h) (LRel.nil μ)
  | tuple a b => exact LRel.cons (.tuple a b) (LRel.nil μ)
  | func a b c d => exact LRel.cons (.func a b c d) (LRel.nil μ)
  | iface a => exact LRel.cons (.iface a) (LRel.nil μ)

theorem VRel.oneCell {μ : Mu} {x y : Value} (h : VRel μ x y) : y.oneCell' = x.oneCell' := by
  cases h <;> simp [Value.oneCell']
theorem LRel.oneCells {μ : Mu} {xs ys : List Value} (h : LRel μ xs ys) (ho : oneCells xs = true) : ∀ u ∈ ys, u.oneCell' = true := by
  intro u hu
  obtain ⟨i, hi⟩ := List.getElem?_of_mem hu
  have hl : i < xs.length := by rw [h.1]; exact (List.getElem?_eq_some_iff.1 hi).1
  have hx : xs[i]? = some xs[i] := List.getElem?_eq_getElem hl
  have := h.2 i _ _ hx hi
  rw [this.oneCell]
  exact List.all_eq_true.1 ho _ (List.getElem_mem hl)

/-- A concrete block holds an abstract one's cells. -/
def Holds (μ : Mu) (w : World) (n0 : Nat) (b : Nat) (k : Blk) : Prop :=
  ∃ L arr T fr, μ b = some L ∧ L.len = k.length ∧ w.heap[L.blk]? = some (.cells arr T fr) ∧ arr.size = L.ext ∧ L.off + L.len ≤ L.ext ∧
    (fr.1 = fr.2 ∨ arr.size ≤ fr.1) ∧ n0 ≤ L.blk ∧ LRel μ k ((arr.toList.drop L.off).take L.len)

structure Sim (μ : Mu) (h : Heap) (w : World) : Prop where
  old : ∀ b cs, b < h.n0 → h.old b = some cs → ∃ L arr T fr, μ b = some L ∧ L.blk = b ∧ L.off = 0 ∧ w.heap[b]? = some (.cells arr T fr) ∧ LRel μ cs (arr.toList.take cs.length)
  new : ∀ b k, h.n0 ≤ b → h.get b = some k → Holds μ w h.n0 b k
  inj : ∀ b b' k k' L L', h.n0 ≤ b → h.n0 ≤ b' → b ≠ b' → h.get b = some k → h.get b' = some k' → μ b = some L → μ b' = some L' → L.blk ≠ L'.blk
  size : h.n0 ≤ w.heap.size
  low : ∀ b, b < h.n0 → ∃ L, μ b = some L ∧ L.blk = b ∧ L.off = 0

/-- The concrete block belongs to a living block of the call's own. -/
def Own (μ : Mu) (h : Heap) (B : Nat) : Prop := ∃ b k L, h.n0 ≤ b ∧ h.get b = some k ∧ μ b = some L ∧ L.blk = B

structure Step (μ : Mu) (h : Heap) (w : World) (μ' : Mu) (h' : Heap) (w' : World) : Prop where
  ext : ∀ b, b < h.next ∨ h'.next ≤ b → μ' b = μ b
  n0 : h'.n0 = h.n0
  old : h'.old = h.old
  next : h.next ≤ h'.next
  os : w'.os = w.os
  tape : w'.tape = w.tape
  output : w'.output = w.output
  size : w.heap.size ≤ w'.heap.size
  same : ∀ B, B < w.heap.size → ¬ Own μ h B → w'.heap[B]? = w.heap[B]?
  own : ∀ B, Own μ' h' B → Own μ h B ∨ w.heap.size ≤ B

/-- The numbers that a run will give are not given yet. -/
def Free (μ : Mu) (h h' : Heap) : Prop := ∀ b, h.next ≤ b → b < h'.next → μ b = none

theorem Step.refl {μ : Mu} {h : Heap} {w w' : World} (ho : w'.os = w.os) (ht : w'.tape = w.tape) (hp : w'.output = w.output) (hh : w'.heap = w.heap) : Step μ h w μ h w' :=
  ⟨fun _ _ => rfl, rfl, rfl, Nat.le_refl _, ho, ht, hp, by rw [hh]; exact Nat.le_refl _, fun B _ _ => by rw [hh], fun B hB => .inl hB⟩
theorem Step.same_world {μ : Mu} {h : Heap} {w : World} : Step μ h w μ h w := Step.refl rfl rfl rfl rfl

theorem Step.trans {μ μ' μ'' : Mu} {h h' h'' : Heap} {w w' w'' : World} (a : Step μ h w μ' h' w') (b : Step μ' h' w' μ'' h'' w'') : Step μ h w μ'' h'' w'' where
  ext c hc := by
    have h1 := a.next
    have h2 := b.next
    rw [b.ext c (by omega), a.ext c (by omega)]
  n0 := b.n0.trans a.n0
  old := b.old.trans a.old
  next := Nat.le_trans a.next b.next
  os := b.os.trans a.os
  tape := b.tape.trans a.tape
  output := b.output.trans a.output
  size := Nat.le_trans a.size b.size
  same B hB hO := by
    rw [b.same B (Nat.lt_of_lt_of_le hB a.size) (fun h1 => (a.own B h1).elim hO (fun h2 => by omega))]
    exact a.same B hB hO
  own B hB := (b.own B hB).elim (fun h1 => a.own B h1) (fun h1 => .inr (Nat.le_trans a.size h1))

theorem Step.mono {μ μ' : Mu} {h h' : Heap} {w w' : World} (s : Step μ h w μ' h' w') (hf : Free μ h h') : ∀ b L, μ b = some L → μ' b = some L := by
  intro b L hb
  by_cases hl : b < h.next ∨ h'.next ≤ b
  · rw [s.ext b hl]; exact hb
  · rw [hf b (by omega) (by omega)] at hb; cases hb

theorem Free.first {μ : Mu} {h h' h'' : Heap} (hf : Free μ h h'') (hn : h'.next ≤ h''.next) : Free μ h h' := fun b h1 h2 => hf b h1 (Nat.lt_of_lt_of_le h2 hn)
theorem Free.second {μ μ' : Mu} {h h' h'' : Heap} {w w' : World} (hf : Free μ h h'') (s : Step μ h w μ' h' w') : Free μ' h' h'' := fun b h1 h2 => by
  rw [s.ext b (.inr h1)]; exact hf b (Nat.le_trans s.next h1) h2

theorem Sim.read {μ : Mu} {h : Heap} {w : World} (s : Sim μ h w) {b : Nat} {k : Blk} (hg : h.get b = some k) :
    ∃ L arr T fr, μ b = some L ∧ w.heap[L.blk]? = some (.cells arr T fr) ∧ LRel μ k ((arr.toList.drop L.off).take k.length) := by
  by_cases hb : b < h.n0
  · have hg' := hg
    unfold Heap.get at hg'
    rw [if_pos hb] at hg'
    cases ho : h.old b with
    | none => rw [ho] at hg'; cases hg'
    | some cs =>
      rw [ho] at hg'
      simp only [Option.some.injEq] at hg'
      subst hg'
      obtain ⟨L, arr, T, fr, h1, h2, h3, h4, h5⟩ := s.old b cs hb ho
      exact ⟨L, arr, T, fr, h1, h2.symm ▸ h4, by rw [h3]; exact h5⟩
  · obtain ⟨L, arr, T, fr, h1, h2, h4, h5, h6, h7, h8, h9⟩ := s.new b k (by omega) hg
    exact ⟨L, arr, T, fr, h1, h4, h2 ▸ h9⟩

end Go.Abs
