/-
  The wire: slices of typed cells, and their comparison, element by element.
  Conditions: as each theorem states.
  The wire: a message's cells, and what is read of them.
  Conditions: as each theorem states.
-/
import Derived.Test.YtjghlcdidopcpaaGreatDoorG7
namespace Go.Proofs.YtjghlcdidopcpaaGreatDoor
open Go Go.Abs

abbrev i64n (n : Nat) : Value := .int .i64 (n : Int)
theorem add3 {a b : Nat} (h : a + b ≤ 9223372036854775807) : bin Tryz.prog .add 3 (i64n a) (.int .i64 (b : Int)) = some (i64n (a + b)) := by
  unfold i64n; rw [bin_add, wrap_i64 (by omega) (by omega), Int.natCast_add]
theorem add31 {a : Nat} (h : a + 1 ≤ 9223372036854775807) : bin Tryz.prog .add 3 (i64n a) (.int .i64 1) = some (i64n (a + 1)) := add3 h
theorem lss3 (a b : Nat) : bin Tryz.prog .lss 3 (i64n a) (i64n b) = some (.bool (decide (a < b))) := by
  rw [bin_lss]
  congr 2
  by_cases e : a < b
  · rw [decide_eq_true e, decide_eq_true (by omega)]
  · rw [decide_eq_false e, decide_eq_false (by omega)]
theorem neq3 (a b : Nat) : bin Tryz.prog .neq 3 (i64n a) (i64n b) = some (.bool (!decide (a = b))) := by
  rw [bin_neq]
  congr 2
  by_cases e : a = b
  · subst e; simp
  · have : (a : Int) ≠ b := by omega
    rw [decide_eq_false e, bne_iff_ne.2 this]; rfl

/-- A slice of n elements with these cells. -/
def SlN (h : Heap) (ks : List Kd) (v : Value) (n : Nat) (cs : List Value) : Prop :=
  ∃ a c, v = .slice a n c ∧ (a = none → n = 0) ∧ TypedN ks n cs ∧ (0 < n → ∃ b off s k, a = some ⟨b, off, s⟩ ∧ h.get b = some k ∧ off + n * ks.length ≤ k.length ∧ (k.drop off).take (n * ks.length) = cs)
/-- The block that a slice leads to, if it has elements. -/
def slB : Value → Option Nat
  | .slice (some a) (_ + 1) _ => some a.block
  | _ => none
theorem SlN.keep {h h' : Heap} {ks : List Kd} {v : Value} {n : Nat} {cs : List Value} (x : SlN h ks v n cs) {B : Nat → Prop} (k : Kept h h' B) (hB : ∀ b, slB v = some b → ¬ B b) : SlN h' ks v n cs := by
  obtain ⟨a, c, rfl, h1, h2, h3⟩ := x
  refine ⟨a, c, rfl, h1, h2, fun hn => ?_⟩
  obtain ⟨b, off, s, q, rfl, h4, h5⟩ := h3 hn
  obtain ⟨m, rfl⟩ : ∃ m, n = m + 1 := ⟨n - 1, by omega⟩
  exact ⟨b, off, s, q, rfl, k.getE h4 (hB b rfl), h5⟩
theorem SlN.old {h h' : Heap} {ks : List Kd} {v : Value} {n : Nat} {cs : List Value} (x : SlN h ks v n cs) (k : Old h h') : SlN h' ks v n cs := x.keep k (fun _ _ h => h)
theorem SlN.len {h : Heap} {ks : List Kd} {v : Value} {n : Nat} {cs : List Value} (x : SlN h ks v n cs) : lenL v = some (i64n n) := by
  obtain ⟨a, c, rfl, _⟩ := x
  rfl
theorem SlN.cells {h : Heap} {ks : List Kd} {v : Value} {n : Nat} {cs : List Value} (x : SlN h ks v n cs) : cs.length = n * ks.length := by
  obtain ⟨a, c, rfl, _, h2, _⟩ := x
  exact h2.1
theorem SlN.typed {h : Heap} {ks : List Kd} {v : Value} {n : Nat} {cs : List Value} (x : SlN h ks v n cs) : TypedN ks n cs := by
  obtain ⟨a, c, rfl, _, h2, _⟩ := x
  exact h2
theorem SlN.lt {h : Heap} {ks : List Kd} {v : Value} {n : Nat} {cs : List Value} (x : SlN h ks v n cs) {b : Nat} (hb : slB v = some b) : b < h.next := by
  obtain ⟨a, c, rfl, _, _, h3⟩ := x
  cases n with
  | zero => cases a <;> cases hb
  | succ m =>
    obtain ⟨b', off, s, k, rfl, h4, _⟩ := h3 (by omega)
    cases hb
    exact h.lt_of_get h4
/-- Element i. -/
def el (z : Nat) (cs : List Value) (i : Nat) : List Value := (cs.drop (i * z)).take z
theorem mul_le {i n z : Nat} (hi : i < n) : i * z + z ≤ n * z := by
  have := Nat.mul_le_mul_right z (show i + 1 ≤ n by omega)
  rw [Nat.add_mul, Nat.one_mul] at this
  exact this
theorem SlN.at {h : Heap} {ks : List Kd} {v : Value} {n : Nat} {cs : List Value} (x : SlN h ks v n cs) {i : Nat} (hi : i < n) : ∃ b off k, slB v = some b ∧ idxS ks.length v (i64n i) = some (ptr b (off + i * ks.length)) ∧ h.get b = some k ∧ off + n * ks.length ≤ k.length ∧ (k.drop (off + i * ks.length)).take ks.length = el ks.length cs i ∧
    ldN ks.length (ptr b (off + i * ks.length)) h = some (.agg (el ks.length cs i).toArray, h) ∧ Typed ks (el ks.length cs i) := by
  obtain ⟨a, c, rfl, h1, h2, h3⟩ := x
  obtain ⟨b, off, s, k, rfl, h4, h5, h6⟩ := h3 (by omega)
  have hm := mul_le (z := ks.length) hi
  have hel : (k.drop (off + i * ks.length)).take ks.length = el ks.length cs i := by
    unfold el
    rw [← h6, List.drop_take, List.take_take, List.drop_drop, Nat.min_eq_left (by omega)]
  have ht := h2.2 i hi
  obtain ⟨m, rfl⟩ : ∃ m, n = m + 1 := ⟨n - 1, by omega⟩
  refine ⟨b, off, k, rfl, ?_, h4, h5, hel, ?_, ht⟩
  · unfold idxS
    simp only [i64n]
    rw [if_pos (by omega), Int.toNat_natCast]
  · have := ldN_at (n := ks.length) h4 (o := off + i * ks.length) (by omega) (by rw [hel]; exact ht.all.1)
    rw [hel] at this
    exact this
theorem els_eq {z n : Nat} {cs ds : List Value} (hz : 0 < z) (h1 : cs.length = n * z) (h2 : ds.length = n * z) (h : ∀ i, i < n → el z cs i = el z ds i) : cs = ds := by
  refine List.ext_getElem? fun j => ?_
  by_cases hj : j < n * z
  · have hi : j / z < n := (Nat.div_lt_iff_lt_mul hz).2 hj
    have hm := Nat.mod_lt j hz
    have e : j / z * z + j % z = j := by
      have := Nat.div_add_mod j z
      rw [Nat.mul_comm] at this
      exact this
    have := congrArg (·[j % z]?) (h _ hi)
    unfold el at this
    simp only [List.getElem?_take, if_pos hm, List.getElem?_drop, e] at this
    exact this
  · rw [List.getElem?_eq_none (by omega), List.getElem?_eq_none (by omega)]

def eqInvA (h0 : Heap) (v w : Value) (z n : Nat) (cs ds : List Value) (k : Nat) (y : Nat → Value) (g : Heap) : Prop :=
  ∃ i, i + k = n ∧ y 0 = v ∧ y 1 = w ∧ y 12 = i64n n ∧ y 13 = i64n i ∧ g = h0 ∧ ∀ j, j < i → el z cs j = el z ds j
def eqInvB (h0 : Heap) (v w : Value) (z n : Nat) (cs ds : List Value) (k : Nat) (y : Nat → Value) (g : Heap) : Prop :=
  ∃ i, i + k = n ∧ y 0 = v ∧ y 1 = w ∧ y 5 = i64n i ∧ g = h0 ∧ ∀ j, j < i → el z cs j = el z ds j
def eqFin (h0 : Heap) (z n : Nat) (cs ds : List Value) (ex : Ex) (y : Nat → Value) (g : Heap) : Prop :=
  g = h0 ∧ ((ex = .ret ∧ y 4 = .bool false ∧ cs ≠ ds) ∨ (ex = .exit 0 ∧ ∀ j, j < n → el z cs j = el z ds j))
theorem snoc_el {z n : Nat} {cs ds : List Value} (h : ∀ j, j < n → el z cs j = el z ds j) (e : el z cs n = el z ds n) : ∀ j, j < n + 1 → el z cs j = el z ds j := fun j hj => by
  by_cases q : j = n
  · subst q; exact e
  · exact h j (by omega)
theorem byte_el {h : Heap} {v : Value} {n : Nat} {cs : List Value} (x : SlN h [.u8] v n cs) {i : Nat} (hi : i < n) : ∃ (b off m : Nat), idxS 1 v (i64n i) = some (ptr b (off + i * 1)) ∧ ld1 (ptr b (off + i * 1)) h = some (.int .u8 m, h) ∧ m < 256 ∧ el 1 cs i = [.int .u8 m] := by
  obtain ⟨b, off, k, _, h1, h2, h3, h4, _, h5⟩ := x.at hi
  obtain ⟨w, hw, m, rfl, hm⟩ := h5.2 0 .u8 rfl
  have hl : (el 1 cs i).length = 1 := h5.1
  have he : el 1 cs i = [.int .u8 m] := by
    match he : el 1 cs i, hl with
    | [q], _ =>
      have hw : (el 1 cs i)[0]? = some (.int .u8 m) := hw
      rw [he] at hw
      cases hw; rfl
  refine ⟨b, off, m, h1, ld1_at h2 (c := .int .u8 m) ?_ rfl, hm, he⟩
  have h4 : (k.drop (off + i * 1)).take 1 = el 1 cs i := h4
  have := congrArg (·[0]?) h4
  simp only [List.getElem?_take, if_pos (show 0 < 1 by omega), List.getElem?_drop] at this
  rw [he] at this
  simpa using this

theorem is53 : IsFn Tryz.prog 53 Tryz.f53 := ⟨by kernel_rfl, by kernel_rfl, by kernel_rfl, by kernel_rfl⟩
theorem results53 : Tryz.f53.results.toList = [.tmp 4] := by kernel_rfl
theorem b53_exit (C : CallF) (e : Env) (h : Heap) : b53_6 C 0 e h = k53_4 C e h := rfl
theorem round53 {h0 : Heap} {v w : Value} {n : Nat} {cs ds : List Value} (x : SlN h0 memK v n cs) (y' : SlN h0 memK w n ds) (hn : n ≤ 1000000) : ∀ k y g, eqInvA h0 v w 2 n cs ds k y g → Rnd 26 (eqInvA h0 v w 2 n cs ds) (eqFin h0 2 n cs ds) k (t53l53_11010 CW y g) := by
  rintro k y g ⟨i, hik, y0, y1, y12, y13, rfl, he⟩
  unfold t53l53_11010
  by_cases hi : i < n
  · obtain ⟨b, o, q, _, a1, _, _, _, a2, a3⟩ := x.at hi
    obtain ⟨b', o', q', _, b1, _, _, _, b2, b3⟩ := y'.at hi
    have a1 : idxS 2 v (i64n i) = some (ptr b (o + i * 2)) := a1
    have b1 : idxS 2 w (i64n i) = some (ptr b' (o' + i * 2)) := b1
    have a2 : ldN 2 (ptr b (o + i * 2)) g = some (.agg (el 2 cs i).toArray, g) := a2
    have b2 : ldN 2 (ptr b' (o' + i * 2)) g = some (.agg (el 2 ds i).toArray, g) := b2
    obtain ⟨r, r1, _, r2⟩ := eq58 _ _ a3 b3
    have r2 : bin Tryz.prog .neq 58 (.agg (el 2 cs i).toArray) (.agg (el 2 ds i).toArray) = some (.bool !r) := r2
    have r1 : r = true ↔ el 2 cs i = el 2 ds i := r1
    simp -implicitDefEqProofs only [y13, y12, lss3, y0, y1, decide_eq_true hi, thenV_some, pu_some, a1, a2, b1, b2, r2]
    cases r with
    | true =>
      simp -implicitDefEqProofs only [Bool.not_true, thenV_some, pu_some, y13, add31 (show i + 1 ≤ 9223372036854775807 by omega)]
      exact Rnd.next (k - 1) (by omega) ⟨i + 1, by omega, y0, y1, y12, rfl, rfl, snoc_el he (r1.1 rfl)⟩
    | false =>
      simp -implicitDefEqProofs only [Bool.not_false, thenV_some]
      exact Rnd.ret ⟨rfl, .inl ⟨rfl, rfl, fun h => by
        subst h
        exact absurd (r1.2 rfl) (by decide)⟩⟩
  · simp -implicitDefEqProofs only [y13, y12, lss3, decide_eq_false hi]
    exact Rnd.out 0 ⟨rfl, .inr ⟨rfl, fun j hj => he j (by omega)⟩⟩
theorem r53 {h : Heap} {v w : Value} {n m : Nat} {cs ds : List Value} (hG : 4 ≤ h.n0) (x : SlN h memK v n cs) (y' : SlN h memK w m ds) (hn : n ≤ 1000000) : ∃ r : Bool, CW 53 [v, w] h = some (.bool r, h) ∧ (r = true ↔ cs = ds) := by
  have lx := x.cells
  have ly := y'.cells
  have hz : (memK : List Kd).length = 2 := rfl
  rw [hz] at lx ly
  by_cases e : n = m
  · subst e
    have key : ∃ r : Bool, t53 CW v w h = some (.bool r, h) ∧ (r = true ↔ cs = ds) := by
      unfold t53
      simp -implicitDefEqProofs only [thenV_some, x.len, y'.len, pu_some, neq3, decide_eq_true (Eq.refl n), Bool.not_true]
      refine endL_fin (Q := fun o : Out => ∃ r : Bool, o = some (Value.bool r, h) ∧ (r = true ↔ cs = ds)) (loop_fin (t53l53_11010_eq CW) (round53 x y' hn) n (by have : rounds = 18446744073709551616 := rfl; omega)
        ⟨0, Nat.zero_add _, rfl, rfl, rfl, rfl, rfl, fun j hj => absurd hj (Nat.not_lt_zero j)⟩) ?_
      rintro ex z g ⟨rfl, ⟨rfl, z4, hne⟩ | ⟨rfl, he⟩⟩
      · rw [endL_ret, res_one (t := 4) results53 (by decide), z4]
        exact ⟨false, rfl, fun h => (by cases h), fun h => absurd h hne⟩
      · simp -implicitDefEqProofs only [endL_exit, b53_exit, t53k53_4_eq]
        unfold t53k53_4
        simp -implicitDefEqProofs only [thenV_some]
        exact ⟨true, rfl, fun _ => els_eq (by decide) lx ly he, fun _ => rfl⟩
    obtain ⟨r, k1, k2⟩ := key
    exact ⟨r, CW_body is53 hG rfl ((t53_eq _ _ _ _).trans k1), k2⟩
  · refine ⟨false, CW_body is53 hG rfl ((t53_eq _ _ _ _).trans ?_), fun h => (by cases h), fun h => ?_⟩
    · unfold t53
      simp -implicitDefEqProofs only [thenV_some, x.len, y'.len, pu_some, neq3, decide_eq_false e, Bool.not_false]
    · rw [h, ly] at lx
      exact absurd (Nat.eq_of_mul_eq_mul_right (by decide) lx).symm e

theorem is54 : IsFn Tryz.prog 54 Tryz.f54 := ⟨by kernel_rfl, by kernel_rfl, by kernel_rfl, by kernel_rfl⟩
theorem results54 : Tryz.f54.results.toList = [.tmp 4] := by kernel_rfl
theorem b54_exit (C : CallF) (e : Env) (h : Heap) : b54_6 C 0 e h = k54_4 C e h := rfl
theorem round54 {h0 : Heap} {v w : Value} {n : Nat} {cs ds : List Value} (x : SlN h0 [.u8] v n cs) (y' : SlN h0 [.u8] w n ds) (hn : n ≤ 1000000) : ∀ k y g, eqInvA h0 v w 1 n cs ds k y g → Rnd 26 (eqInvA h0 v w 1 n cs ds) (eqFin h0 1 n cs ds) k (t54l54_11010 CW y g) := by
  rintro k y g ⟨i, hik, y0, y1, y12, y13, rfl, he⟩
  unfold t54l54_11010
  by_cases hi : i < n
  · obtain ⟨b, o, m, a1, a2, a3, a4⟩ := byte_el x hi
    obtain ⟨b', o', m', b1, b2, b3, b4⟩ := byte_el y' hi
    have hb : bin Tryz.prog .neq 5 (.int .u8 (m : Int)) (.int .u8 (m' : Int)) = some (.bool ((m : Int) != m')) := bin_neq ..
    simp -implicitDefEqProofs only [y13, y12, lss3, y0, y1, decide_eq_true hi, thenV_some, pu_some, a1, a2, b1, b2, hb]
    by_cases e : m = m'
    · subst e
      simp -implicitDefEqProofs only [bne_self_eq_false, thenV_some, pu_some, y13, add31 (show i + 1 ≤ 9223372036854775807 by omega)]
      exact Rnd.next (k - 1) (by omega) ⟨i + 1, by omega, y0, y1, y12, rfl, rfl, snoc_el he (a4.trans b4.symm)⟩
    · have : ((m : Int) != m') = true := by simpa using fun h : (m : Int) = m' => e (by omega)
      simp -implicitDefEqProofs only [this, thenV_some]
      exact Rnd.ret ⟨rfl, .inl ⟨rfl, rfl, fun h => e (by
        subst h
        rw [a4] at b4
        simp at b4
        omega)⟩⟩
  · simp -implicitDefEqProofs only [y13, y12, lss3, decide_eq_false hi]
    exact Rnd.out 0 ⟨rfl, .inr ⟨rfl, fun j hj => he j (by omega)⟩⟩
theorem r54 {h : Heap} {v w : Value} {n m : Nat} {cs ds : List Value} (hG : 4 ≤ h.n0) (x : SlN h [.u8] v n cs) (y' : SlN h [.u8] w m ds) (hn : n ≤ 1000000) : ∃ r : Bool, CW 54 [v, w] h = some (.bool r, h) ∧ (r = true ↔ cs = ds) := by
  have lx := x.cells
  have ly := y'.cells
  have hz : ([.u8] : List Kd).length = 1 := rfl
  rw [hz] at lx ly
  by_cases e : n = m
  · subst e
    have key : ∃ r : Bool, t54 CW v w h = some (.bool r, h) ∧ (r = true ↔ cs = ds) := by
      unfold t54
      simp -implicitDefEqProofs only [thenV_some, x.len, y'.len, pu_some, neq3, decide_eq_true (Eq.refl n), Bool.not_true]
      refine endL_fin (Q := fun o : Out => ∃ r : Bool, o = some (Value.bool r, h) ∧ (r = true ↔ cs = ds)) (loop_fin (t54l54_11010_eq CW) (round54 x y' hn) n (by have : rounds = 18446744073709551616 := rfl; omega)
        ⟨0, Nat.zero_add _, rfl, rfl, rfl, rfl, rfl, fun j hj => absurd hj (Nat.not_lt_zero j)⟩) ?_
      rintro ex z g ⟨rfl, ⟨rfl, z4, hne⟩ | ⟨rfl, he⟩⟩
      · rw [endL_ret, res_one (t := 4) results54 (by decide), z4]
        exact ⟨false, rfl, fun h => (by cases h), fun h => absurd h hne⟩
      · simp -implicitDefEqProofs only [endL_exit, b54_exit, t54k54_4_eq]
        unfold t54k54_4
        simp -implicitDefEqProofs only [thenV_some]
        exact ⟨true, rfl, fun _ => els_eq (by decide) lx ly he, fun _ => rfl⟩
    obtain ⟨r, k1, k2⟩ := key
    exact ⟨r, CW_body is54 hG rfl ((t54_eq _ _ _ _).trans k1), k2⟩
  · refine ⟨false, CW_body is54 hG rfl ((t54_eq _ _ _ _).trans ?_), fun h => (by cases h), fun h => ?_⟩
    · unfold t54
      simp -implicitDefEqProofs only [thenV_some, x.len, y'.len, pu_some, neq3, decide_eq_false e, Bool.not_false]
    · rw [h, ly] at lx
      exact absurd (Nat.eq_of_mul_eq_mul_right (by decide) lx).symm e

theorem is55 : IsFn Tryz.prog 55 Tryz.f55 := ⟨by kernel_rfl, by kernel_rfl, by kernel_rfl, by kernel_rfl⟩
theorem results55 : Tryz.f55.results.toList = [.tmp 4] := by kernel_rfl
theorem b55_exit (C : CallF) (e : Env) (h : Heap) : b55_6 C 0 e h = k55_4 C e h := rfl
theorem round55 {h0 : Heap} {v w : Value} {n : Nat} {cs ds : List Value} (x : SlN h0 recK v n cs) (y' : SlN h0 recK w n ds) (hn : n ≤ 1000000) : ∀ k y g, eqInvA h0 v w 39 n cs ds k y g → Rnd 26 (eqInvA h0 v w 39 n cs ds) (eqFin h0 39 n cs ds) k (t55l55_11010 CW y g) := by
  rintro k y g ⟨i, hik, y0, y1, y12, y13, rfl, he⟩
  unfold t55l55_11010
  by_cases hi : i < n
  · obtain ⟨b, o, q, _, a1, _, _, _, a2, a3⟩ := x.at hi
    obtain ⟨b', o', q', _, b1, _, _, _, b2, b3⟩ := y'.at hi
    have a1 : idxS 39 v (i64n i) = some (ptr b (o + i * 39)) := a1
    have b1 : idxS 39 w (i64n i) = some (ptr b' (o' + i * 39)) := b1
    have a2 : ldN 39 (ptr b (o + i * 39)) g = some (.agg (el 39 cs i).toArray, g) := a2
    have b2 : ldN 39 (ptr b' (o' + i * 39)) g = some (.agg (el 39 ds i).toArray, g) := b2
    obtain ⟨r, r1, _, r2⟩ := eq61 _ _ a3 b3
    have r2 : bin Tryz.prog .neq 61 (.agg (el 39 cs i).toArray) (.agg (el 39 ds i).toArray) = some (.bool !r) := r2
    have r1 : r = true ↔ el 39 cs i = el 39 ds i := r1
    simp -implicitDefEqProofs only [y13, y12, lss3, y0, y1, decide_eq_true hi, thenV_some, pu_some, a1, a2, b1, b2, r2]
    cases r with
    | true =>
      simp -implicitDefEqProofs only [Bool.not_true, thenV_some, pu_some, y13, add31 (show i + 1 ≤ 9223372036854775807 by omega)]
      exact Rnd.next (k - 1) (by omega) ⟨i + 1, by omega, y0, y1, y12, rfl, rfl, snoc_el he (r1.1 rfl)⟩
    | false =>
      simp -implicitDefEqProofs only [Bool.not_false, thenV_some]
      exact Rnd.ret ⟨rfl, .inl ⟨rfl, rfl, fun h => by
        subst h
        exact absurd (r1.2 rfl) (by decide)⟩⟩
  · simp -implicitDefEqProofs only [y13, y12, lss3, decide_eq_false hi]
    exact Rnd.out 0 ⟨rfl, .inr ⟨rfl, fun j hj => he j (by omega)⟩⟩
theorem r55 {h : Heap} {v w : Value} {n m : Nat} {cs ds : List Value} (hG : 4 ≤ h.n0) (x : SlN h recK v n cs) (y' : SlN h recK w m ds) (hn : n ≤ 1000000) : ∃ r : Bool, CW 55 [v, w] h = some (.bool r, h) ∧ (r = true ↔ cs = ds) := by
  have lx := x.cells
  have ly := y'.cells
  have hz : (recK : List Kd).length = 39 := rfl
  rw [hz] at lx ly
  by_cases e : n = m
  · subst e
    have key : ∃ r : Bool, t55 CW v w h = some (.bool r, h) ∧ (r = true ↔ cs = ds) := by
      unfold t55
      simp -implicitDefEqProofs only [thenV_some, x.len, y'.len, pu_some, neq3, decide_eq_true (Eq.refl n), Bool.not_true]
      refine endL_fin (Q := fun o : Out => ∃ r : Bool, o = some (Value.bool r, h) ∧ (r = true ↔ cs = ds)) (loop_fin (t55l55_11010_eq CW) (round55 x y' hn) n (by have : rounds = 18446744073709551616 := rfl; omega)
        ⟨0, Nat.zero_add _, rfl, rfl, rfl, rfl, rfl, fun j hj => absurd hj (Nat.not_lt_zero j)⟩) ?_
      rintro ex z g ⟨rfl, ⟨rfl, z4, hne⟩ | ⟨rfl, he⟩⟩
      · rw [endL_ret, res_one (t := 4) results55 (by decide), z4]
        exact ⟨false, rfl, fun h => (by cases h), fun h => absurd h hne⟩
      · simp -implicitDefEqProofs only [endL_exit, b55_exit, t55k55_4_eq]
        unfold t55k55_4
        simp -implicitDefEqProofs only [thenV_some]
        exact ⟨true, rfl, fun _ => els_eq (by decide) lx ly he, fun _ => rfl⟩
    obtain ⟨r, k1, k2⟩ := key
    exact ⟨r, CW_body is55 hG rfl ((t55_eq _ _ _ _).trans k1), k2⟩
  · refine ⟨false, CW_body is55 hG rfl ((t55_eq _ _ _ _).trans ?_), fun h => (by cases h), fun h => ?_⟩
    · unfold t55
      simp -implicitDefEqProofs only [thenV_some, x.len, y'.len, pu_some, neq3, decide_eq_false e, Bool.not_false]
    · rw [h, ly] at lx
      exact absurd (Nat.eq_of_mul_eq_mul_right (by decide) lx).symm e

theorem is86 : IsFn Tryz.prog 86 Tryz.f86 := ⟨by kernel_rfl, by kernel_rfl, by kernel_rfl, by kernel_rfl⟩
theorem results86 : Tryz.f86.results.toList = [.tmp 4] := by kernel_rfl
theorem b86_exit (C : CallF) (e : Env) (h : Heap) : b86_6 C 0 e h = k86_4 C e h := rfl
theorem round86 {h0 : Heap} {v w : Value} {n : Nat} {cs ds : List Value} (x : SlN h0 digK v n cs) (y' : SlN h0 digK w n ds) (hn : n ≤ 1000000) : ∀ k y g, eqInvA h0 v w 32 n cs ds k y g → Rnd 26 (eqInvA h0 v w 32 n cs ds) (eqFin h0 32 n cs ds) k (t86l86_11010 CW y g) := by
  rintro k y g ⟨i, hik, y0, y1, y12, y13, rfl, he⟩
  unfold t86l86_11010
  by_cases hi : i < n
  · obtain ⟨b, o, q, _, a1, _, _, _, a2, a3⟩ := x.at hi
    obtain ⟨b', o', q', _, b1, _, _, _, b2, b3⟩ := y'.at hi
    have a1 : idxS 32 v (i64n i) = some (ptr b (o + i * 32)) := a1
    have b1 : idxS 32 w (i64n i) = some (ptr b' (o' + i * 32)) := b1
    have a2 : ldN 32 (ptr b (o + i * 32)) g = some (.agg (el 32 cs i).toArray, g) := a2
    have b2 : ldN 32 (ptr b' (o' + i * 32)) g = some (.agg (el 32 ds i).toArray, g) := b2
    obtain ⟨r, r1, _, r2⟩ := eq28 _ _ a3 b3
    have r2 : bin Tryz.prog .neq 28 (.agg (el 32 cs i).toArray) (.agg (el 32 ds i).toArray) = some (.bool !r) := r2
    have r1 : r = true ↔ el 32 cs i = el 32 ds i := r1
    simp -implicitDefEqProofs only [y13, y12, lss3, y0, y1, decide_eq_true hi, thenV_some, pu_some, a1, a2, b1, b2, r2]
    cases r with
    | true =>
      simp -implicitDefEqProofs only [Bool.not_true, thenV_some, pu_some, y13, add31 (show i + 1 ≤ 9223372036854775807 by omega)]
      exact Rnd.next (k - 1) (by omega) ⟨i + 1, by omega, y0, y1, y12, rfl, rfl, snoc_el he (r1.1 rfl)⟩
    | false =>
      simp -implicitDefEqProofs only [Bool.not_false, thenV_some]
      exact Rnd.ret ⟨rfl, .inl ⟨rfl, rfl, fun h => by
        subst h
        exact absurd (r1.2 rfl) (by decide)⟩⟩
  · simp -implicitDefEqProofs only [y13, y12, lss3, decide_eq_false hi]
    exact Rnd.out 0 ⟨rfl, .inr ⟨rfl, fun j hj => he j (by omega)⟩⟩
theorem r86 {h : Heap} {v w : Value} {n m : Nat} {cs ds : List Value} (hG : 4 ≤ h.n0) (x : SlN h digK v n cs) (y' : SlN h digK w m ds) (hn : n ≤ 1000000) : ∃ r : Bool, CW 86 [v, w] h = some (.bool r, h) ∧ (r = true ↔ cs = ds) := by
  have lx := x.cells
  have ly := y'.cells
  have hz : (digK : List Kd).length = 32 := rfl
  rw [hz] at lx ly
  by_cases e : n = m
  · subst e
    have key : ∃ r : Bool, t86 CW v w h = some (.bool r, h) ∧ (r = true ↔ cs = ds) := by
      unfold t86
      simp -implicitDefEqProofs only [thenV_some, x.len, y'.len, pu_some, neq3, decide_eq_true (Eq.refl n), Bool.not_true]
      refine endL_fin (Q := fun o : Out => ∃ r : Bool, o = some (Value.bool r, h) ∧ (r = true ↔ cs = ds)) (loop_fin (t86l86_11010_eq CW) (round86 x y' hn) n (by have : rounds = 18446744073709551616 := rfl; omega)
        ⟨0, Nat.zero_add _, rfl, rfl, rfl, rfl, rfl, fun j hj => absurd hj (Nat.not_lt_zero j)⟩) ?_
      rintro ex z g ⟨rfl, ⟨rfl, z4, hne⟩ | ⟨rfl, he⟩⟩
      · rw [endL_ret, res_one (t := 4) results86 (by decide), z4]
        exact ⟨false, rfl, fun h => (by cases h), fun h => absurd h hne⟩
      · simp -implicitDefEqProofs only [endL_exit, b86_exit, t86k86_4_eq]
        unfold t86k86_4
        simp -implicitDefEqProofs only [thenV_some]
        exact ⟨true, rfl, fun _ => els_eq (by decide) lx ly he, fun _ => rfl⟩
    obtain ⟨r, k1, k2⟩ := key
    exact ⟨r, CW_body is86 hG rfl ((t86_eq _ _ _ _).trans k1), k2⟩
  · refine ⟨false, CW_body is86 hG rfl ((t86_eq _ _ _ _).trans ?_), fun h => (by cases h), fun h => ?_⟩
    · unfold t86
      simp -implicitDefEqProofs only [thenV_some, x.len, y'.len, pu_some, neq3, decide_eq_false e, Bool.not_false]
    · rw [h, ly] at lx
      exact absurd (Nat.eq_of_mul_eq_mul_right (by decide) lx).symm e

theorem is43 : IsFn Tryz.prog 43 Tryz.f43 := ⟨by kernel_rfl, by kernel_rfl, by kernel_rfl, by kernel_rfl⟩
theorem results43 : Tryz.f43.results.toList = [.tmp 4] := by kernel_rfl
theorem b43_exit (C : CallF) (e : Env) (h : Heap) : b43_6 C 0 e h = k43_4 C e h := rfl
theorem round43 {h0 : Heap} {v w : Value} {n : Nat} {cs ds : List Value} (x : SlN h0 memK v n cs) (y' : SlN h0 memK w n ds) (hn : n ≤ 1000000) : ∀ k y g, eqInvB h0 v w 2 n cs ds k y g → Rnd 26 (eqInvB h0 v w 2 n cs ds) (eqFin h0 2 n cs ds) k (t43l43_11010 CW y g) := by
  rintro k y g ⟨i, hik, y0, y1, y5, rfl, he⟩
  have hl := x.len
  unfold t43l43_11010
  by_cases hi : i < n
  · obtain ⟨b, o, q, _, a1, _, _, _, a2, a3⟩ := x.at hi
    obtain ⟨b', o', q', _, b1, _, _, _, b2, b3⟩ := y'.at hi
    have a1 : idxS 2 v (i64n i) = some (ptr b (o + i * 2)) := a1
    have b1 : idxS 2 w (i64n i) = some (ptr b' (o' + i * 2)) := b1
    have a2 : ldN 2 (ptr b (o + i * 2)) g = some (.agg (el 2 cs i).toArray, g) := a2
    have b2 : ldN 2 (ptr b' (o' + i * 2)) g = some (.agg (el 2 ds i).toArray, g) := b2
    obtain ⟨r, r1, _, r2⟩ := eq58 _ _ a3 b3
    have r2 : bin Tryz.prog .neq 58 (.agg (el 2 cs i).toArray) (.agg (el 2 ds i).toArray) = some (.bool !r) := r2
    have r1 : r = true ↔ el 2 cs i = el 2 ds i := r1
    simp -implicitDefEqProofs only [y5, y0, hl, lss3, thenV_some, pu_some, y0, y1, decide_eq_true hi, thenV_some, pu_some, a1, a2, b1, b2, r2]
    cases r with
    | true =>
      simp -implicitDefEqProofs only [Bool.not_true, thenV_some, pu_some, y5, add31 (show i + 1 ≤ 9223372036854775807 by omega)]
      exact Rnd.next (k - 1) (by omega) ⟨i + 1, by omega, y0, y1, rfl, rfl, snoc_el he (r1.1 rfl)⟩
    | false =>
      simp -implicitDefEqProofs only [Bool.not_false, thenV_some]
      exact Rnd.ret ⟨rfl, .inl ⟨rfl, rfl, fun h => by
        subst h
        exact absurd (r1.2 rfl) (by decide)⟩⟩
  · simp -implicitDefEqProofs only [y5, y0, hl, lss3, thenV_some, pu_some, decide_eq_false hi]
    exact Rnd.out 0 ⟨rfl, .inr ⟨rfl, fun j hj => he j (by omega)⟩⟩
theorem r43 {h : Heap} {v w : Value} {n m : Nat} {cs ds : List Value} (hG : 4 ≤ h.n0) (x : SlN h memK v n cs) (y' : SlN h memK w m ds) (hn : n ≤ 1000000) : ∃ r : Bool, CW 43 [v, w] h = some (.bool r, h) ∧ (r = true ↔ cs = ds) := by
  have lx := x.cells
  have ly := y'.cells
  have hz : (memK : List Kd).length = 2 := rfl
  rw [hz] at lx ly
  by_cases e : n = m
  · subst e
    have key : ∃ r : Bool, t43 CW v w h = some (.bool r, h) ∧ (r = true ↔ cs = ds) := by
      unfold t43
      simp -implicitDefEqProofs only [thenV_some, x.len, y'.len, pu_some, neq3, decide_eq_true (Eq.refl n), Bool.not_true]
      refine endL_fin (Q := fun o : Out => ∃ r : Bool, o = some (Value.bool r, h) ∧ (r = true ↔ cs = ds)) (loop_fin (t43l43_11010_eq CW) (round43 x y' hn) n (by have : rounds = 18446744073709551616 := rfl; omega)
        ⟨0, Nat.zero_add _, rfl, rfl, rfl, rfl, fun j hj => absurd hj (Nat.not_lt_zero j)⟩) ?_
      rintro ex z g ⟨rfl, ⟨rfl, z4, hne⟩ | ⟨rfl, he⟩⟩
      · rw [endL_ret, res_one (t := 4) results43 (by decide), z4]
        exact ⟨false, rfl, fun h => (by cases h), fun h => absurd h hne⟩
      · simp -implicitDefEqProofs only [endL_exit, b43_exit, t43k43_4_eq]
        unfold t43k43_4
        simp -implicitDefEqProofs only [thenV_some]
        exact ⟨true, rfl, fun _ => els_eq (by decide) lx ly he, fun _ => rfl⟩
    obtain ⟨r, k1, k2⟩ := key
    exact ⟨r, CW_body is43 hG rfl ((t43_eq _ _ _ _).trans k1), k2⟩
  · refine ⟨false, CW_body is43 hG rfl ((t43_eq _ _ _ _).trans ?_), fun h => (by cases h), fun h => ?_⟩
    · unfold t43
      simp -implicitDefEqProofs only [thenV_some, x.len, y'.len, pu_some, neq3, decide_eq_false e, Bool.not_false]
    · rw [h, ly] at lx
      exact absurd (Nat.eq_of_mul_eq_mul_right (by decide) lx).symm e

theorem is44 : IsFn Tryz.prog 44 Tryz.f44 := ⟨by kernel_rfl, by kernel_rfl, by kernel_rfl, by kernel_rfl⟩
theorem results44 : Tryz.f44.results.toList = [.tmp 4] := by kernel_rfl
theorem b44_exit (C : CallF) (e : Env) (h : Heap) : b44_6 C 0 e h = k44_4 C e h := rfl
theorem round44 {h0 : Heap} {v w : Value} {n : Nat} {cs ds : List Value} (x : SlN h0 recK v n cs) (y' : SlN h0 recK w n ds) (hn : n ≤ 1000000) : ∀ k y g, eqInvB h0 v w 39 n cs ds k y g → Rnd 26 (eqInvB h0 v w 39 n cs ds) (eqFin h0 39 n cs ds) k (t44l44_11010 CW y g) := by
  rintro k y g ⟨i, hik, y0, y1, y5, rfl, he⟩
  have hl := x.len
  unfold t44l44_11010
  by_cases hi : i < n
  · obtain ⟨b, o, q, _, a1, _, _, _, a2, a3⟩ := x.at hi
    obtain ⟨b', o', q', _, b1, _, _, _, b2, b3⟩ := y'.at hi
    have a1 : idxS 39 v (i64n i) = some (ptr b (o + i * 39)) := a1
    have b1 : idxS 39 w (i64n i) = some (ptr b' (o' + i * 39)) := b1
    have a2 : ldN 39 (ptr b (o + i * 39)) g = some (.agg (el 39 cs i).toArray, g) := a2
    have b2 : ldN 39 (ptr b' (o' + i * 39)) g = some (.agg (el 39 ds i).toArray, g) := b2
    obtain ⟨r, r1, _, r2⟩ := eq61 _ _ a3 b3
    have r2 : bin Tryz.prog .neq 61 (.agg (el 39 cs i).toArray) (.agg (el 39 ds i).toArray) = some (.bool !r) := r2
    have r1 : r = true ↔ el 39 cs i = el 39 ds i := r1
    simp -implicitDefEqProofs only [y5, y0, hl, lss3, thenV_some, pu_some, y0, y1, decide_eq_true hi, thenV_some, pu_some, a1, a2, b1, b2, r2]
    cases r with
    | true =>
      simp -implicitDefEqProofs only [Bool.not_true, thenV_some, pu_some, y5, add31 (show i + 1 ≤ 9223372036854775807 by omega)]
      exact Rnd.next (k - 1) (by omega) ⟨i + 1, by omega, y0, y1, rfl, rfl, snoc_el he (r1.1 rfl)⟩
    | false =>
      simp -implicitDefEqProofs only [Bool.not_false, thenV_some]
      exact Rnd.ret ⟨rfl, .inl ⟨rfl, rfl, fun h => by
        subst h
        exact absurd (r1.2 rfl) (by decide)⟩⟩
  · simp -implicitDefEqProofs only [y5, y0, hl, lss3, thenV_some, pu_some, decide_eq_false hi]
    exact Rnd.out 0 ⟨rfl, .inr ⟨rfl, fun j hj => he j (by omega)⟩⟩
theorem r44 {h : Heap} {v w : Value} {n m : Nat} {cs ds : List Value} (hG : 4 ≤ h.n0) (x : SlN h recK v n cs) (y' : SlN h recK w m ds) (hn : n ≤ 1000000) : ∃ r : Bool, CW 44 [v, w] h = some (.bool r, h) ∧ (r = true ↔ cs = ds) := by
  have lx := x.cells
  have ly := y'.cells
  have hz : (recK : List Kd).length = 39 := rfl
  rw [hz] at lx ly
  by_cases e : n = m
  · subst e
    have key : ∃ r : Bool, t44 CW v w h = some (.bool r, h) ∧ (r = true ↔ cs = ds) := by
      unfold t44
      simp -implicitDefEqProofs only [thenV_some, x.len, y'.len, pu_some, neq3, decide_eq_true (Eq.refl n), Bool.not_true]
      refine endL_fin (Q := fun o : Out => ∃ r : Bool, o = some (Value.bool r, h) ∧ (r = true ↔ cs = ds)) (loop_fin (t44l44_11010_eq CW) (round44 x y' hn) n (by have : rounds = 18446744073709551616 := rfl; omega)
        ⟨0, Nat.zero_add _, rfl, rfl, rfl, rfl, fun j hj => absurd hj (Nat.not_lt_zero j)⟩) ?_
      rintro ex z g ⟨rfl, ⟨rfl, z4, hne⟩ | ⟨rfl, he⟩⟩
      · rw [endL_ret, res_one (t := 4) results44 (by decide), z4]
        exact ⟨false, rfl, fun h => (by cases h), fun h => absurd h hne⟩
      · simp -implicitDefEqProofs only [endL_exit, b44_exit, t44k44_4_eq]
        unfold t44k44_4
        simp -implicitDefEqProofs only [thenV_some]
        exact ⟨true, rfl, fun _ => els_eq (by decide) lx ly he, fun _ => rfl⟩
    obtain ⟨r, k1, k2⟩ := key
    exact ⟨r, CW_body is44 hG rfl ((t44_eq _ _ _ _).trans k1), k2⟩
  · refine ⟨false, CW_body is44 hG rfl ((t44_eq _ _ _ _).trans ?_), fun h => (by cases h), fun h => ?_⟩
    · unfold t44
      simp -implicitDefEqProofs only [thenV_some, x.len, y'.len, pu_some, neq3, decide_eq_false e, Bool.not_false]
    · rw [h, ly] at lx
      exact absurd (Nat.eq_of_mul_eq_mul_right (by decide) lx).symm e
end Go.Proofs.YtjghlcdidopcpaaGreatDoor

namespace Go.Proofs.YtjghlcdidopcpaaGreatDoor
open Go Go.Abs

theorem box_at (h : Heap) (cs : List Value) (hc : oneCells cs = true) : box (.agg cs.toArray) h = some (ptr h.next 0, h.alloc cs) := by
  have e : (Value.agg cs.toArray).cells = cs.toArray := rfl
  unfold box
  rw [e, if_pos (by simpa using hc)]
  simp [Abs.newRow]
theorem mid {k A B C : List Value} {p n : Nat} (h : k = A ++ (B ++ C)) (hA : A.length = p) (hB : B.length = n) : (k.drop p).take n = B := by
  subst h hA hB
  rw [List.drop_left, List.take_left]
theorem ldN_mid {h : Heap} {b p n : Nat} {k A B C : List Value} (g : h.get b = some k) (e : k = A ++ (B ++ C)) (hA : A.length = p) (hB : B.length = n) (nh : Abs.noHoles B = true) : ldN n (ptr b p) h = some (.agg B.toArray, h) := by
  have hm := mid e hA hB
  have hl : p + n ≤ k.length := by rw [e, List.length_append, List.length_append]; omega
  have := ldN_at g (o := p) (n := n) hl (by rw [hm]; exact nh)
  rw [hm] at this
  exact this

/-- A message, as the statements have it. -/
@[ext] structure MsgD where
  kind : Int
  from_ : Int
  to_ : Int
  seq : Int
  origin : Int
  target : Int
  count : Int
  root : List Value
  want : Bool
  obj : List Value
  gk : Int
  gn : Int
  gt : Int
  gs : Int
  mobj : List Value
  pidx : Int
  code : Int
  table : List Value
  low : List Value
  high : List Value
  recs : List Value
  pieces : List Value
  data : List Value
/-- A message's slices. -/
structure Sl6 where
  a : Value
  b : Value
  c : Value
  d : Value
  e : Value
  f : Value
def MsgD.man (M : MsgD) (s : Sl6) : Blk := [.int .i64 M.gk, .int .i64 M.gn, .int .i64 M.gt, .int .i64 M.gs] ++ (M.mobj ++ [s.e])
def MsgD.front (M : MsgD) (s : Sl6) : Blk := [.int .u8 M.kind, .int .i64 M.from_, .int .i64 M.to_, .int .u64 M.seq, .int .i64 M.origin, .int .i64 M.target, s.a, s.b, s.c, .int .i64 M.count]
def MsgD.cells (M : MsgD) (s : Sl6) : Blk := M.front s ++ (M.root ++ ([s.d, .bool M.want] ++ (M.obj ++ (M.man s ++ [.int .i64 M.pidx, s.f, .int .i64 M.code]))))
structure MsgD.Ok (M : MsgD) : Prop where
  root : Typed digK M.root
  obj : Typed digK M.obj
  mobj : Typed digK M.mobj
/-- The numbers of the slices' elements. -/
structure N6 where
  a : Nat
  b : Nat
  c : Nat
  d : Nat
  e : Nat
  f : Nat
structure SlV (h : Heap) (s : Sl6) (n : N6) (M : MsgD) : Prop where
  a : SlN h memK s.a n.a M.table
  b : SlN h [.u8] s.b n.b M.low
  c : SlN h [.u8] s.c n.c M.high
  d : SlN h recK s.d n.d M.recs
  e : SlN h digK s.e n.e M.pieces
  f : SlN h [.u8] s.f n.f M.data
structure N6.Small (n : N6) : Prop where
  a : n.a ≤ 1000000
  b : n.b ≤ 1000000
  c : n.c ≤ 1000000
  d : n.d ≤ 1000000
  e : n.e ≤ 1000000
  f : n.f ≤ 1000000
/-- No block of these is one that the slices lead to. -/
def Sl6.off (s : Sl6) (B : Nat → Prop) : Prop := ∀ v, v = s.a ∨ v = s.b ∨ v = s.c ∨ v = s.d ∨ v = s.e ∨ v = s.f → ∀ b, slB v = some b → ¬ B b
theorem SlV.keep {h h' : Heap} {s : Sl6} {n : N6} {M : MsgD} (x : SlV h s n M) {B : Nat → Prop} (k : Kept h h' B) (hB : s.off B) : SlV h' s n M :=
  ⟨x.a.keep k (hB _ (.inl rfl)), x.b.keep k (hB _ (.inr (.inl rfl))), x.c.keep k (hB _ (.inr (.inr (.inl rfl)))), x.d.keep k (hB _ (.inr (.inr (.inr (.inl rfl))))), x.e.keep k (hB _ (.inr (.inr (.inr (.inr (.inl rfl)))))), x.f.keep k (hB _ (.inr (.inr (.inr (.inr (.inr rfl))))))⟩
theorem SlV.old {h h' : Heap} {s : Sl6} {n : N6} {M : MsgD} (x : SlV h s n M) (k : Old h h') : SlV h' s n M := x.keep k (fun _ _ _ _ h => h)
theorem slice_cell {h : Heap} {ks : List Kd} {v : Value} {n : Nat} {cs : List Value} (x : SlN h ks v n cs) : isHole v = false ∧ v.oneCell' = true ∧ v.cells = #[v] := by
  obtain ⟨a, c, rfl, _⟩ := x
  exact ⟨rfl, rfl, rfl⟩
theorem noH_append {a b : List Value} (h1 : Abs.noHoles a = true) (h2 : Abs.noHoles b = true) : Abs.noHoles (a ++ b) = true := by
  unfold Abs.noHoles at *
  rw [List.all_append, h1, h2]; rfl
theorem one_append {a b : List Value} (h1 : oneCells a = true) (h2 : oneCells b = true) : oneCells (a ++ b) = true := by
  unfold oneCells at *
  rw [List.all_append, h1, h2]; rfl
theorem noH_one {v : Value} (h : isHole v = false) : Abs.noHoles [v] = true := by
  simp [Abs.noHoles, h]

section
variable {h : Heap} {s : Sl6} {n : N6} {M : MsgD} (x : SlV h s n M) (ok : M.Ok)
include x ok
theorem man_ok : Abs.noHoles (M.man s) = true ∧ oneCells (M.man s) = true ∧ (M.man s).length = 37 := by
  have hm := ok.mobj.all
  have hl : M.mobj.length = 32 := ok.mobj.1
  obtain ⟨e1, e2, _⟩ := slice_cell x.e
  refine ⟨noH_append rfl (noH_append hm.1 (noH_one e1)), one_append rfl (one_append hm.2.1 (by simp [oneCells, e2])), ?_⟩
  unfold MsgD.man
  simp [hl]
theorem cells_ok : Abs.noHoles (M.cells s) = true ∧ oneCells (M.cells s) = true ∧ (M.cells s).length = 116 := by
  have hr := ok.root.all
  have ho := ok.obj.all
  have hrl : M.root.length = 32 := ok.root.1
  have hol : M.obj.length = 32 := ok.obj.1
  obtain ⟨m1, m2, m3⟩ := man_ok x ok
  obtain ⟨a1, a2, _⟩ := slice_cell x.a
  obtain ⟨b1, b2, _⟩ := slice_cell x.b
  obtain ⟨c1, c2, _⟩ := slice_cell x.c
  obtain ⟨d1, d2, _⟩ := slice_cell x.d
  obtain ⟨f1, f2, _⟩ := slice_cell x.f
  refine ⟨noH_append ?_ (noH_append hr.1 (noH_append ?_ (noH_append ho.1 (noH_append m1 ?_)))), one_append ?_ (one_append hr.2.1 (one_append ?_ (one_append ho.2.1 (one_append m2 ?_)))), ?_⟩
  · unfold MsgD.front Abs.noHoles; simp only [List.all_cons, List.all_nil, a1, b1, c1]; rfl
  · unfold Abs.noHoles; simp only [List.all_cons, List.all_nil, d1]; rfl
  · unfold Abs.noHoles; simp only [List.all_cons, List.all_nil, f1]; rfl
  · unfold MsgD.front; simp [oneCells, a2, b2, c2]; exact ⟨rfl, rfl, rfl, rfl, rfl, rfl, rfl⟩
  · simp [oneCells, d2]; rfl
  · simp [oneCells, f2]; exact ⟨rfl, rfl⟩
  · unfold MsgD.cells MsgD.front
    simp [hrl, hol, m3]
end
/-- What is read of a message in a block. -/
structure MsgLd (h : Heap) (b : Nat) (s : Sl6) (M : MsgD) : Prop where
  l0 : ld1 (ptr b 0) h = some (.int .u8 M.kind, h)
  l1 : ld1 (ptr b 1) h = some (.int .i64 M.from_, h)
  l2 : ld1 (ptr b 2) h = some (.int .i64 M.to_, h)
  l3 : ld1 (ptr b 3) h = some (.int .u64 M.seq, h)
  l4 : ld1 (ptr b 4) h = some (.int .i64 M.origin, h)
  l5 : ld1 (ptr b 5) h = some (.int .i64 M.target, h)
  l6 : ld1 (ptr b 6) h = some (s.a, h)
  l7 : ld1 (ptr b 7) h = some (s.b, h)
  l8 : ld1 (ptr b 8) h = some (s.c, h)
  l9 : ld1 (ptr b 9) h = some (.int .i64 M.count, h)
  l10 : ldN 32 (ptr b 10) h = some (.agg M.root.toArray, h)
  l42 : ld1 (ptr b 42) h = some (s.d, h)
  l43 : ld1 (ptr b 43) h = some (.bool M.want, h)
  l44 : ldN 32 (ptr b 44) h = some (.agg M.obj.toArray, h)
  l76 : ldN 37 (ptr b 76) h = some (.agg (M.man s).toArray, h)
  l112 : ld1 (ptr b 112) h = some (s.e, h)
  l113 : ld1 (ptr b 113) h = some (.int .i64 M.pidx, h)
  l114 : ld1 (ptr b 114) h = some (s.f, h)
  l115 : ld1 (ptr b 115) h = some (.int .i64 M.code, h)
  all : ldN 116 (ptr b 0) h = some (.agg (M.cells s).toArray, h)
theorem msg_ld {h h0 : Heap} {b : Nat} {s : Sl6} {n : N6} {M : MsgD} (x : SlV h0 s n M) (ok : M.Ok) (g : h.get b = some (M.cells s)) : MsgLd h b s M := by
  have hr := ok.root.all
  have ho := ok.obj.all
  have hrl : M.root.length = 32 := ok.root.1
  have hol : M.obj.length = 32 := ok.obj.1
  have hml : M.mobj.length = 32 := ok.mobj.1
  obtain ⟨m1, _, m3⟩ := man_ok x ok
  obtain ⟨c1, _, c3⟩ := cells_ok x ok
  have hf : (M.front s).length = 10 := rfl
  have key : ∀ i v, (M.front s)[i]? = some v → (M.cells s)[i]? = some v := fun i v e => by
    have hi := (List.getElem?_eq_some_iff.1 e).1
    unfold MsgD.cells
    rw [List.getElem?_append_left hi]
    exact e
  have at42 : ∀ i v, [s.d, .bool M.want][i]? = some v → (M.cells s)[42 + i]? = some v := fun i v e => by
    have hi : i < 2 := (List.getElem?_eq_some_iff.1 e).1
    unfold MsgD.cells
    rw [List.getElem?_append_right (by omega), hf, List.getElem?_append_right (by omega), hrl, show 42 + i - 10 - 32 = i by omega, List.getElem?_append_left hi]
    exact e
  have at113 : ∀ i v, [Value.int .i64 M.pidx, s.f, .int .i64 M.code][i]? = some v → (M.cells s)[113 + i]? = some v := fun i v e => by
    unfold MsgD.cells
    have h2 : ([s.d, Value.bool M.want] : List Value).length = 2 := rfl
    rw [List.getElem?_append_right (by omega), hf, List.getElem?_append_right (by omega), hrl, List.getElem?_append_right (by omega), h2, List.getElem?_append_right (by omega), hol, List.getElem?_append_right (by omega), m3, show 113 + i - 10 - 32 - 2 - 32 - 37 = i by omega]
    exact e
  have at112 : (M.cells s)[112]? = some s.e := by
    unfold MsgD.cells
    have h2 : ([s.d, Value.bool M.want] : List Value).length = 2 := rfl
    rw [List.getElem?_append_right (by omega), hf, List.getElem?_append_right (by omega), hrl, List.getElem?_append_right (by omega), h2, List.getElem?_append_right (by omega), hol, List.getElem?_append_left (by omega)]
    unfold MsgD.man
    rw [List.getElem?_append_right (by simp), List.getElem?_append_right (by simp [hml])]
    simp [hml]
  exact ⟨ld1_at g (key 0 _ rfl) rfl, ld1_at g (key 1 _ rfl) rfl, ld1_at g (key 2 _ rfl) rfl, ld1_at g (key 3 _ rfl) rfl, ld1_at g (key 4 _ rfl) rfl, ld1_at g (key 5 _ rfl) rfl, ld1_at g (key 6 _ rfl) (slice_cell x.a).1, ld1_at g (key 7 _ rfl) (slice_cell x.b).1, ld1_at g (key 8 _ rfl) (slice_cell x.c).1, ld1_at g (key 9 _ rfl) rfl,
    ldN_mid g (A := M.front s) (B := M.root) rfl hf hrl hr.1, ld1_at g (at42 0 _ rfl) (slice_cell x.d).1, ld1_at g (at42 1 _ rfl) rfl,
    ldN_mid g (A := M.front s ++ (M.root ++ [s.d, .bool M.want])) (B := M.obj) (C := M.man s ++ [.int .i64 M.pidx, s.f, .int .i64 M.code]) (by unfold MsgD.cells; simp only [List.append_assoc]) (by simp [hf, hrl]) hol ho.1,
    ldN_mid g (A := M.front s ++ (M.root ++ ([s.d, .bool M.want] ++ M.obj))) (B := M.man s) (C := [.int .i64 M.pidx, s.f, .int .i64 M.code]) (by unfold MsgD.cells; simp only [List.append_assoc]) (by simp [hf, hrl, hol]) m3 m1,
    ld1_at g at112 (slice_cell x.e).1, ld1_at g (at113 0 _ rfl) rfl, ld1_at g (at113 1 _ rfl) (slice_cell x.f).1, ld1_at g (at113 2 _ rfl) rfl,
    ldN_mid g (A := []) (B := M.cells s) (C := []) (by simp) rfl c3 c1⟩
/-- A message's manifest, in a block of its own. -/
structure ManLd (h : Heap) (b : Nat) (s : Sl6) (M : MsgD) : Prop where
  l0 : ld1 (ptr b 0) h = some (.int .i64 M.gk, h)
  l1 : ld1 (ptr b 1) h = some (.int .i64 M.gn, h)
  l2 : ld1 (ptr b 2) h = some (.int .i64 M.gt, h)
  l3 : ld1 (ptr b 3) h = some (.int .i64 M.gs, h)
  l4 : ldN 32 (ptr b 4) h = some (.agg M.mobj.toArray, h)
  l36 : ld1 (ptr b 36) h = some (s.e, h)
theorem man_ld {h h0 : Heap} {b : Nat} {s : Sl6} {n : N6} {M : MsgD} (x : SlV h0 s n M) (ok : M.Ok) (g : h.get b = some (M.man s)) : ManLd h b s M := by
  have hm := ok.mobj.all
  have hml : M.mobj.length = 32 := ok.mobj.1
  have at36 : (M.man s)[36]? = some s.e := by
    unfold MsgD.man
    rw [List.getElem?_append_right (by simp), List.getElem?_append_right (by simp [hml])]
    simp [hml]
  exact ⟨ld1_at g rfl rfl, ld1_at g rfl rfl, ld1_at g rfl rfl, ld1_at g rfl rfl, ldN_mid g (A := [.int .i64 M.gk, .int .i64 M.gn, .int .i64 M.gt, .int .i64 M.gs]) (B := M.mobj) rfl rfl hml hm.1, ld1_at g at36 (slice_cell x.e).1⟩
end Go.Proofs.YtjghlcdidopcpaaGreatDoor

