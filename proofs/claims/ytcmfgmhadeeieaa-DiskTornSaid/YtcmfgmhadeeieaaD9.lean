/-
  DiskTorn: its loops.
  Conditions: as each theorem states.
-/
import Derived.Test.YtcmfgmhadeeieaaD8
import Derived.Test.YtcmfgmhadeeieaaT4
namespace Go.Proofs.Ytcmfgmhadeeieaa
open Go Go.Abs

def partB (f : Nat → Nat) (m : Nat) : List Nat := (List.range 128).map fun j => if j < m then f j else 0
theorem partB_length (f : Nat → Nat) (m : Nat) : (partB f m).length = 128 := by simp [partB]
theorem partB_zero (f : Nat → Nat) : partB f 0 = List.replicate 128 0 := by simp [partB, List.map_const']
theorem partB_set (f : Nat → Nat) {m : Nat} (hm : m < 128) : (partB f m).set m (f m) = partB f (m + 1) := by
  apply List.ext_getElem?
  intro j
  rw [List.getElem?_set, partB_length]
  unfold partB
  rw [List.getElem?_map, List.getElem?_map]
  by_cases hj : j < 128
  · rw [List.getElem?_range hj]
    simp only [Option.map_some]
    by_cases e : m = j
    · subst e; simp [hm]
    · rw [if_neg e]
      by_cases h2 : j < m
      · rw [if_pos h2, if_pos (by omega)]
      · rw [if_neg h2, if_neg (by omega)]
  · rw [List.getElem?_eq_none (by simpa using hj)]
    simp only [Option.map_none]
    split
    · omega
    · rfl
theorem spliceN_step {img bl : List Nat} {off m : Nat} (hm : m < bl.length) (ho : off + m < img.length) : (spliceN img off (bl.take m)).set (off + m) (bl.getD m 0) = spliceN img off (bl.take (m + 1)) := by
  have h1 : (img.take off).length = off := by simp; omega
  have h2 : (bl.take m).length = m := by simp; omega
  have h3 : (bl.take (m + 1)).length = m + 1 := by simp; omega
  have hv : bl[m]? = some (bl.getD m 0) := by
    rw [List.getD_eq_getElem?_getD, List.getElem?_eq_getElem hm]; rfl
  unfold spliceN
  rw [h2, h3, List.take_add_one, hv, List.append_assoc, List.set_append_right _ _ (by omega), h1, Nat.add_sub_cancel_left, List.set_append_right _ _ (by omega), h2, Nat.sub_self]
  have h4 : img.drop (off + m) = img.getD (off + m) 0 :: img.drop (off + m + 1) := by
    rw [List.drop_eq_getElem_cons ho, List.getD_eq_getElem?_getD, List.getElem?_eq_getElem ho]; rfl
  rw [h4]
  simp [List.append_assoc]; rfl

section
variable (C : CallF)
theorem torn_fill (x : Nat → Value) (h : Heap) (B i : Nat) (hi : i ≤ 20) (hB : h.n0 ≤ B) (hg : h.get B = some ((List.replicate 128 0).map u8)) (i10 : x 10 = i64n i) (i11 : x 11 = .slice (some ⟨B, 0, none⟩) 128 128) (i12 : x 12 = .int .i64 0) :
    ∃ x' h', iter (codeA Try.prog C (partOf Try.f11 [1, 1, 1, 1, 1, 0, 1, 0, 0, 1, 0, 0, 1, 0, 1, 0, 0])) rounds (mkF 186 x) h = some (.exit 2, mkF 186 x', h') ∧
      (x' 0 = x 0 ∧ x' 1 = x 1 ∧ x' 2 = x 2 ∧ x' 7 = x 7 ∧ x' 9 = x 9 ∧ x' 10 = x 10 ∧ x' 11 = x 11) ∧
      h'.get B = some ((partB (fun j => (i + j + 1) % 256) 128).map u8) ∧ (∀ c, c ≠ B → h'.get c = h.get c) ∧ h'.n0 = h.n0 ∧ h'.next = h.next := by
  obtain ⟨ex, x', h', h1, rfl, h2⟩ := loop_inv (t11l11_1111101001001010_eq C)
    (Inv := fun k y g => k ≤ 128 ∧ (y 0 = x 0 ∧ y 1 = x 1 ∧ y 2 = x 2 ∧ y 7 = x 7 ∧ y 9 = x 9 ∧ y 10 = x 10 ∧ y 11 = x 11) ∧ y 12 = i64n (128 - k) ∧
      g.get B = some ((partB (fun j => (i + j + 1) % 256) (128 - k)).map u8) ∧ (∀ c, c ≠ B → g.get c = h.get c) ∧ g.n0 = h.n0 ∧ g.next = h.next)
    (fin := fun ex y g => ex = .exit 2 ∧ (y 0 = x 0 ∧ y 1 = x 1 ∧ y 2 = x 2 ∧ y 7 = x 7 ∧ y 9 = x 9 ∧ y 10 = x 10 ∧ y 11 = x 11) ∧
      g.get B = some ((partB (fun j => (i + j + 1) % 256) 128).map u8) ∧ (∀ c, c ≠ B → g.get c = h.get c) ∧ g.n0 = h.n0 ∧ g.next = h.next)
    (by
      rintro k y g ⟨hk, ⟨j0, j1, j2, j7, j9, j10, j11⟩, j12, jg, jo, jn, jx⟩
      unfold t11l11_1111101001001010
      simp -implicitDefEqProofs only [j12, bin_lss, pu_some, thenV_some]
      by_cases hz : k = 0
      · subst hz
        have : decide (((128 - 0 : Nat) : Int) < 128) = false := rfl
        simp -implicitDefEqProofs only [this]
        refine ⟨_, _, _, rfl, .inr ⟨by simp, rfl, ?_, jg, jo, jn, jx⟩⟩
        simp only [up_cons, up_nil, Nat.reduceEqDiff, if_false, j0, j1, j2, j7, j9, j10, j11, and_self]
      · have hlt : ((128 - k : Nat) : Int) < 128 := by omega
        have w1 : IntKind.wrap .i64 ((i : Int) + ((128 - k : Nat) : Int)) = ((i + (128 - k) : Nat) : Int) := by rw [wrap_i64 (by omega) (by omega)]; omega
        have w2 : IntKind.wrap .i64 (((i + (128 - k) : Nat) : Int) + 1) = ((i + (128 - k) + 1 : Nat) : Int) := by rw [wrap_i64 (by omega) (by omega)]; omega
        have w3 : IntKind.wrap .u8 ((i + (128 - k) + 1 : Nat) : Int) = (((i + (128 - k) + 1) % 256 : Nat) : Int) := by rw [wrap_u8_mod]; omega
        have hix : idxS 1 (.slice (some ⟨B, 0, none⟩) 128 128) (i64n (128 - k)) = some (ptr B (128 - k)) := by
          unfold idxS
          simp only [i64n]
          rw [if_pos (by omega), Int.toNat_natCast, Nat.zero_add, Nat.mul_one]
        have hst := st_byte (v := (i + (128 - k) + 1) % 256) jg (o := 128 - k) (by rw [partB_length]; omega) (by rw [jn]; exact hB)
        rw [partB_set (fun j => (i + j + 1) % 256) (by omega)] at hst
        simp -implicitDefEqProofs only [decide_eq_true hlt, j10, i10, j11, i11, bin_add, w1, w2, cvI_int, w3, hix, hst, pu_some, thenV_some]
        refine ⟨_, _, _, rfl, .inl ⟨rfl, k - 1, by omega, by omega, ?_, ?_, ?_, ?_, jn, jx⟩⟩
        · simp only [up_cons, up_nil, Nat.reduceEqDiff, if_false, j0, j1, j2, j7, j9, j10, j11, i10, i11, and_self]
        · simp only [up_cons, up_nil, Nat.reduceEqDiff, if_false, if_true]
          rw [wrap_i64 (by omega) (by omega)]
          exact congrArg (Value.int .i64) (by omega)
        · rw [Heap.get_set_same (by rw [jn]; exact hB) jg, show 128 - (k - 1) = 128 - k + 1 by omega]
        · intro c hc
          rw [Heap.get_set_other (by rw [jn]; exact hB) (g.lt_of_get jg) _ hc]; exact jo c hc)
    (k := 128) (by decide) (x := x) (h := h) ⟨Nat.le_refl _, ⟨rfl, rfl, rfl, rfl, rfl, rfl, rfl⟩, i12, hg, fun _ _ => rfl, rfl, rfl⟩
  exact ⟨x', h', h1, h2⟩

theorem torn_copy (x : Nat → Value) (h : Heap) (B M at_ n len : Nat) (img bl : List Nat) (hn : n ≤ 128) (hM : h.n0 ≤ M) (hne : M ≠ B) (hgM : h.get M = some (img.map u8)) (hgB : h.get B = some (bl.map u8)) (hbl : bl.length = 128)
    (hlen : img.length = len) (hroom : 128 * at_ + 128 ≤ len) (hl2 : len ≤ 100000) (i9 : x 9 = .slice (some ⟨M, 0, none⟩) len len) (i11 : x 11 = .slice (some ⟨B, 0, none⟩) 128 128) (i13 : x 13 = i64n at_) (i14 : x 14 = i64n n) (i16 : x 16 = .int .i64 0) :
    ∃ x' h', iter (codeA Try.prog C (partOf Try.f11 [1, 1, 1, 1, 1, 0, 1, 0, 0, 1, 0, 0, 1, 1, 1, 1, 1, 1, 0, 0])) rounds (mkF 186 x) h = some (.exit 4, mkF 186 x', h') ∧
      (x' 0 = x 0 ∧ x' 1 = x 1 ∧ x' 2 = x 2 ∧ x' 7 = x 7 ∧ x' 9 = x 9 ∧ x' 10 = x 10) ∧
      h'.get M = some ((spliceN img (128 * at_) (bl.take n)).map u8) ∧ (∀ c, c ≠ M → h'.get c = h.get c) ∧ h'.n0 = h.n0 ∧ h'.next = h.next := by
  obtain ⟨ex, x', h', h1, rfl, h2⟩ := loop_inv (t11l11_1111101001001111110_eq C)
    (Inv := fun k y g => k ≤ n ∧ (y 0 = x 0 ∧ y 1 = x 1 ∧ y 2 = x 2 ∧ y 7 = x 7 ∧ y 9 = x 9 ∧ y 10 = x 10) ∧ (y 11 = x 11 ∧ y 13 = x 13 ∧ y 14 = x 14) ∧ y 16 = i64n (n - k) ∧
      g.get M = some ((spliceN img (128 * at_) (bl.take (n - k))).map u8) ∧ (∀ c, c ≠ M → g.get c = h.get c) ∧ g.n0 = h.n0 ∧ g.next = h.next)
    (fin := fun ex y g => ex = .exit 4 ∧ (y 0 = x 0 ∧ y 1 = x 1 ∧ y 2 = x 2 ∧ y 7 = x 7 ∧ y 9 = x 9 ∧ y 10 = x 10) ∧
      g.get M = some ((spliceN img (128 * at_) (bl.take n)).map u8) ∧ (∀ c, c ≠ M → g.get c = h.get c) ∧ g.n0 = h.n0 ∧ g.next = h.next)
    (by
      rintro k y g ⟨hk, ⟨j0, j1, j2, j7, j9, j10⟩, ⟨j11, j13, j14⟩, j16, jg, jo, jn, jx⟩
      unfold t11l11_1111101001001111110
      simp -implicitDefEqProofs only [j16, j14, i14, bin_lss, pu_some, thenV_some]
      by_cases hz : k = 0
      · subst hz
        simp -implicitDefEqProofs only [Nat.sub_zero, Int.lt_irrefl, decide_false]
        refine ⟨_, _, _, rfl, .inr ⟨by simp, rfl, ?_, by rw [jg, Nat.sub_zero], jo, jn, jx⟩⟩
        simp only [up_cons, up_nil, Nat.reduceEqDiff, if_false, j0, j1, j2, j7, j9, j10, and_self]
      · have hlt : ((n - k : Nat) : Int) < (n : Int) := by omega
        have w1 : IntKind.wrap .i64 (128 * (at_ : Int)) = ((128 * at_ : Nat) : Int) := by rw [wrap_i64 (by omega) (by omega)]; omega
        have w2 : IntKind.wrap .i64 (((128 * at_ : Nat) : Int) + ((n - k : Nat) : Int)) = ((128 * at_ + (n - k) : Nat) : Int) := by rw [wrap_i64 (by omega) (by omega)]; omega
        have hixB : idxS 1 (.slice (some ⟨B, 0, none⟩) 128 128) (i64n (n - k)) = some (ptr B (n - k)) := by
          unfold idxS
          simp only [i64n]
          rw [if_pos (by omega), Int.toNat_natCast, Nat.zero_add, Nat.mul_one]
        have hixM : idxS 1 (.slice (some ⟨M, 0, none⟩) len len) (i64n (128 * at_ + (n - k))) = some (ptr M (128 * at_ + (n - k))) := by
          unfold idxS
          simp only [i64n]
          rw [if_pos (by omega), Int.toNat_natCast, Nat.zero_add, Nat.mul_one]
        have hB2 : g.get B = some (bl.map u8) := by rw [jo B (fun e => hne e.symm)]; exact hgB
        have hld : ld1 (ptr B (n - k)) g = some (u8 (bl.getD (n - k) 0), g) := ld1_at hB2 (by
          rw [List.getElem?_map, List.getD_eq_getElem?_getD, List.getElem?_eq_getElem (by omega)]; rfl)
        have hsl : (spliceN img (128 * at_) (bl.take (n - k))).length = len := by rw [spliceN_length (by simp; omega)]; exact hlen
        have hst := st_byte (v := bl.getD (n - k) 0) jg (o := 128 * at_ + (n - k)) (by rw [hsl]; omega) (by rw [jn]; exact hM)
        rw [spliceN_step (by omega) (by omega)] at hst
        simp -implicitDefEqProofs only [decide_eq_true hlt, j9, i9, j11, i11, j13, i13, bin_mul, w1, bin_add, w2, hixB, hixM, hld, hst, pu_some, thenV_some]
        refine ⟨_, _, _, rfl, .inl ⟨rfl, k - 1, by omega, by omega, ?_, ?_, ?_, ?_, ?_, jn, jx⟩⟩
        · simp only [up_cons, up_nil, Nat.reduceEqDiff, if_false, j0, j1, j2, j7, j9, j10, i9, and_self]
        · simp only [up_cons, up_nil, Nat.reduceEqDiff, if_false, j11, j13, j14, i11, i13, i14, and_self]
        · simp only [up_cons, up_nil, Nat.reduceEqDiff, if_false, if_true]
          rw [wrap_i64 (by omega) (by omega)]
          exact congrArg (Value.int .i64) (by omega)
        · rw [Heap.get_set_same (by rw [jn]; exact hM) jg, show n - (k - 1) = n - k + 1 by omega]
        · intro c hc
          rw [Heap.get_set_other (by rw [jn]; exact hM) (g.lt_of_get jg) _ hc]; exact jo c hc)
    (k := n) (by have : rounds = 18446744073709551616 := rfl; omega) (x := x) (h := h) ⟨Nat.le_refl _, ⟨rfl, rfl, rfl, rfl, rfl, rfl⟩, ⟨rfl, rfl, rfl⟩, by rw [i16, Nat.sub_self]; rfl, by rw [hgM, Nat.sub_self]; simp [spliceN], fun _ _ => rfl, rfl, rfl⟩
  exact ⟨x', h', h1, h2⟩
end
end Go.Proofs.Ytcmfgmhadeeieaa
