/-
  CRC32C: what the function answers.
  Conditions: the slice's bytes can be read.
-/
import Derived.Test.YtcmfgmhadeeieaaT3
namespace Go.Proofs.Ytcmfgmhadeeieaa
open Go Go.Abs

/-- One bit of the table. -/
def crcBit (c : Nat) : Nat := (c / 2) ^^^ (0x82f63b78 * (c % 2))
def crcTab (i : Nat) : Nat := crcBit (crcBit (crcBit (crcBit i)))
def crcHalf (tab : Nat → Nat) (r : Nat) : Nat := tab (r % 16) ^^^ (r / 16)
def crcStep (r x : Nat) : Nat := crcHalf crcTab (crcHalf crcTab (r ^^^ x))
def crcN (l : List Nat) : Nat := 4294967295 ^^^ l.foldl crcStep 4294967295

theorem crcBit_lt {c : Nat} (h : c < 4294967296) : crcBit c < 4294967296 := by
  unfold crcBit
  have h1 : c / 2 < 2 ^ 32 := by omega
  have h2 : 0x82f63b78 * (c % 2) < 2 ^ 32 := by omega
  exact Nat.xor_lt_two_pow h1 h2
theorem crcTab_lt {c : Nat} (h : c < 4294967296) : crcTab c < 4294967296 := crcBit_lt (crcBit_lt (crcBit_lt (crcBit_lt h)))
theorem crcHalf_lt {tab : Nat → Nat} (ht : ∀ q, q < 16 → tab q < 4294967296) {r : Nat} (h : r < 4294967296) : crcHalf tab r < 4294967296 :=
  Nat.xor_lt_two_pow (n := 32) (ht _ (by omega)) (by omega)
theorem crcMix_lt {r : Nat} (h : r < 4294967296) : crcHalf crcTab r < 4294967296 := crcHalf_lt (fun q hq => crcTab_lt (by omega)) h
theorem crcStep_lt {r x : Nat} (h : r < 4294967296) (hx : x < 256) : crcStep r x < 4294967296 :=
  crcMix_lt (crcMix_lt (Nat.xor_lt_two_pow (n := 32) h (by omega)))
theorem crcFold_lt : ∀ (l : List Nat) (r : Nat), r < 4294967296 → (∀ x ∈ l, x < 256) → l.foldl crcStep r < 4294967296
  | [], r, h, _ => h
  | x :: l, r, h, hx => crcFold_lt l _ (crcStep_lt h (hx x List.mem_cons_self)) (fun y hy => hx y (List.mem_cons_of_mem _ hy))

abbrev u32 (n : Nat) : Value := .int .u32 (n : Int)
abbrev u8 (n : Nat) : Value := .int .u8 (n : Int)
abbrev i64n (n : Nat) : Value := .int .i64 (n : Int)

def crcIter (c : Nat) : Nat → Nat
  | 0 => c
  | i + 1 => crcBit (crcIter c i)
theorem crcIter_lt {c : Nat} (hc : c < 4294967296) : ∀ i, crcIter c i < 4294967296
  | 0 => hc
  | i + 1 => crcBit_lt (crcIter_lt hc i)

section
variable (C : CallF)

theorem crc_bit_ops {c : Nat} (hc : c < 4294967296) : bin Try.prog .shr 113 (u32 c) (.int .u64 1) = some (u32 (c / 2)) ∧ bin Try.prog .and 113 (u32 c) (.int .u32 1) = some (u32 (c % 2)) ∧
    bin Try.prog .mul 113 (.int .u32 2197175160) (u32 (c % 2)) = some (u32 (2197175160 * (c % 2))) ∧ bin Try.prog .xor 113 (u32 (c / 2)) (u32 (2197175160 * (c % 2))) = some (u32 (crcBit c)) := by
  refine ⟨?_, ?_, ?_, ?_⟩
  · exact bin_shr_nat Try.prog 113 (k := .u32) (k' := .u64) (a := c) (b := 1) (by decide)
  · have h1 := bin_and_nat Try.prog 113 (k := .u32) rfl (a := c) (b := 1) hc (by decide)
    rw [Nat.and_one_is_mod] at h1
    exact h1
  · rw [bin_mul, wrap_u32_mod]
    congr 2
    omega
  · exact bin_xor_nat Try.prog 113 (k := .u32) rfl (a := c / 2) (b := 2197175160 * (c % 2)) (by show _ < 2 ^ 32; omega) (by show _ < 2 ^ 32; omega)

theorem crc_inner (x : Nat → Value) (h : Heap) (c : Nat) (hc : c < 4294967296) (h5 : x 5 = u32 c) (h14 : x 14 = .int .i64 0) :
    ∃ x', iter (codeA Try.prog C (partOf Try.f95 [1, 1, 0, 1, 0, 0, 1, 1, 0, 0, 1, 1, 0, 1, 0, 0])) rounds (mkF 54 x) h = some (.exit 2, mkF 54 x', h) ∧ x' 5 = u32 (crcTab c) ∧
      x' 0 = x 0 ∧ x' 3 = x 3 ∧ x' 4 = x 4 ∧ x' 9 = x 9 := by
  obtain ⟨ex, x', h', h1, rfl, rfl, h2⟩ := loop_inv (t95l95_110100110011010_eq C)
    (Inv := fun k y h1 => k ≤ 4 ∧ h1 = h ∧ y 5 = u32 (crcIter c (4 - k)) ∧ y 14 = i64n (4 - k) ∧ y 0 = x 0 ∧ y 3 = x 3 ∧ y 4 = x 4 ∧ y 9 = x 9)
    (fin := fun ex y h1 => ex = .exit 2 ∧ h1 = h ∧ y 5 = u32 (crcTab c) ∧ y 0 = x 0 ∧ y 3 = x 3 ∧ y 4 = x 4 ∧ y 9 = x 9)
    (by
      rintro k y _ ⟨hk, rfl, i5, i14, i0, i3, i4, i9⟩
      obtain ⟨o1, o2, o3, o4⟩ := crc_bit_ops (crcIter_lt hc (4 - k))
      unfold t95l95_110100110011010
      simp -implicitDefEqProofs only [i5, i14, i64n, bin_lss, pu_some, thenV_some]
      by_cases hz : k = 0
      · subst hz
        refine ⟨_, _, _, rfl, .inr ⟨by simp, rfl, rfl, ?_⟩⟩
        simp -implicitDefEqProofs only [up_cons, up_nil, i5, i0, i3, i4, i9, Nat.reduceEqDiff, if_false, and_true]
        rfl
      · have hlt : ((4 - k : Nat) : Int) < 4 := by omega
        simp -implicitDefEqProofs only [decide_eq_true hlt, o1, o2, o3, o4, pu_some, thenV_some, bin_add]
        refine ⟨_, _, _, rfl, .inl ⟨rfl, k - 1, by omega, by omega, rfl, ?_⟩⟩
        simp -implicitDefEqProofs only [up_cons, up_nil, i0, i3, i4, i9, Nat.reduceEqDiff, if_false, if_true, and_true]
        refine ⟨?_, ?_⟩
        · have : 4 - (k - 1) = (4 - k) + 1 := by omega
          rw [this]; rfl
        · rw [wrap_i64 (by omega) (by omega)]
          congr 1
          omega)
    (k := 4) (by decide) ⟨by omega, rfl, h5, h14, rfl, rfl, rfl, rfl⟩
  exact ⟨x', h1, h2⟩

def tabBlk (i : Nat) : Blk := (List.range 16).map fun j => u32 (if j < i then crcTab j else 0)
theorem tabBlk_length (i : Nat) : (tabBlk i).length = 16 := by simp [tabBlk]
theorem tabBlk_at {i j : Nat} (hj : j < 16) : (tabBlk i)[j]? = some (u32 (if j < i then crcTab j else 0)) := by
  unfold tabBlk
  rw [List.getElem?_map, List.getElem?_range hj]; rfl
theorem tabBlk_set {i : Nat} (hi : i < 16) : (tabBlk i).set i (u32 (crcTab i)) = tabBlk (i + 1) := by
  apply List.ext_getElem?
  intro j
  rw [List.getElem?_set, tabBlk_length]
  by_cases hj : j < 16
  · rw [tabBlk_at hj, tabBlk_at hj]
    by_cases e : i = j
    · subst e; simp [hi]
    · rw [if_neg e]
      by_cases h2 : j < i
      · rw [if_pos h2, if_pos (by omega)]
      · rw [if_neg h2, if_neg (by omega)]
  · rw [List.getElem?_eq_none (by rw [tabBlk_length]; omega), List.getElem?_eq_none (by rw [tabBlk_length]; omega)]
    split
    · omega
    · rfl

theorem crc_table (x : Nat → Value) (h : Heap) (B : Nat) (hB : h.n0 ≤ B) (hg : h.get B = some (tabBlk 0)) (h3 : x 3 = ptr B 0) (h9 : x 9 = .int .i64 0) :
    ∃ x' h', iter (codeA Try.prog C (partOf Try.f95 [1, 1, 0, 1, 0, 0])) rounds (mkF 54 x) h = some (.exit 0, mkF 54 x', h') ∧ x' 0 = x 0 ∧ x' 3 = ptr B 0 ∧ Kept h h' (· = B) ∧ h'.get B = some (tabBlk 16) := by
  obtain ⟨ex, x', h', h1, rfl, h2⟩ := loop_inv (t95l95_11010_eq C)
    (Inv := fun k y h1 => k ≤ 16 ∧ y 9 = i64n (16 - k) ∧ y 0 = x 0 ∧ y 3 = ptr B 0 ∧ Kept h h1 (· = B) ∧ h1.get B = some (tabBlk (16 - k)))
    (fin := fun ex y h1 => ex = .exit 0 ∧ y 0 = x 0 ∧ y 3 = ptr B 0 ∧ Kept h h1 (· = B) ∧ h1.get B = some (tabBlk 16))
    (by
      rintro k y h1 ⟨hk, i9, i0, i3, ik, ig⟩
      unfold t95l95_11010
      simp -implicitDefEqProofs only [i9, i64n, bin_lss, pu_some, thenV_some]
      by_cases hz : k = 0
      · subst hz
        refine ⟨_, _, _, rfl, .inr ⟨by simp, rfl, ?_⟩⟩
        simp -implicitDefEqProofs only [up_cons, up_nil, i0, i3, Nat.reduceEqDiff, if_false, true_and]
        exact ⟨ik, ig⟩
      · have hlt : ((16 - k : Nat) : Int) < 16 := by omega
        have hw : IntKind.wrap .u32 ((16 - k : Nat) : Int) = ((16 - k : Nat) : Int) := wrap_u32 (by omega) (by omega)
        simp -implicitDefEqProofs only [decide_eq_true hlt, cvI_int, thenV_some, hw]
        obtain ⟨z, hz1, z5, z0, z3, z4, z9⟩ := crc_inner C (up y [(4, .int .i64 ((16 - k : Nat) : Int)), (5, u32 (16 - k)), (10, .bool true), (11, .int .i64 ((16 - k : Nat) : Int)), (12, .int .i64 ((16 - k : Nat) : Int)), (13, u32 (16 - k)), (14, .int .i64 0)]) h1 (16 - k) (by omega) rfl rfl
        rw [hz1]
        simp -implicitDefEqProofs only [up_cons, up_nil, Nat.reduceEqDiff, if_false, if_true] at z0 z3 z4 z9
        simp -implicitDefEqProofs only [endL_exit, b95_17, if_true, t95k95_15_eq]
        have hlt2 : (0 : Int) ≤ ((16 - k : Nat) : Int) ∧ ((16 - k : Nat) : Int) < ((16 : Nat) : Int) := by omega
        unfold t95k95_15
        simp -implicitDefEqProofs only [z3, i3, z4, z5, idxA, hlt2, and_self, if_true, addP_ptr, pu_some, thenV_some, Nat.zero_add, Int.toNat_natCast, Nat.mul_one]
        rw [stN1_at ig (by rw [tabBlk_length]; omega) (by rw [ik.n0]; exact hB) rfl rfl, tabBlk_set (by omega)]
        simp -implicitDefEqProofs only [thenV_some, t95k95_11_eq]
        unfold t95k95_11
        simp -implicitDefEqProofs only [up_cons, up_nil, Nat.reduceEqDiff, if_false, if_true, z9, i9, bin_add, pu_some, thenV_some]
        refine ⟨_, _, _, rfl, .inl ⟨rfl, k - 1, by omega, by omega, ?_⟩⟩
        have hb : h1.n0 ≤ B := by rw [ik.n0]; exact hB
        have e1 : 16 - (k - 1) = 16 - k + 1 := by omega
        simp -implicitDefEqProofs only [up_cons, up_nil, Nat.reduceEqDiff, if_false, if_true, z0, i0, z3, i3, true_and, e1]
        refine ⟨?_, ik.trans (Kept.set hb ig (.inr rfl)), Heap.get_set_same hb ig _⟩
        rw [wrap_i64 (by omega) (by omega)]
        congr 1)
    (k := 16) (by decide) ⟨by omega, h9, rfl, h3, Kept.refl _ _, hg⟩
  exact ⟨x', h', h1, h2⟩
end

/-- The bytes of a slice. -/
def nat8 : Value → Option Nat
  | .int .u8 (.ofNat n) => if n < 256 then some n else none
  | _ => none
theorem nat8_eq {v : Value} {n : Nat} (h : nat8 v = some n) : v = u8 n ∧ n < 256 := by
  unfold nat8 at h
  split at h
  · split at h
    · cases h; exact ⟨rfl, by assumption⟩
    · cases h
  · cases h
def bytesOf : List Value → Option (List Nat)
  | [] => some []
  | v :: l => match nat8 v, bytesOf l with
    | some n, some r => some (n :: r)
    | _, _ => none
theorem bytesOf_eq : ∀ {l : List Value} {r : List Nat}, bytesOf l = some r → l = r.map u8 ∧ ∀ n ∈ r, n < 256
  | [], r, h => by cases h; exact ⟨rfl, by simp⟩
  | v :: l, r, h => by
    unfold bytesOf at h
    split at h
    · rename_i n r' h1 h2
      cases h
      obtain ⟨rfl, h3⟩ := nat8_eq h1
      obtain ⟨rfl, h4⟩ := bytesOf_eq h2
      refine ⟨rfl, fun m hm => ?_⟩
      rcases List.mem_cons.1 hm with rfl | hm
      · exact h3
      · exact h4 m hm
    · cases h
theorem bytesOf_map : ∀ {r : List Nat}, (∀ n ∈ r, n < 256) → bytesOf (r.map u8) = some r
  | [], _ => rfl
  | n :: r, h => by
    have h1 : nat8 (u8 n) = some n := by
      show (if n < 256 then some n else none) = some n
      rw [if_pos (h n List.mem_cons_self)]
    simp -implicitDefEqProofs only [List.map_cons, bytesOf, h1, bytesOf_map (r := r) (fun m hm => h m (List.mem_cons_of_mem _ hm))]
/-- What a slice of bytes holds. -/
def sliceBytes (a : Option Addr) (n : Nat) (h : Heap) : Option (List Nat) := (firstA 1 n (.slice a n n) h).bind bytesOf

theorem sliceBytes_spec {a : Option Addr} {n : Nat} {h : Heap} {l : List Nat} (e : sliceBytes a n h = some l) :
    l.length = n ∧ (∀ m ∈ l, m < 256) ∧ (0 < n → ∃ b off s k, a = some ⟨b, off, s⟩ ∧ h.get b = some k ∧ off + n ≤ k.length ∧ ∀ i, i < n → k[off + i]? = some (u8 (l.getD i 0))) := by
  unfold sliceBytes at e
  rw [Option.bind_eq_some_iff] at e
  obtain ⟨cs, h1, h2⟩ := e
  obtain ⟨rfl, h3⟩ := bytesOf_eq h2
  unfold firstA at h1
  split at h1
  · split at h1
    · rename_i hn
      simp -implicitDefEqProofs only [Option.some.injEq] at h1
      have : l = [] := by cases l with | nil => rfl | cons => simp at h1
      subst this; subst hn
      exact ⟨rfl, h3, fun h => absurd h (by omega)⟩
    · cases h1
  · rename_i b off s _ _ heq
    split at h1
    · rename_i hn
      simp -implicitDefEqProofs only [Option.some.injEq] at h1
      have : l = [] := by cases l with | nil => rfl | cons => simp at h1
      subst this
      have : n = 0 := by omega
      subst this
      exact ⟨rfl, h3, fun h => absurd h (by omega)⟩
    · split at h1
      · rename_i k hk
        split at h1
        · rename_i hl
          rw [Nat.mul_one] at h1 hl
          simp -implicitDefEqProofs only [Option.some.injEq] at h1
          have hlen : l.length = n := by
            have := congrArg List.length h1
            simp -implicitDefEqProofs only [List.length_map, List.length_take, List.length_drop] at this
            omega
          refine ⟨hlen, h3, fun _ => ⟨b, off, s, k, ?_, hk, hl, ?_⟩⟩
          · cases heq; rfl
          · intro i hi
            have h4 := congrArg (·[i]?) h1
            simp -implicitDefEqProofs only [List.getElem?_take, hi, if_true, List.getElem?_drop, List.getElem?_map] at h4
            rw [h4, List.getD_eq_getElem?_getD, List.getElem?_eq_getElem (by omega)]
            rfl
        · cases h1
      · cases h1
  · cases (show Value.slice a n n = .string _ by assumption)
  · cases h1

theorem sliceBytes_mono {a : Option Addr} {n : Nat} {h h' : Heap} {l : List Nat} (e : sliceBytes a n h = some l) (hm : ∀ b k, h.get b = some k → h'.get b = some k) : sliceBytes a n h' = some l := by
  unfold sliceBytes at e ⊢
  rw [Option.bind_eq_some_iff] at e ⊢
  obtain ⟨cs, h1, h2⟩ := e
  refine ⟨cs, ?_, h2⟩
  unfold firstA at h1 ⊢
  split at h1
  · exact h1
  · split at h1
    · rw [if_pos (by assumption)]; exact h1
    · rw [if_neg (by assumption)]
      split at h1
      · rename_i k hk
        rw [hm _ _ hk]; exact h1
      · cases h1
  · cases (show Value.slice a n n = .string _ by assumption)
  · cases h1

def s95 : List Value → Heap → Out
  | [.slice a n c], h => match sliceBytes a n h with
    | some l => if n < 9223372036854775807 then some (u32 (crcN l), h) else none
    | none => none
  | _, _ => none

theorem crc_mix (tab : Nat → Nat) (ht : ∀ q, q < 16 → tab q < 4294967296) (r : Nat) (hr : r < 4294967296) : bin Try.prog .and 113 (u32 r) (.int .u32 15) = some (u32 (r % 16)) ∧ bin Try.prog .shr 113 (u32 r) (.int .u64 4) = some (u32 (r / 16)) ∧
    bin Try.prog .xor 113 (u32 (tab (r % 16))) (u32 (r / 16)) = some (u32 (crcHalf tab r)) := by
  refine ⟨?_, ?_, ?_⟩
  · have h1 := bin_and_nat Try.prog 113 (k := .u32) rfl (a := r) (b := 15) hr (by decide)
    rw [show r &&& 15 = r % 16 from Nat.and_two_pow_sub_one_eq_mod r 4] at h1
    exact h1
  · exact bin_shr_nat Try.prog 113 (k := .u32) (k' := .u64) (a := r) (b := 4) (by decide)
  · exact bin_xor_nat Try.prog 113 (k := .u32) rfl (ht _ (by omega)) (by show _ < 2 ^ 32; omega)

section
variable (C : CallF)
theorem crc_round (tab : Nat → Nat) (ht : ∀ q, q < 16 → tab q < 4294967296) (y : Nat → Value) (h : Heap) (B : Nat) (blk : Blk) (hg : h.get B = some blk) (hblk : ∀ q, q < 16 → blk[q]? = some (u32 (tab q)))
    (b off len c i V R : Nat) (s : Option Nat) (kb : Blk) (hkb : h.get b = some kb) (hcell : kb[off + i]? = some (u8 V)) (hV : V < 256) (hR : R < 4294967296) (hi : i < len) (hlen : len < 9223372036854775807)
    (i3 : y 3 = ptr B 0) (i6 : y 6 = u32 R) (i27 : y 27 = .slice (some ⟨b, off, s⟩) len c) (i28 : y 28 = i64n len) (i29 : y 29 = i64n i) :
    ∃ y', t95l95_1111010 C y h = some (.normal, mkF 54 y', h) ∧ y' 3 = y 3 ∧ y' 6 = u32 (crcHalf tab (crcHalf tab (R ^^^ V))) ∧ y' 27 = y 27 ∧ y' 28 = y 28 ∧ y' 29 = i64n (i + 1) := by
  have hlt : (i : Int) < (len : Int) := by omega
  have hidx : (0 : Int) ≤ (i : Int) ∧ (i : Int) < (len : Int) := by omega
  have hw : IntKind.wrap .u32 ((V : Nat) : Int) = (V : Int) := wrap_u32 (by omega) (by omega)
  have hx := bin_xor_nat Try.prog 113 (k := .u32) rfl (a := R) (b := V) hR (by show _ < 2 ^ 32; omega)
  have hr1 : R ^^^ V < 4294967296 := Nat.xor_lt_two_pow (n := 32) hR (by omega)
  generalize R ^^^ V = R1 at *
  obtain ⟨a1, a2, a3⟩ := crc_mix tab ht _ hr1
  have hr2 := crcHalf_lt ht hr1
  generalize crcHalf tab R1 = R2 at *
  obtain ⟨b1, b2, b3⟩ := crc_mix tab ht _ hr2
  generalize crcHalf tab R2 = R3 at *
  have hi1 : ∀ q : Nat, (0 : Int) ≤ ((q % 16 : Nat) : Int) ∧ ((q % 16 : Nat) : Int) < ((16 : Nat) : Int) := fun q => by omega
  have hld : ∀ q : Nat, ld1 (ptr B (q % 16)) h = some (u32 (tab (q % 16)), h) := fun q => ld1_at hg (hblk _ (by omega))
  unfold t95l95_1111010
  simp -implicitDefEqProofs only [i28, i29, i64n, bin_lss, pu_some, thenV_some, decide_eq_true hlt, i27, idxS, hidx, and_self, if_true, Int.toNat_natCast, Nat.mul_one, ld1_at hkb hcell, cvI_int, hw, i6, hx, a1, i3, idxA, hi1, addP_ptr, Nat.zero_add, hld, a2, a3, b1, b2, b3, bin_add]
  refine ⟨_, rfl, ?_⟩
  simp -implicitDefEqProofs only [up_cons, up_nil, Nat.reduceEqDiff, if_false, if_true, i3, i27, i28, true_and]
  rw [wrap_i64 (by omega) (by omega)]
  rfl

theorem crc_bytes (x : Nat → Value) (h : Heap) (B : Nat) (a : Option Addr) (n c : Nat) (l : List Nat) (hg : h.get B = some (tabBlk 16)) (hl : sliceBytes a n h = some l)
    (h3 : x 3 = ptr B 0) (h6 : x 6 = u32 4294967295) (h27 : x 27 = .slice a n c) (h28 : x 28 = i64n n) (h29 : x 29 = .int .i64 0) (hn : n < rounds) (hn2 : n < 9223372036854775807) :
    ∃ x', iter (codeA Try.prog C (partOf Try.f95 [1, 1, 1, 1, 0, 1, 0, 0])) rounds (mkF 54 x) h = some (.exit 4, mkF 54 x', h) ∧ x' 6 = u32 (l.foldl crcStep 4294967295) := by
  obtain ⟨hlen, hb, hat⟩ := sliceBytes_spec hl
  obtain ⟨ex, x', h', h1, rfl, rfl, h2⟩ := loop_inv (t95l95_1111010_eq C)
    (Inv := fun k y h1 => k ≤ n ∧ h = h1 ∧ y 3 = ptr B 0 ∧ y 6 = u32 ((l.take (n - k)).foldl crcStep 4294967295) ∧ y 27 = .slice a n c ∧ y 28 = i64n n ∧ y 29 = i64n (n - k))
    (fin := fun ex y h1 => ex = .exit 4 ∧ h1 = h ∧ y 6 = u32 (l.foldl crcStep 4294967295))
    (by
      rintro k y _ ⟨hk, rfl, i3, i6, i27, i28, i29⟩
      by_cases hz : k = 0
      · subst hz
        unfold t95l95_1111010
        simp -implicitDefEqProofs only [i28, i29, i64n, bin_lss, pu_some, thenV_some]
        simp -implicitDefEqProofs only [Nat.sub_zero, Int.lt_irrefl, decide_false]
        refine ⟨_, _, _, rfl, .inr ⟨by simp, rfl, rfl, ?_⟩⟩
        simp -implicitDefEqProofs only [up_cons, up_nil, Nat.reduceEqDiff, if_false, i6, Nat.sub_zero]
        rw [List.take_of_length_le (by omega)]
      · have e1 : n - (k - 1) = n - k + 1 := by omega
        have hnk : n - k < n := by omega
        have hlt2 : n - k < l.length := by omega
        obtain ⟨b, off, s, kb, rfl, hkb, hkl, hat2⟩ := hat (by omega)
        have hcell := hat2 (n - k) hnk
        clear hat hat2
        have hr : ((l.take (n - k)).foldl crcStep 4294967295) < 4294967296 := crcFold_lt _ _ (by omega) (fun m hm => hb m (List.mem_of_mem_take hm))
        have hbv : l.getD (n - k) 0 < 256 := by
          rw [List.getD_eq_getElem?_getD, List.getElem?_eq_getElem hlt2]
          exact hb _ (List.getElem_mem _)
        obtain ⟨y', q1, q3, q6, q27, q28, q29⟩ := crc_round C crcTab (fun q hq => crcTab_lt (by omega)) y h B (tabBlk 16) hg (fun q hq => by rw [tabBlk_at hq, if_pos hq]) b off n c (n - k) _ _ s kb hkb hcell hbv hr hnk hn2 i3 i6 i27 i28 i29
        refine ⟨_, _, _, q1, .inl ⟨rfl, k - 1, by omega, by omega, rfl, q3.trans i3, ?_, q27.trans i27, q28.trans i28, by rw [q29, e1]⟩⟩
        rw [q6, e1, List.take_add_one, List.foldl_append]
        have hV2 : l[n - k]? = some (l.getD (n - k) 0) := by
          rw [List.getD_eq_getElem?_getD, List.getElem?_eq_getElem hlt2]
          rfl
        rw [hV2, Option.toList_some, List.foldl_cons, List.foldl_nil, crcStep])
    (k := n) hn ⟨by omega, rfl, h3, by rw [h6, Nat.sub_self, List.take_zero, List.foldl_nil], h27, h28, by rw [h29, Nat.sub_self]; rfl⟩
  exact ⟨x', h1, h2⟩

theorem bits_xor_nat {k : IntKind} (hk : k.signed = false) {a b : Nat} (ha : a < 2 ^ k.bits) (hb : b < 2 ^ k.bits) : bitsA .xor k (a : Int) (b : Int) = some (.int k ((a ^^^ b : Nat) : Int)) := by
  simp -implicitDefEqProofs only [bitsA, ofInt_natCast, BitVec.toNat_xor, BitVec.toNat_ofNat, Nat.mod_eq_of_lt ha, Nat.mod_eq_of_lt hb]
  rw [bits_u hk _ (Nat.xor_lt_two_pow ha hb)]
theorem unA_xor_u32 {r : Nat} (hr : r < 4294967296) : unA .xor (u32 r) = some (u32 (4294967295 ^^^ r)) := by
  have h0 : 4294967295 < 2 ^ IntKind.bits .u32 := by show 4294967295 < 2 ^ 32; omega
  have h1 := bits_xor_nat (k := .u32) rfl (a := 4294967295) (b := r) h0 hr
  have h2 : IntKind.max .u32 = ((4294967295 : Nat) : Int) := by decide
  have h3 : unA .xor (u32 r) = bitsA .xor .u32 (IntKind.max .u32) r := rfl
  rw [h3, h2]
  exact h1

theorem t95_is (a : Option Addr) (n c : Nat) (l : List Nat) (h : Heap) (hl : sliceBytes a n h = some l) (hn : n < 9223372036854775807) :
    ∃ h1, t95 C (.slice a n c) h = some (u32 (crcN l), h1) ∧ ∀ b k, h.get b = some k → h1.get b = some k := by
  unfold t95
  simp -implicitDefEqProofs only [newC, Abs.newRow, thenV_some]
  have hg0 : (h.alloc (tabBlk 0)).get h.next = some (tabBlk 0) := by rw [Heap.get_alloc, if_pos rfl]
  have hz : List.replicate 16 (Value.int IntKind.u32 0) = tabBlk 0 := rfl
  rw [hz]
  obtain ⟨x', h', h1, x0, x3, hk, hg⟩ := crc_table C (up (bs [.slice a n c]) [(2, .int .u32 0), (3, ptr h.next 0), (9, .int .i64 0)]) (h.alloc (tabBlk 0)) h.next h.n0_le_next hg0 rfl rfl
  rw [h1]
  have x0' : x' 0 = .slice a n c := x0
  have hm : ∀ b k, h.get b = some k → h'.get b = some k := by
    intro b k hb
    have hlt := h.lt_of_get hb
    rw [hk.get b (by simp; omega) (by omega), Heap.get_alloc, if_neg (by omega)]; exact hb
  simp -implicitDefEqProofs only [endL_exit, b95_4, if_true, t95k95_2_eq]
  unfold t95k95_2
  simp -implicitDefEqProofs only [x0', lenL_slice, pu_some, thenV_some]
  obtain ⟨z, hz1, z6⟩ := crc_bytes C (up x' [(6, .int .u32 4294967295), (27, .slice a n c), (28, .int .i64 n), (29, .int .i64 0)]) h' h.next a n c l hg (sliceBytes_mono hl hm)
    (by simp -implicitDefEqProofs only [up_cons, up_nil, Nat.reduceEqDiff, if_false, x3]) rfl rfl rfl rfl (by have : rounds = 18446744073709551616 := rfl; omega) hn
  rw [hz1]
  simp -implicitDefEqProofs only [endL_exit, b95_8, if_true, t95k95_6_eq]
  unfold t95k95_6
  obtain ⟨_, hb, _⟩ := sliceBytes_spec hl
  refine ⟨h', ?_, hm⟩
  simp -implicitDefEqProofs only [z6, thenV_some, unA_xor_u32 (crcFold_lt l 4294967295 (by omega) hb), pu_some, crcN]

theorem mixed : Try.prog.follows .mixedOrders = true := by kernel_rfl
theorem is95 : IsFn Try.prog 95 Try.f95 := ⟨by kernel_rfl, by kernel_rfl, by kernel_rfl, by kernel_rfl⟩
theorem c95 : Contract Try.prog 95 s95 := by
  have key : ∀ args h v h', s95 args h = some (v, h') → ∃ a n c l, args = [.slice a n c] ∧ sliceBytes a n h = some l ∧ n < 9223372036854775807 ∧ v = u32 (crcN l) ∧ h' = h := by
    intro args h v h' e
    unfold s95 at e
    split at e
    · split at e
      · rename_i l hl
        split at e
        · rename_i hn
          cases e
          exact ⟨_, _, _, l, rfl, hl, hn, rfl, rfl⟩
        · cases e
      · cases e
    · cases e
  refine .quiet (callL_sound [] (by simp)) mixed is95 ?_ ?_
  · intro args h v h' e
    obtain ⟨a, n, c, l, rfl, hl, hn, rfl, rfl⟩ := key _ _ _ _ e
    exact ⟨rfl, fun _ => rfl⟩
  · intro args h v h' e _ _
    obtain ⟨a, n, c, l, rfl, hl, hn, rfl, rfl⟩ := key _ _ _ _ e
    obtain ⟨h1, h2, h3⟩ := t95_is (callL []) a n c l _ hl hn
    exact ⟨h1, (t95_eq _ _ _).trans h2, h3⟩
end
end Go.Proofs.Ytcmfgmhadeeieaa
