/-
  CRC32C: what the function answers.
  Conditions: the slice's bytes can be read.
  The store: the calls' evaluator for the summaries of its known run.
  Conditions: as each theorem states.
  Printed by a program: the texts of the digest's compression, linked to the program.
  Conditions: none.
  The digest's compression of a block: what it computes.
  Conditions: as each theorem states.
  The digest's compression in numbers, and as a summary for the closed run.
  Conditions: as each theorem states.
  The digest's compression as a summary for the closed run.
  Conditions: as each theorem states.
-/
import Derived.Test.YtdhpgacmgebjdaaGreatDoorG12
namespace Go.Proofs.YtdhpgacmgebjdaaGreatDoor
open Go Go.Abs
noncomputable section

/-- One bit of the table. -/
def crcBit (c : Nat) : Nat := (c / 2) ^^^ (0x82f63b78 * (c % 2))
def crcTab (i : Nat) : Nat := crcBit (crcBit (crcBit (crcBit i)))
def crcHalf (tab : Nat → Nat) (r : Nat) : Nat := tab (r % 16) ^^^ (r / 16)
def crcStep (r x : Nat) : Nat := crcHalf crcTab (crcHalf crcTab (r ^^^ x))
def crcN (l : List Nat) : Nat := 4294967295 ^^^ l.foldl crcStep 4294967295

theorem crcBit_lt {c : Nat} (h : c < 4294967296) : crcBit c < 4294967296 := by
  unfold crcBit
  have h1 : c / 2 < 2 ^ 32 := by omega
  have h2 : 0x82f63b78 * (c % 2) < 2 ^ 32 := by omega
  exact Nat.xor_lt_two_pow h1 h2
theorem crcTab_lt {c : Nat} (h : c < 4294967296) : crcTab c < 4294967296 := crcBit_lt (crcBit_lt (crcBit_lt (crcBit_lt h)))
theorem crcHalf_lt {tab : Nat → Nat} (ht : ∀ q, q < 16 → tab q < 4294967296) {r : Nat} (h : r < 4294967296) : crcHalf tab r < 4294967296 :=
  Nat.xor_lt_two_pow (n := 32) (ht _ (by omega)) (by omega)
theorem crcMix_lt {r : Nat} (h : r < 4294967296) : crcHalf crcTab r < 4294967296 := crcHalf_lt (fun q hq => crcTab_lt (by omega)) h
theorem crcStep_lt {r x : Nat} (h : r < 4294967296) (hx : x < 256) : crcStep r x < 4294967296 :=
  crcMix_lt (crcMix_lt (Nat.xor_lt_two_pow (n := 32) h (by omega)))
theorem crcFold_lt : ∀ (l : List Nat) (r : Nat), r < 4294967296 → (∀ x ∈ l, x < 256) → l.foldl crcStep r < 4294967296
  | [], r, h, _ => h
  | x :: l, r, h, hx => crcFold_lt l _ (crcStep_lt h (hx x List.mem_cons_self)) (fun y hy => hx y (List.mem_cons_of_mem _ hy))

abbrev u32 (n : Nat) : Value := .int .u32 (n : Int)
abbrev u8 (n : Nat) : Value := .int .u8 (n : Int)
abbrev i64n (n : Nat) : Value := .int .i64 (n : Int)

def crcIter (c : Nat) : Nat → Nat
  | 0 => c
  | i + 1 => crcBit (crcIter c i)
theorem crcIter_lt {c : Nat} (hc : c < 4294967296) : ∀ i, crcIter c i < 4294967296
  | 0 => hc
  | i + 1 => crcBit_lt (crcIter_lt hc i)

section
variable (C : CallF)

theorem crc_bit_ops {c : Nat} (hc : c < 4294967296) : bin Tryz.prog .shr 186 (u32 c) (.int .u64 1) = some (u32 (c / 2)) ∧ bin Tryz.prog .and 186 (u32 c) (.int .u32 1) = some (u32 (c % 2)) ∧
    bin Tryz.prog .mul 186 (.int .u32 2197175160) (u32 (c % 2)) = some (u32 (2197175160 * (c % 2))) ∧ bin Tryz.prog .xor 186 (u32 (c / 2)) (u32 (2197175160 * (c % 2))) = some (u32 (crcBit c)) := by
  refine ⟨?_, ?_, ?_, ?_⟩
  · exact bin_shr_nat Tryz.prog 186 (k := .u32) (k' := .u64) (a := c) (b := 1) (by decide)
  · have h1 := bin_and_nat Tryz.prog 186 (k := .u32) rfl (a := c) (b := 1) hc (by decide)
    rw [Nat.and_one_is_mod] at h1
    exact h1
  · rw [bin_mul, wrap_u32_mod]
    congr 2
    omega
  · exact bin_xor_nat Tryz.prog 186 (k := .u32) rfl (a := c / 2) (b := 2197175160 * (c % 2)) (by show _ < 2 ^ 32; omega) (by show _ < 2 ^ 32; omega)

theorem crc_inner (x : Nat → Value) (h : Heap) (c : Nat) (hc : c < 4294967296) (h5 : x 5 = u32 c) (h14 : x 14 = .int .i64 0) :
    ∃ x', iter (codeA Tryz.prog C (partOf Tryz.f208 [1, 1, 0, 1, 0, 0, 1, 1, 0, 0, 1, 1, 0, 1, 0, 0])) rounds (mkF 54 x) h = some (.exit 2, mkF 54 x', h) ∧ x' 5 = u32 (crcTab c) ∧
      x' 0 = x 0 ∧ x' 3 = x 3 ∧ x' 4 = x 4 ∧ x' 9 = x 9 := by
  obtain ⟨ex, x', h', h1, rfl, rfl, h2⟩ := loop_inv (t208l208_110100110011010_eq C)
    (Inv := fun k y h1 => k ≤ 4 ∧ h1 = h ∧ y 5 = u32 (crcIter c (4 - k)) ∧ y 14 = i64n (4 - k) ∧ y 0 = x 0 ∧ y 3 = x 3 ∧ y 4 = x 4 ∧ y 9 = x 9)
    (fin := fun ex y h1 => ex = .exit 2 ∧ h1 = h ∧ y 5 = u32 (crcTab c) ∧ y 0 = x 0 ∧ y 3 = x 3 ∧ y 4 = x 4 ∧ y 9 = x 9)
    (by
      rintro k y _ ⟨hk, rfl, i5, i14, i0, i3, i4, i9⟩
      obtain ⟨o1, o2, o3, o4⟩ := crc_bit_ops (crcIter_lt hc (4 - k))
      unfold t208l208_110100110011010
      simp -implicitDefEqProofs only [i5, i14, i64n, bin_lss, pu_some, thenV_some]
      by_cases hz : k = 0
      · subst hz
        refine ⟨_, _, _, rfl, .inr ⟨by simp, rfl, rfl, ?_⟩⟩
        simp -implicitDefEqProofs only [up_cons, up_nil, i5, i0, i3, i4, i9, Nat.reduceEqDiff, if_false, and_true]
        rfl
      · have hlt : ((4 - k : Nat) : Int) < 4 := by omega
        simp -implicitDefEqProofs only [decide_eq_true hlt, o1, o2, o3, o4, pu_some, thenV_some, bin_add]
        refine ⟨_, _, _, rfl, .inl ⟨rfl, k - 1, by omega, by omega, rfl, ?_⟩⟩
        simp -implicitDefEqProofs only [up_cons, up_nil, i0, i3, i4, i9, Nat.reduceEqDiff, if_false, if_true, and_true]
        refine ⟨?_, ?_⟩
        · have : 4 - (k - 1) = (4 - k) + 1 := by omega
          rw [this]; rfl
        · rw [wrap_i64 (by omega) (by omega)]
          congr 1
          omega)
    (k := 4) (by decide) ⟨by omega, rfl, h5, h14, rfl, rfl, rfl, rfl⟩
  exact ⟨x', h1, h2⟩

def tabBlk (i : Nat) : Blk := (List.range 16).map fun j => u32 (if j < i then crcTab j else 0)
theorem tabBlk_length (i : Nat) : (tabBlk i).length = 16 := by simp [tabBlk]
theorem tabBlk_at {i j : Nat} (hj : j < 16) : (tabBlk i)[j]? = some (u32 (if j < i then crcTab j else 0)) := by
  unfold tabBlk
  rw [List.getElem?_map, List.getElem?_range hj]; rfl
theorem tabBlk_set {i : Nat} (hi : i < 16) : (tabBlk i).set i (u32 (crcTab i)) = tabBlk (i + 1) := by
  apply List.ext_getElem?
  intro j
  rw [List.getElem?_set, tabBlk_length]
  by_cases hj : j < 16
  · rw [tabBlk_at hj, tabBlk_at hj]
    by_cases e : i = j
    · subst e; simp [hi]
    · rw [if_neg e]
      by_cases h2 : j < i
      · rw [if_pos h2, if_pos (by omega)]
      · rw [if_neg h2, if_neg (by omega)]
  · rw [List.getElem?_eq_none (by rw [tabBlk_length]; omega), List.getElem?_eq_none (by rw [tabBlk_length]; omega)]
    split
    · omega
    · rfl

theorem crc_table (x : Nat → Value) (h : Heap) (B : Nat) (hB : h.n0 ≤ B) (hg : h.get B = some (tabBlk 0)) (h3 : x 3 = ptr B 0) (h9 : x 9 = .int .i64 0) :
    ∃ x' h', iter (codeA Tryz.prog C (partOf Tryz.f208 [1, 1, 0, 1, 0, 0])) rounds (mkF 54 x) h = some (.exit 0, mkF 54 x', h') ∧ x' 0 = x 0 ∧ x' 3 = ptr B 0 ∧ Kept h h' (· = B) ∧ h'.get B = some (tabBlk 16) := by
  obtain ⟨ex, x', h', h1, rfl, h2⟩ := loop_inv (t208l208_11010_eq C)
    (Inv := fun k y h1 => k ≤ 16 ∧ y 9 = i64n (16 - k) ∧ y 0 = x 0 ∧ y 3 = ptr B 0 ∧ Kept h h1 (· = B) ∧ h1.get B = some (tabBlk (16 - k)))
    (fin := fun ex y h1 => ex = .exit 0 ∧ y 0 = x 0 ∧ y 3 = ptr B 0 ∧ Kept h h1 (· = B) ∧ h1.get B = some (tabBlk 16))
    (by
      rintro k y h1 ⟨hk, i9, i0, i3, ik, ig⟩
      unfold t208l208_11010
      simp -implicitDefEqProofs only [i9, i64n, bin_lss, pu_some, thenV_some]
      by_cases hz : k = 0
      · subst hz
        refine ⟨_, _, _, rfl, .inr ⟨by simp, rfl, ?_⟩⟩
        simp -implicitDefEqProofs only [up_cons, up_nil, i0, i3, Nat.reduceEqDiff, if_false, true_and]
        exact ⟨ik, ig⟩
      · have hlt : ((16 - k : Nat) : Int) < 16 := by omega
        have hw : IntKind.wrap .u32 ((16 - k : Nat) : Int) = ((16 - k : Nat) : Int) := wrap_u32 (by omega) (by omega)
        simp -implicitDefEqProofs only [decide_eq_true hlt, cvI_int, thenV_some, hw]
        obtain ⟨z, hz1, z5, z0, z3, z4, z9⟩ := crc_inner C (up y [(4, .int .i64 ((16 - k : Nat) : Int)), (5, u32 (16 - k)), (10, .bool true), (11, .int .i64 ((16 - k : Nat) : Int)), (12, .int .i64 ((16 - k : Nat) : Int)), (13, u32 (16 - k)), (14, .int .i64 0)]) h1 (16 - k) (by omega) rfl rfl
        rw [hz1]
        simp -implicitDefEqProofs only [up_cons, up_nil, Nat.reduceEqDiff, if_false, if_true] at z0 z3 z4 z9
        simp -implicitDefEqProofs only [endL_exit, b208_17, if_true, t208k208_15_eq]
        have hlt2 : (0 : Int) ≤ ((16 - k : Nat) : Int) ∧ ((16 - k : Nat) : Int) < ((16 : Nat) : Int) := by omega
        unfold t208k208_15
        simp -implicitDefEqProofs only [z3, i3, z4, z5, idxA, hlt2, and_self, if_true, addP_ptr, pu_some, thenV_some, Nat.zero_add, Int.toNat_natCast, Nat.mul_one]
        rw [stN1_at ig (by rw [tabBlk_length]; omega) (by rw [ik.n0]; exact hB) rfl rfl, tabBlk_set (by omega)]
        simp -implicitDefEqProofs only [thenV_some, t208k208_11_eq]
        unfold t208k208_11
        simp -implicitDefEqProofs only [up_cons, up_nil, Nat.reduceEqDiff, if_false, if_true, z9, i9, bin_add, pu_some, thenV_some]
        refine ⟨_, _, _, rfl, .inl ⟨rfl, k - 1, by omega, by omega, ?_⟩⟩
        have hb : h1.n0 ≤ B := by rw [ik.n0]; exact hB
        have e1 : 16 - (k - 1) = 16 - k + 1 := by omega
        simp -implicitDefEqProofs only [up_cons, up_nil, Nat.reduceEqDiff, if_false, if_true, z0, i0, z3, i3, true_and, e1]
        refine ⟨?_, ik.trans (Kept.set hb ig (.inr rfl)), Heap.get_set_same hb ig _⟩
        rw [wrap_i64 (by omega) (by omega)]
        congr 1)
    (k := 16) (by decide) ⟨by omega, h9, rfl, h3, Kept.refl _ _, hg⟩
  exact ⟨x', h', h1, h2⟩
end

theorem noHoles_u8 : ∀ l : List Nat, noHoles (l.map u8) = true
  | [] => rfl
  | x :: l => by
    have := noHoles_u8 l
    simp only [noHoles, List.map_cons, List.all_cons] at this ⊢
    rw [this]; rfl
/-- The bytes of a slice. -/
def nat8 : Value → Option Nat
  | .int .u8 (.ofNat n) => if n < 256 then some n else none
  | _ => none
theorem nat8_eq {v : Value} {n : Nat} (h : nat8 v = some n) : v = u8 n ∧ n < 256 := by
  unfold nat8 at h
  split at h
  · split at h
    · cases h; exact ⟨rfl, by assumption⟩
    · cases h
  · cases h
def bytesOf : List Value → Option (List Nat)
  | [] => some []
  | v :: l => match nat8 v, bytesOf l with
    | some n, some r => some (n :: r)
    | _, _ => none
theorem bytesOf_eq : ∀ {l : List Value} {r : List Nat}, bytesOf l = some r → l = r.map u8 ∧ ∀ n ∈ r, n < 256
  | [], r, h => by cases h; exact ⟨rfl, by simp⟩
  | v :: l, r, h => by
    unfold bytesOf at h
    split at h
    · rename_i n r' h1 h2
      cases h
      obtain ⟨rfl, h3⟩ := nat8_eq h1
      obtain ⟨rfl, h4⟩ := bytesOf_eq h2
      refine ⟨rfl, fun m hm => ?_⟩
      rcases List.mem_cons.1 hm with rfl | hm
      · exact h3
      · exact h4 m hm
    · cases h
theorem bytesOf_map : ∀ {r : List Nat}, (∀ n ∈ r, n < 256) → bytesOf (r.map u8) = some r
  | [], _ => rfl
  | n :: r, h => by
    have h1 : nat8 (u8 n) = some n := by
      show (if n < 256 then some n else none) = some n
      rw [if_pos (h n List.mem_cons_self)]
    simp -implicitDefEqProofs only [List.map_cons, bytesOf, h1, bytesOf_map (r := r) (fun m hm => h m (List.mem_cons_of_mem _ hm))]
/-- What a slice of bytes holds. -/
def sliceBytes (a : Option Addr) (n : Nat) (h : Heap) : Option (List Nat) := (firstA 1 n (.slice a n n) h).bind bytesOf

theorem sliceBytes_spec {a : Option Addr} {n : Nat} {h : Heap} {l : List Nat} (e : sliceBytes a n h = some l) :
    l.length = n ∧ (∀ m ∈ l, m < 256) ∧ (0 < n → ∃ b off s k, a = some ⟨b, off, s⟩ ∧ h.get b = some k ∧ off + n ≤ k.length ∧ ∀ i, i < n → k[off + i]? = some (u8 (l.getD i 0))) := by
  unfold sliceBytes at e
  rw [Option.bind_eq_some_iff] at e
  obtain ⟨cs, h1, h2⟩ := e
  obtain ⟨rfl, h3⟩ := bytesOf_eq h2
  unfold firstA at h1
  split at h1
  · split at h1
    · rename_i hn
      simp -implicitDefEqProofs only [Option.some.injEq] at h1
      have : l = [] := by cases l with | nil => rfl | cons => simp at h1
      subst this; subst hn
      exact ⟨rfl, h3, fun h => absurd h (by omega)⟩
    · cases h1
  · rename_i b off s _ _ heq
    split at h1
    · rename_i hn
      simp -implicitDefEqProofs only [Option.some.injEq] at h1
      have : l = [] := by cases l with | nil => rfl | cons => simp at h1
      subst this
      have : n = 0 := by omega
      subst this
      exact ⟨rfl, h3, fun h => absurd h (by omega)⟩
    · split at h1
      · rename_i k hk
        split at h1
        · rename_i hl0
          have hl := hl0.1
          rw [Nat.mul_one] at h1 hl
          simp -implicitDefEqProofs only [Option.some.injEq] at h1
          have hlen : l.length = n := by
            have := congrArg List.length h1
            simp -implicitDefEqProofs only [List.length_map, List.length_take, List.length_drop] at this
            omega
          refine ⟨hlen, h3, fun _ => ⟨b, off, s, k, ?_, hk, hl, ?_⟩⟩
          · cases heq; rfl
          · intro i hi
            have h4 := congrArg (·[i]?) h1
            simp -implicitDefEqProofs only [List.getElem?_take, hi, if_true, List.getElem?_drop, List.getElem?_map] at h4
            rw [h4, List.getD_eq_getElem?_getD, List.getElem?_eq_getElem (by omega)]
            rfl
        · cases h1
      · cases h1
  · cases (show Value.slice a n n = .string _ by assumption)
  · cases h1

theorem sliceBytes_mono {a : Option Addr} {n : Nat} {h h' : Heap} {l : List Nat} (e : sliceBytes a n h = some l) (hm : ∀ b k, h.get b = some k → h'.get b = some k) : sliceBytes a n h' = some l := by
  unfold sliceBytes at e ⊢
  rw [Option.bind_eq_some_iff] at e ⊢
  obtain ⟨cs, h1, h2⟩ := e
  refine ⟨cs, ?_, h2⟩
  unfold firstA at h1 ⊢
  split at h1
  · exact h1
  · split at h1
    · rw [if_pos (by assumption)]; exact h1
    · rw [if_neg (by assumption)]
      split at h1
      · rename_i k hk
        rw [hm _ _ hk]; exact h1
      · cases h1
  · cases (show Value.slice a n n = .string _ by assumption)
  · cases h1

def s208 : List Value → Heap → Out
  | [.slice a n c], h => match sliceBytes a n h with
    | some l => if n < 9223372036854775807 then some (u32 (crcN l), h) else none
    | none => none
  | _, _ => none

theorem crc_mix (tab : Nat → Nat) (ht : ∀ q, q < 16 → tab q < 4294967296) (r : Nat) (hr : r < 4294967296) : bin Tryz.prog .and 186 (u32 r) (.int .u32 15) = some (u32 (r % 16)) ∧ bin Tryz.prog .shr 186 (u32 r) (.int .u64 4) = some (u32 (r / 16)) ∧
    bin Tryz.prog .xor 186 (u32 (tab (r % 16))) (u32 (r / 16)) = some (u32 (crcHalf tab r)) := by
  refine ⟨?_, ?_, ?_⟩
  · have h1 := bin_and_nat Tryz.prog 186 (k := .u32) rfl (a := r) (b := 15) hr (by decide)
    rw [show r &&& 15 = r % 16 from Nat.and_two_pow_sub_one_eq_mod r 4] at h1
    exact h1
  · exact bin_shr_nat Tryz.prog 186 (k := .u32) (k' := .u64) (a := r) (b := 4) (by decide)
  · exact bin_xor_nat Tryz.prog 186 (k := .u32) rfl (ht _ (by omega)) (by show _ < 2 ^ 32; omega)

section
variable (C : CallF)
theorem crc_round (tab : Nat → Nat) (ht : ∀ q, q < 16 → tab q < 4294967296) (y : Nat → Value) (h : Heap) (B : Nat) (blk : Blk) (hg : h.get B = some blk) (hblk : ∀ q, q < 16 → blk[q]? = some (u32 (tab q)))
    (b off len c i V R : Nat) (s : Option Nat) (kb : Blk) (hkb : h.get b = some kb) (hcell : kb[off + i]? = some (u8 V)) (hV : V < 256) (hR : R < 4294967296) (hi : i < len) (hlen : len < 9223372036854775807)
    (i3 : y 3 = ptr B 0) (i6 : y 6 = u32 R) (i27 : y 27 = .slice (some ⟨b, off, s⟩) len c) (i28 : y 28 = i64n len) (i29 : y 29 = i64n i) :
    ∃ y', t208l208_1111010 C y h = some (.normal, mkF 54 y', h) ∧ y' 3 = y 3 ∧ y' 6 = u32 (crcHalf tab (crcHalf tab (R ^^^ V))) ∧ y' 27 = y 27 ∧ y' 28 = y 28 ∧ y' 29 = i64n (i + 1) := by
  have hlt : (i : Int) < (len : Int) := by omega
  have hidx : (0 : Int) ≤ (i : Int) ∧ (i : Int) < (len : Int) := by omega
  have hw : IntKind.wrap .u32 ((V : Nat) : Int) = (V : Int) := wrap_u32 (by omega) (by omega)
  have hx := bin_xor_nat Tryz.prog 186 (k := .u32) rfl (a := R) (b := V) hR (by show _ < 2 ^ 32; omega)
  have hr1 : R ^^^ V < 4294967296 := Nat.xor_lt_two_pow (n := 32) hR (by omega)
  generalize R ^^^ V = R1 at *
  obtain ⟨a1, a2, a3⟩ := crc_mix tab ht _ hr1
  have hr2 := crcHalf_lt ht hr1
  generalize crcHalf tab R1 = R2 at *
  obtain ⟨b1, b2, b3⟩ := crc_mix tab ht _ hr2
  generalize crcHalf tab R2 = R3 at *
  have hi1 : ∀ q : Nat, (0 : Int) ≤ ((q % 16 : Nat) : Int) ∧ ((q % 16 : Nat) : Int) < ((16 : Nat) : Int) := fun q => by omega
  have hld : ∀ q : Nat, ld1 (ptr B (q % 16)) h = some (u32 (tab (q % 16)), h) := fun q => ld1_at hg (hblk _ (by omega))
  unfold t208l208_1111010
  simp -implicitDefEqProofs only [i28, i29, i64n, bin_lss, pu_some, thenV_some, decide_eq_true hlt, i27, idxS, hidx, and_self, if_true, Int.toNat_natCast, Nat.mul_one, ld1_at hkb hcell, cvI_int, hw, i6, hx, a1, i3, idxA, hi1, addP_ptr, Nat.zero_add, hld, a2, a3, b1, b2, b3, bin_add]
  refine ⟨_, rfl, ?_⟩
  simp -implicitDefEqProofs only [up_cons, up_nil, Nat.reduceEqDiff, if_false, if_true, i3, i27, i28, true_and]
  rw [wrap_i64 (by omega) (by omega)]
  rfl

theorem crc_bytes (x : Nat → Value) (h : Heap) (B : Nat) (a : Option Addr) (n c : Nat) (l : List Nat) (hg : h.get B = some (tabBlk 16)) (hl : sliceBytes a n h = some l)
    (h3 : x 3 = ptr B 0) (h6 : x 6 = u32 4294967295) (h27 : x 27 = .slice a n c) (h28 : x 28 = i64n n) (h29 : x 29 = .int .i64 0) (hn : n < rounds) (hn2 : n < 9223372036854775807) :
    ∃ x', iter (codeA Tryz.prog C (partOf Tryz.f208 [1, 1, 1, 1, 0, 1, 0, 0])) rounds (mkF 54 x) h = some (.exit 4, mkF 54 x', h) ∧ x' 6 = u32 (l.foldl crcStep 4294967295) := by
  obtain ⟨hlen, hb, hat⟩ := sliceBytes_spec hl
  obtain ⟨ex, x', h', h1, rfl, rfl, h2⟩ := loop_inv (t208l208_1111010_eq C)
    (Inv := fun k y h1 => k ≤ n ∧ h = h1 ∧ y 3 = ptr B 0 ∧ y 6 = u32 ((l.take (n - k)).foldl crcStep 4294967295) ∧ y 27 = .slice a n c ∧ y 28 = i64n n ∧ y 29 = i64n (n - k))
    (fin := fun ex y h1 => ex = .exit 4 ∧ h1 = h ∧ y 6 = u32 (l.foldl crcStep 4294967295))
    (by
      rintro k y _ ⟨hk, rfl, i3, i6, i27, i28, i29⟩
      by_cases hz : k = 0
      · subst hz
        unfold t208l208_1111010
        simp -implicitDefEqProofs only [i28, i29, i64n, bin_lss, pu_some, thenV_some]
        simp -implicitDefEqProofs only [Nat.sub_zero, Int.lt_irrefl, decide_false]
        refine ⟨_, _, _, rfl, .inr ⟨by simp, rfl, rfl, ?_⟩⟩
        simp -implicitDefEqProofs only [up_cons, up_nil, Nat.reduceEqDiff, if_false, i6, Nat.sub_zero]
        rw [List.take_of_length_le (by omega)]
      · have e1 : n - (k - 1) = n - k + 1 := by omega
        have hnk : n - k < n := by omega
        have hlt2 : n - k < l.length := by omega
        obtain ⟨b, off, s, kb, rfl, hkb, hkl, hat2⟩ := hat (by omega)
        have hcell := hat2 (n - k) hnk
        clear hat hat2
        have hr : ((l.take (n - k)).foldl crcStep 4294967295) < 4294967296 := crcFold_lt _ _ (by omega) (fun m hm => hb m (List.mem_of_mem_take hm))
        have hbv : l.getD (n - k) 0 < 256 := by
          rw [List.getD_eq_getElem?_getD, List.getElem?_eq_getElem hlt2]
          exact hb _ (List.getElem_mem _)
        obtain ⟨y', q1, q3, q6, q27, q28, q29⟩ := crc_round C crcTab (fun q hq => crcTab_lt (by omega)) y h B (tabBlk 16) hg (fun q hq => by rw [tabBlk_at hq, if_pos hq]) b off n c (n - k) _ _ s kb hkb hcell hbv hr hnk hn2 i3 i6 i27 i28 i29
        refine ⟨_, _, _, q1, .inl ⟨rfl, k - 1, by omega, by omega, rfl, q3.trans i3, ?_, q27.trans i27, q28.trans i28, by rw [q29, e1]⟩⟩
        rw [q6, e1, List.take_add_one, List.foldl_append]
        have hV2 : l[n - k]? = some (l.getD (n - k) 0) := by
          rw [List.getD_eq_getElem?_getD, List.getElem?_eq_getElem hlt2]
          rfl
        rw [hV2, Option.toList_some, List.foldl_cons, List.foldl_nil, crcStep])
    (k := n) hn ⟨by omega, rfl, h3, by rw [h6, Nat.sub_self, List.take_zero, List.foldl_nil], h27, h28, by rw [h29, Nat.sub_self]; rfl⟩
  exact ⟨x', h1, h2⟩

theorem bits_xor_nat {k : IntKind} (hk : k.signed = false) {a b : Nat} (ha : a < 2 ^ k.bits) (hb : b < 2 ^ k.bits) : bitsA .xor k (a : Int) (b : Int) = some (.int k ((a ^^^ b : Nat) : Int)) := by
  simp -implicitDefEqProofs only [bitsA, ofInt_natCast, BitVec.toNat_xor, BitVec.toNat_ofNat, Nat.mod_eq_of_lt ha, Nat.mod_eq_of_lt hb]
  rw [bits_u hk _ (Nat.xor_lt_two_pow ha hb)]
theorem unA_xor_u32 {r : Nat} (hr : r < 4294967296) : unA .xor (u32 r) = some (u32 (4294967295 ^^^ r)) := by
  have h0 : 4294967295 < 2 ^ IntKind.bits .u32 := by show 4294967295 < 2 ^ 32; omega
  have h1 := bits_xor_nat (k := .u32) rfl (a := 4294967295) (b := r) h0 hr
  have h2 : IntKind.max .u32 = ((4294967295 : Nat) : Int) := by decide
  have h3 : unA .xor (u32 r) = bitsA .xor .u32 (IntKind.max .u32) r := rfl
  rw [h3, h2]
  exact h1

theorem t208_is (a : Option Addr) (n c : Nat) (l : List Nat) (h : Heap) (hl : sliceBytes a n h = some l) (hn : n < 9223372036854775807) :
    ∃ h1, t208 C (.slice a n c) h = some (u32 (crcN l), h1) ∧ ∀ b k, h.getB b = some k → h1.getB b = some k := by
  unfold t208
  simp -implicitDefEqProofs only [newC, Abs.newRow, thenV_some]
  have hg0 : (h.alloc (tabBlk 0)).get h.next = some (tabBlk 0) := by rw [Heap.get_alloc, if_pos rfl]
  have hz : List.replicate 16 (Value.int IntKind.u32 0) = tabBlk 0 := rfl
  rw [hz]
  obtain ⟨x', h', h1, x0, x3, hk, hg⟩ := crc_table C (up (bs [.slice a n c]) [(2, .int .u32 0), (3, ptr h.next 0), (9, .int .i64 0)]) (h.alloc (tabBlk 0)) h.next h.n0_le_next hg0 rfl rfl
  rw [h1]
  have x0' : x' 0 = .slice a n c := x0
  have hm : ∀ b k, h.getB b = some k → h'.getB b = some k := by
    intro b k hb
    have hlt := h.lt_of_getB hb
    rw [hk.getB b (by simp; omega) (by omega), Heap.getB_alloc, if_neg (by omega)]; exact hb
  simp -implicitDefEqProofs only [endL_exit, b208_4, if_true, t208k208_2_eq]
  unfold t208k208_2
  simp -implicitDefEqProofs only [x0', lenL_slice, pu_some, thenV_some]
  obtain ⟨z, hz1, z6⟩ := crc_bytes C (up x' [(6, .int .u32 4294967295), (27, .slice a n c), (28, .int .i64 n), (29, .int .i64 0)]) h' h.next a n c l hg (sliceBytes_mono hl fun b k hb => h'.get_of_getB (hm b _ (h.getB_of_get hb)))
    (by simp -implicitDefEqProofs only [up_cons, up_nil, Nat.reduceEqDiff, if_false, x3]) rfl rfl rfl rfl (by have : rounds = 18446744073709551616 := rfl; omega) hn
  rw [hz1]
  simp -implicitDefEqProofs only [endL_exit, b208_8, if_true, t208k208_6_eq]
  unfold t208k208_6
  obtain ⟨_, hb, _⟩ := sliceBytes_spec hl
  refine ⟨h', ?_, hm⟩
  simp -implicitDefEqProofs only [z6, thenV_some, unA_xor_u32 (crcFold_lt l 4294967295 (by omega) hb), pu_some, crcN]

theorem mixed : Tryz.prog.follows .mixedOrders = true := by kernel_rfl
theorem is208 : IsFn Tryz.prog 208 Tryz.f208 := ⟨by kernel_rfl, by kernel_rfl, by kernel_rfl, by kernel_rfl⟩
theorem c208 : Contract Tryz.prog 208 s208 := by
  have key : ∀ args h v h', s208 args h = some (v, h') → ∃ a n c l, args = [.slice a n c] ∧ sliceBytes a n h = some l ∧ n < 9223372036854775807 ∧ v = u32 (crcN l) ∧ h' = h := by
    intro args h v h' e
    unfold s208 at e
    split at e
    · split at e
      · rename_i l hl
        split at e
        · rename_i hn
          cases e
          exact ⟨_, _, _, l, rfl, hl, hn, rfl, rfl⟩
        · cases e
      · cases e
    · cases e
  refine .quiet (callL_sound [] (by simp)) mixed is208 ?_ ?_
  · intro args h v h' e
    obtain ⟨a, n, c, l, rfl, hl, hn, rfl, rfl⟩ := key _ _ _ _ e
    exact ⟨rfl, fun _ => rfl⟩
  · intro args h v h' e _ _
    obtain ⟨a, n, c, l, rfl, hl, hn, rfl, rfl⟩ := key _ _ _ _ e
    obtain ⟨h1, h2, h3⟩ := t208_is (callL []) a n c l _ hl hn
    exact ⟨h1, (t208_eq _ _ _).trans h2, h3⟩
end
end
end Go.Proofs.YtdhpgacmgebjdaaGreatDoor

namespace Go.Proofs.YtdhpgacmgebjdaaGreatDoor
open Go Go.Abs
noncomputable section
theorem globals3 : Tryz.prog.globals.size = 3 := by kernel_rfl
theorem _root_.Go.Abs.Contract.weaker {P : Program} {f : FuncId} {s t : List Value → Heap → Out} (c : Contract P f s) (h : ∀ args g r, t args g = some r → s args g = some r) : Contract P f t :=
  ⟨c.fn, fun _ _ _ _ e => c.grow _ _ _ _ (h _ _ _ e), fun _ _ _ _ e => c.bd _ _ _ _ (h _ _ _ e), fun _ _ _ _ e => c.run _ _ _ _ (h _ _ _ e)⟩
noncomputable abbrev X00 : CallF := callL [(208, s208)]
theorem X00_sound : CSound Tryz.prog X00 := callL_sound _ (by
  intro p hp
  simp only [List.mem_cons, List.not_mem_nil, or_false] at hp
  subst hp
  exact c208)
noncomputable abbrev CB : CallF := CC Tryz.prog X00
theorem CB_body {f : FuncId} {fn : Func} (i : IsFn Tryz.prog f fn) {args : List Value} {h : Heap} {r : Value × Heap} (hg : 3 ≤ h.n0) (hX : X00 f args h = none) (e : bodyK Tryz.prog CB fn args h = some r) : CB f args h = some r :=
  CC_body i (by rw [globals3]; exact hg) hX e
def roundsL : List Value := [.int .u32 1116352408, .int .u32 1899447441, .int .u32 3049323471, .int .u32 3921009573, .int .u32 961987163, .int .u32 1508970993, .int .u32 2453635748, .int .u32 2870763221, .int .u32 3624381080, .int .u32 310598401, .int .u32 607225278, .int .u32 1426881987, .int .u32 1925078388, .int .u32 2162078206, .int .u32 2614888103, .int .u32 3248222580, .int .u32 3835390401, .int .u32 4022224774, .int .u32 264347078, .int .u32 604807628, .int .u32 770255983, .int .u32 1249150122, .int .u32 1555081692, .int .u32 1996064986, .int .u32 2554220882, .int .u32 2821834349, .int .u32 2952996808, .int .u32 3210313671, .int .u32 3336571891, .int .u32 3584528711, .int .u32 113926993, .int .u32 338241895, .int .u32 666307205, .int .u32 773529912, .int .u32 1294757372, .int .u32 1396182291, .int .u32 1695183700, .int .u32 1986661051, .int .u32 2177026350, .int .u32 2456956037, .int .u32 2730485921, .int .u32 2820302411, .int .u32 3259730800, .int .u32 3345764771, .int .u32 3516065817, .int .u32 3600352804, .int .u32 4094571909, .int .u32 275423344, .int .u32 430227734, .int .u32 506948616, .int .u32 659060556, .int .u32 883997877, .int .u32 958139571, .int .u32 1322822218, .int .u32 1537002063, .int .u32 1747873779, .int .u32 1955562222, .int .u32 2024104815, .int .u32 2227730452, .int .u32 2361852424, .int .u32 2428436474, .int .u32 2756734187, .int .u32 3204031479, .int .u32 3329325298]
end
end Go.Proofs.YtdhpgacmgebjdaaGreatDoor

namespace Go.Proofs.YtdhpgacmgebjdaaGreatDoor
open Go Go.Abs
/-- math/bits.RotateLeft32 -/
noncomputable def t215 (C : CallF) (x0 x1 : Value) (h : Heap) : Out :=
  thenV (some ((.int .u32 0), h)) fun y4 h =>
  thenV (some (x1, h)) fun y6 h =>
  thenV (cvI .u64 y6 h) fun y7 h =>
  thenV (pu (bin Tryz.prog .and 237 y7 (.int .u64 31)) h) fun y8 h =>
  thenV (some (y8, h)) fun y5 h =>
  thenV (some (x0, h)) fun y9 h =>
  thenV (some (y5, h)) fun y10 h =>
  thenV (pu (bin Tryz.prog .shl 186 y9 y10) h) fun y11 h =>
  thenV (some (x0, h)) fun y12 h =>
  thenV (some (y5, h)) fun y13 h =>
  thenV (pu (bin Tryz.prog .sub 237 (.int .u64 32) y13) h) fun y14 h =>
  thenV (pu (bin Tryz.prog .shr 186 y12 y14) h) fun y15 h =>
  thenV (pu (bin Tryz.prog .or 186 y11 y15) h) fun y16 h =>
  thenV (some (y16, h)) fun y4_1 h =>
  some (y4_1, h)
theorem t215_eq (C : CallF) (x0 x1 : Value) (h : Heap) : bodyK Tryz.prog C Tryz.f215 [x0, x1] h = t215 C x0 x1 h :=
  (bodyB_eq Tryz.prog C Tryz.f215 [x0, x1] h (by kernel_rfl)).trans (by kernel_rfl)

noncomputable def k187_1 (C : CallF) (e : Env) (h : Heap) : Out := codeK Tryz.prog C (partOf Tryz.f187 [1, 1]) e h (resultsA Tryz.prog Tryz.f187.results.toList) (resultsA Tryz.prog Tryz.f187.results.toList) (fun _ _ _ => none)
noncomputable def b187_3 (C : CallF) (i : Nat) (e : Env) (h : Heap) : Out := if i = 0 then (k187_1 C) e h else (fun _ _ _ => none) i e h
noncomputable def k187_4 (C : CallF) (e : Env) (h : Heap) : Out := codeK Tryz.prog C (partOf Tryz.f187 [1, 1, 1]) e h (resultsA Tryz.prog Tryz.f187.results.toList) (resultsA Tryz.prog Tryz.f187.results.toList) (fun _ _ _ => none)
noncomputable def b187_6 (C : CallF) (i : Nat) (e : Env) (h : Heap) : Out := if i = 2 then (k187_4 C) e h else (fun _ _ _ => none) i e h
noncomputable def k187_14 (C : CallF) (e : Env) (h : Heap) : Out := codeK Tryz.prog C (partOf Tryz.f187 [1, 1, 1, 1, 1, 1]) e h (resultsA Tryz.prog Tryz.f187.results.toList) (resultsA Tryz.prog Tryz.f187.results.toList) (fun _ _ _ => none)
noncomputable def b187_16 (C : CallF) (i : Nat) (e : Env) (h : Heap) : Out := if i = 4 then (k187_14 C) e h else (fun _ _ _ => none) i e h
noncomputable def b187_25 (C : CallF) (i : Nat) (e : Env) (h : Heap) : Out := if i = 6 then (resultsA Tryz.prog Tryz.f187.results.toList) e h else (fun _ _ _ => none) i e h
/-- (*stolon/digest.Hash).compress -/
noncomputable def t187 (C : CallF) (x0 : Value) (h : Heap) : Out :=
  thenV (newC (List.replicate 64 (.int .u32 0)) h) fun y2 h =>
  thenV (some ((.int .i64 0), h)) fun y24 h =>
  endL (iter (codeA Tryz.prog C (partOf Tryz.f187 [1, 0, 1, 0, 0])) rounds (mkF 241 (up (bs [x0]) [(2, y2), (24, y24)])) h) (resultsA Tryz.prog Tryz.f187.results.toList) (b187_3 C)
noncomputable def t187k187_1 (C : CallF) (x : Nat → Value) (h : Heap) : Out :=
  thenV (some ((.int .i64 16), h)) fun y4 h =>
  endL (iter (codeA Tryz.prog C (partOf Tryz.f187 [1, 1, 0, 1, 0, 0])) rounds (mkF 241 (up x [(4, y4)])) h) (resultsA Tryz.prog Tryz.f187.results.toList) (b187_6 C)
noncomputable def t187l187_1010 (C : CallF) (x : Nat → Value) (h : Heap) : Option (Ex × Env × Heap) :=
  thenV (pu (bin Tryz.prog .lss 3 (x 24) (.int .i64 16)) h) fun y25 h =>
  (match y25 with
  | .bool true =>
  thenV (some ((x 24), h)) fun y26 h =>
  thenV (some (y26, h)) fun y3 h =>
  thenV (some (y3, h)) fun y27 h =>
  thenV (some ((x 0), h)) fun y28 h =>
  thenV (some (y3, h)) fun y29 h =>
  thenV (pu (bin Tryz.prog .mul 3 (.int .i64 4) y29) h) fun y30 h =>
  thenV (pu (nilCheckA y28) h) fun y31 h =>
  thenV (pu (addP y31 8) h) fun y32 h =>
  thenV (pu (idxA 64 1 y32 y30) h) fun y33 h =>
  thenV (ld1 y33 h) fun y34 h =>
  thenV (cvI .u32 y34 h) fun y35 h =>
  thenV (pu (bin Tryz.prog .shl 186 y35 (.int .u64 24)) h) fun y36 h =>
  thenV (some ((x 0), h)) fun y37 h =>
  thenV (some (y3, h)) fun y38 h =>
  thenV (pu (bin Tryz.prog .mul 3 (.int .i64 4) y38) h) fun y39 h =>
  thenV (pu (bin Tryz.prog .add 3 y39 (.int .i64 1)) h) fun y40 h =>
  thenV (pu (nilCheckA y37) h) fun y41 h =>
  thenV (pu (addP y41 8) h) fun y42 h =>
  thenV (pu (idxA 64 1 y42 y40) h) fun y43 h =>
  thenV (ld1 y43 h) fun y44 h =>
  thenV (cvI .u32 y44 h) fun y45 h =>
  thenV (pu (bin Tryz.prog .shl 186 y45 (.int .u64 16)) h) fun y46 h =>
  thenV (pu (bin Tryz.prog .or 186 y36 y46) h) fun y47 h =>
  thenV (some ((x 0), h)) fun y48 h =>
  thenV (some (y3, h)) fun y49 h =>
  thenV (pu (bin Tryz.prog .mul 3 (.int .i64 4) y49) h) fun y50 h =>
  thenV (pu (bin Tryz.prog .add 3 y50 (.int .i64 2)) h) fun y51 h =>
  thenV (pu (nilCheckA y48) h) fun y52 h =>
  thenV (pu (addP y52 8) h) fun y53 h =>
  thenV (pu (idxA 64 1 y53 y51) h) fun y54 h =>
  thenV (ld1 y54 h) fun y55 h =>
  thenV (cvI .u32 y55 h) fun y56 h =>
  thenV (pu (bin Tryz.prog .shl 186 y56 (.int .u64 8)) h) fun y57 h =>
  thenV (pu (bin Tryz.prog .or 186 y47 y57) h) fun y58 h =>
  thenV (some ((x 0), h)) fun y59 h =>
  thenV (some (y3, h)) fun y60 h =>
  thenV (pu (bin Tryz.prog .mul 3 (.int .i64 4) y60) h) fun y61 h =>
  thenV (pu (bin Tryz.prog .add 3 y61 (.int .i64 3)) h) fun y62 h =>
  thenV (pu (nilCheckA y59) h) fun y63 h =>
  thenV (pu (addP y63 8) h) fun y64 h =>
  thenV (pu (idxA 64 1 y64 y62) h) fun y65 h =>
  thenV (ld1 y65 h) fun y66 h =>
  thenV (cvI .u32 y66 h) fun y67 h =>
  thenV (pu (bin Tryz.prog .or 186 y58 y67) h) fun y68 h =>
  thenV (pu (idxA 64 1 (x 2) y27) h) fun y69 h =>
  thenV (stN 1 y69 y68 h) fun _ h =>
  thenV (pu (bin Tryz.prog .add 3 (x 24) (.int .i64 1)) h) fun y70 h =>
  thenV (some (y70, h)) fun y24 h =>
  some (.normal, (mkF 241 (up x [(3, y3), (24, y24), (25, y25), (26, y26), (27, y27), (28, y28), (29, y29), (30, y30), (31, y31), (32, y32), (33, y33), (34, y34), (35, y35), (36, y36), (37, y37), (38, y38), (39, y39), (40, y40), (41, y41), (42, y42), (43, y43), (44, y44), (45, y45), (46, y46), (47, y47), (48, y48), (49, y49), (50, y50), (51, y51), (52, y52), (53, y53), (54, y54), (55, y55), (56, y56), (57, y57), (58, y58), (59, y59), (60, y60), (61, y61), (62, y62), (63, y63), (64, y64), (65, y65), (66, y66), (67, y67), (68, y68), (69, y69), (70, y70)])), h)
  | .bool false =>
  some (.exit 0, (mkF 241 (up x [(25, y25)])), h)
  | _ => none)
noncomputable def t187k187_4 (C : CallF) (x : Nat → Value) (h : Heap) : Out :=
  thenV (some ((x 0), h)) fun y114 h =>
  thenV (pu (nilCheckA y114) h) fun y115 h =>
  thenV (pu (addP y115 0) h) fun y116 h =>
  thenV (pu (idxA 8 1 y116 (.int .i64 0)) h) fun y117 h =>
  thenV (ld1 y117 h) fun y118 h =>
  thenV (some ((x 0), h)) fun y119 h =>
  thenV (pu (nilCheckA y119) h) fun y120 h =>
  thenV (pu (addP y120 0) h) fun y121 h =>
  thenV (pu (idxA 8 1 y121 (.int .i64 1)) h) fun y122 h =>
  thenV (ld1 y122 h) fun y123 h =>
  thenV (some ((x 0), h)) fun y124 h =>
  thenV (pu (nilCheckA y124) h) fun y125 h =>
  thenV (pu (addP y125 0) h) fun y126 h =>
  thenV (pu (idxA 8 1 y126 (.int .i64 2)) h) fun y127 h =>
  thenV (ld1 y127 h) fun y128 h =>
  thenV (some ((x 0), h)) fun y129 h =>
  thenV (pu (nilCheckA y129) h) fun y130 h =>
  thenV (pu (addP y130 0) h) fun y131 h =>
  thenV (pu (idxA 8 1 y131 (.int .i64 3)) h) fun y132 h =>
  thenV (ld1 y132 h) fun y133 h =>
  thenV (some (y118, h)) fun y9 h =>
  thenV (some (y123, h)) fun y10 h =>
  thenV (some (y128, h)) fun y11 h =>
  thenV (some (y133, h)) fun y12 h =>
  thenV (some ((x 0), h)) fun y134 h =>
  thenV (pu (nilCheckA y134) h) fun y135 h =>
  thenV (pu (addP y135 0) h) fun y136 h =>
  thenV (pu (idxA 8 1 y136 (.int .i64 4)) h) fun y137 h =>
  thenV (ld1 y137 h) fun y138 h =>
  thenV (some ((x 0), h)) fun y139 h =>
  thenV (pu (nilCheckA y139) h) fun y140 h =>
  thenV (pu (addP y140 0) h) fun y141 h =>
  thenV (pu (idxA 8 1 y141 (.int .i64 5)) h) fun y142 h =>
  thenV (ld1 y142 h) fun y143 h =>
  thenV (some ((x 0), h)) fun y144 h =>
  thenV (pu (nilCheckA y144) h) fun y145 h =>
  thenV (pu (addP y145 0) h) fun y146 h =>
  thenV (pu (idxA 8 1 y146 (.int .i64 6)) h) fun y147 h =>
  thenV (ld1 y147 h) fun y148 h =>
  thenV (some ((x 0), h)) fun y149 h =>
  thenV (pu (nilCheckA y149) h) fun y150 h =>
  thenV (pu (addP y150 0) h) fun y151 h =>
  thenV (pu (idxA 8 1 y151 (.int .i64 7)) h) fun y152 h =>
  thenV (ld1 y152 h) fun y153 h =>
  thenV (some (y138, h)) fun y13 h =>
  thenV (some (y143, h)) fun y14 h =>
  thenV (some (y148, h)) fun y15 h =>
  thenV (some (y153, h)) fun y16 h =>
  thenV (some ((.int .i64 0), h)) fun y154 h =>
  endL (iter (codeA Tryz.prog C (partOf Tryz.f187 [1, 1, 1, 1, 1, 0, 1, 0, 0])) rounds (mkF 241 (up x [(9, y9), (10, y10), (11, y11), (12, y12), (13, y13), (14, y14), (15, y15), (16, y16), (114, y114), (115, y115), (116, y116), (117, y117), (118, y118), (119, y119), (120, y120), (121, y121), (122, y122), (123, y123), (124, y124), (125, y125), (126, y126), (127, y127), (128, y128), (129, y129), (130, y130), (131, y131), (132, y132), (133, y133), (134, y134), (135, y135), (136, y136), (137, y137), (138, y138), (139, y139), (140, y140), (141, y141), (142, y142), (143, y143), (144, y144), (145, y145), (146, y146), (147, y147), (148, y148), (149, y149), (150, y150), (151, y151), (152, y152), (153, y153), (154, y154)])) h) (resultsA Tryz.prog Tryz.f187.results.toList) (b187_16 C)
noncomputable def t187l187_11010 (C : CallF) (x : Nat → Value) (h : Heap) : Option (Ex × Env × Heap) :=
  thenV (some ((x 4), h)) fun y71 h =>
  thenV (pu (bin Tryz.prog .lss 3 y71 (.int .i64 64)) h) fun y72 h =>
  (match y72 with
  | .bool true =>
  thenV (some ((x 4), h)) fun y75 h =>
  thenV (pu (bin Tryz.prog .sub 3 y75 (.int .i64 15)) h) fun y76 h =>
  thenV (pu (idxA 64 1 (x 2) y76) h) fun y77 h =>
  thenV (ld1 y77 h) fun y78 h =>
  thenV (some ((x 4), h)) fun y79 h =>
  thenV (pu (bin Tryz.prog .sub 3 y79 (.int .i64 2)) h) fun y80 h =>
  thenV (pu (idxA 64 1 (x 2) y80) h) fun y81 h =>
  thenV (ld1 y81 h) fun y82 h =>
  thenV (some (y78, h)) fun y5 h =>
  thenV (some (y82, h)) fun y6 h =>
  thenV (some (y5, h)) fun y83 h =>
  thenV (C 215 [y83, (.int .i64 (-7))] h) fun y84 h =>
  thenV (some (y5, h)) fun y85 h =>
  thenV (C 215 [y85, (.int .i64 (-18))] h) fun y86 h =>
  thenV (pu (bin Tryz.prog .xor 186 y84 y86) h) fun y87 h =>
  thenV (some (y5, h)) fun y88 h =>
  thenV (pu (bin Tryz.prog .shr 186 y88 (.int .u64 3)) h) fun y89 h =>
  thenV (pu (bin Tryz.prog .xor 186 y87 y89) h) fun y90 h =>
  thenV (some (y90, h)) fun y7 h =>
  thenV (some (y6, h)) fun y91 h =>
  thenV (C 215 [y91, (.int .i64 (-17))] h) fun y92 h =>
  thenV (some (y6, h)) fun y93 h =>
  thenV (C 215 [y93, (.int .i64 (-19))] h) fun y94 h =>
  thenV (pu (bin Tryz.prog .xor 186 y92 y94) h) fun y95 h =>
  thenV (some (y6, h)) fun y96 h =>
  thenV (pu (bin Tryz.prog .shr 186 y96 (.int .u64 10)) h) fun y97 h =>
  thenV (pu (bin Tryz.prog .xor 186 y95 y97) h) fun y98 h =>
  thenV (some (y98, h)) fun y8 h =>
  thenV (some ((x 4), h)) fun y99 h =>
  thenV (some ((x 4), h)) fun y100 h =>
  thenV (pu (bin Tryz.prog .sub 3 y100 (.int .i64 16)) h) fun y101 h =>
  thenV (pu (idxA 64 1 (x 2) y101) h) fun y102 h =>
  thenV (ld1 y102 h) fun y103 h =>
  thenV (some (y7, h)) fun y104 h =>
  thenV (pu (bin Tryz.prog .add 186 y103 y104) h) fun y105 h =>
  thenV (some ((x 4), h)) fun y106 h =>
  thenV (pu (bin Tryz.prog .sub 3 y106 (.int .i64 7)) h) fun y107 h =>
  thenV (pu (idxA 64 1 (x 2) y107) h) fun y108 h =>
  thenV (ld1 y108 h) fun y109 h =>
  thenV (pu (bin Tryz.prog .add 186 y105 y109) h) fun y110 h =>
  thenV (some (y8, h)) fun y111 h =>
  thenV (pu (bin Tryz.prog .add 186 y110 y111) h) fun y112 h =>
  thenV (pu (idxA 64 1 (x 2) y99) h) fun y113 h =>
  thenV (stN 1 y113 y112 h) fun _ h =>
  thenV (some ((x 4), h)) fun y73 h =>
  thenV (pu (bin Tryz.prog .add 3 y73 (.int .i64 1)) h) fun y74 h =>
  thenV (some (y74, h)) fun y4 h =>
  some (.normal, (mkF 241 (up x [(4, y4), (5, y5), (6, y6), (7, y7), (8, y8), (71, y71), (72, y72), (73, y73), (74, y74), (75, y75), (76, y76), (77, y77), (78, y78), (79, y79), (80, y80), (81, y81), (82, y82), (83, y83), (84, y84), (85, y85), (86, y86), (87, y87), (88, y88), (89, y89), (90, y90), (91, y91), (92, y92), (93, y93), (94, y94), (95, y95), (96, y96), (97, y97), (98, y98), (99, y99), (100, y100), (101, y101), (102, y102), (103, y103), (104, y104), (105, y105), (106, y106), (107, y107), (108, y108), (109, y109), (110, y110), (111, y111), (112, y112), (113, y113)])), h)
  | .bool false =>
  some (.exit 2, (mkF 241 (up x [(71, y71), (72, y72)])), h)
  | _ => none)
noncomputable def t187k187_14 (C : CallF) (x : Nat → Value) (h : Heap) : Out :=
  thenV (some ((x 9), h)) fun y216 h =>
  thenV (some ((x 10), h)) fun y217 h =>
  thenV (some ((x 11), h)) fun y218 h =>
  thenV (some ((x 12), h)) fun y219 h =>
  thenV (some ((x 13), h)) fun y220 h =>
  thenV (some ((x 14), h)) fun y221 h =>
  thenV (some ((x 15), h)) fun y222 h =>
  thenV (some ((x 16), h)) fun y223 h =>
  thenV (pu (bldR (List.replicate 8 (.int .u32 0)) [(0, 1, y216), (1, 1, y217), (2, 1, y218), (3, 1, y219), (4, 1, y220), (5, 1, y221), (6, 1, y222), (7, 1, y223)]) h) fun y224 h =>
  thenV (some ((.int .i64 0), h)) fun y225 h =>
  endL (iter (codeA Tryz.prog C (partOf Tryz.f187 [1, 1, 1, 1, 1, 1, 1, 0, 0])) rounds (mkF 241 (up x [(216, y216), (217, y217), (218, y218), (219, y219), (220, y220), (221, y221), (222, y222), (223, y223), (224, y224), (225, y225)])) h) (resultsA Tryz.prog Tryz.f187.results.toList) (b187_25 C)
noncomputable def t187l187_11111010 (C : CallF) (x : Nat → Value) (h : Heap) : Option (Ex × Env × Heap) :=
  thenV (pu (bin Tryz.prog .lss 3 (x 154) (.int .i64 64)) h) fun y155 h =>
  (match y155 with
  | .bool true =>
  thenV (some ((x 154), h)) fun y156 h =>
  thenV (some (y156, h)) fun y17 h =>
  thenV (some ((x 13), h)) fun y157 h =>
  thenV (C 215 [y157, (.int .i64 (-6))] h) fun y158 h =>
  thenV (some ((x 13), h)) fun y159 h =>
  thenV (C 215 [y159, (.int .i64 (-11))] h) fun y160 h =>
  thenV (pu (bin Tryz.prog .xor 186 y158 y160) h) fun y161 h =>
  thenV (some ((x 13), h)) fun y162 h =>
  thenV (C 215 [y162, (.int .i64 (-25))] h) fun y163 h =>
  thenV (pu (bin Tryz.prog .xor 186 y161 y163) h) fun y164 h =>
  thenV (some (y164, h)) fun y18 h =>
  thenV (some ((x 16), h)) fun y165 h =>
  thenV (some (y18, h)) fun y166 h =>
  thenV (pu (bin Tryz.prog .add 186 y165 y166) h) fun y167 h =>
  thenV (some ((x 15), h)) fun y168 h =>
  thenV (some ((x 13), h)) fun y169 h =>
  thenV (some ((x 14), h)) fun y170 h =>
  thenV (some ((x 15), h)) fun y171 h =>
  thenV (pu (bin Tryz.prog .xor 186 y170 y171) h) fun y172 h =>
  thenV (pu (bin Tryz.prog .and 186 y169 y172) h) fun y173 h =>
  thenV (pu (bin Tryz.prog .xor 186 y168 y173) h) fun y174 h =>
  thenV (pu (bin Tryz.prog .add 186 y167 y174) h) fun y175 h =>
  thenV (some (y17, h)) fun y176 h =>
  thenV (pu (idxA 64 1 (ptr 1 0) y176) h) fun y177 h =>
  thenV (ld1 y177 h) fun y178 h =>
  thenV (pu (bin Tryz.prog .add 186 y175 y178) h) fun y179 h =>
  thenV (some (y17, h)) fun y180 h =>
  thenV (pu (idxA 64 1 (x 2) y180) h) fun y181 h =>
  thenV (ld1 y181 h) fun y182 h =>
  thenV (pu (bin Tryz.prog .add 186 y179 y182) h) fun y183 h =>
  thenV (some (y183, h)) fun y19 h =>
  thenV (some ((x 9), h)) fun y184 h =>
  thenV (C 215 [y184, (.int .i64 (-2))] h) fun y185 h =>
  thenV (some ((x 9), h)) fun y186 h =>
  thenV (C 215 [y186, (.int .i64 (-13))] h) fun y187 h =>
  thenV (pu (bin Tryz.prog .xor 186 y185 y187) h) fun y188 h =>
  thenV (some ((x 9), h)) fun y189 h =>
  thenV (C 215 [y189, (.int .i64 (-22))] h) fun y190 h =>
  thenV (pu (bin Tryz.prog .xor 186 y188 y190) h) fun y191 h =>
  thenV (some (y191, h)) fun y20 h =>
  thenV (some (y20, h)) fun y192 h =>
  thenV (some ((x 9), h)) fun y193 h =>
  thenV (some ((x 10), h)) fun y194 h =>
  thenV (pu (bin Tryz.prog .and 186 y193 y194) h) fun y195 h =>
  thenV (some ((x 11), h)) fun y196 h =>
  thenV (some ((x 9), h)) fun y197 h =>
  thenV (some ((x 10), h)) fun y198 h =>
  thenV (pu (bin Tryz.prog .or 186 y197 y198) h) fun y199 h =>
  thenV (pu (bin Tryz.prog .and 186 y196 y199) h) fun y200 h =>
  thenV (pu (bin Tryz.prog .or 186 y195 y200) h) fun y201 h =>
  thenV (pu (bin Tryz.prog .add 186 y192 y201) h) fun y202 h =>
  thenV (some (y202, h)) fun y21 h =>
  thenV (some ((x 15), h)) fun y203 h =>
  thenV (some ((x 14), h)) fun y204 h =>
  thenV (some ((x 13), h)) fun y205 h =>
  thenV (some ((x 12), h)) fun y206 h =>
  thenV (some (y19, h)) fun y207 h =>
  thenV (pu (bin Tryz.prog .add 186 y206 y207) h) fun y208 h =>
  thenV (some (y203, h)) fun y16 h =>
  thenV (some (y204, h)) fun y15 h =>
  thenV (some (y205, h)) fun y14 h =>
  thenV (some (y208, h)) fun y13 h =>
  thenV (some ((x 11), h)) fun y209 h =>
  thenV (some ((x 10), h)) fun y210 h =>
  thenV (some ((x 9), h)) fun y211 h =>
  thenV (some (y19, h)) fun y212 h =>
  thenV (some (y21, h)) fun y213 h =>
  thenV (pu (bin Tryz.prog .add 186 y212 y213) h) fun y214 h =>
  thenV (some (y209, h)) fun y12 h =>
  thenV (some (y210, h)) fun y11 h =>
  thenV (some (y211, h)) fun y10 h =>
  thenV (some (y214, h)) fun y9 h =>
  thenV (pu (bin Tryz.prog .add 3 (x 154) (.int .i64 1)) h) fun y215 h =>
  thenV (some (y215, h)) fun y154 h =>
  some (.normal, (mkF 241 (up x [(9, y9), (10, y10), (11, y11), (12, y12), (13, y13), (14, y14), (15, y15), (16, y16), (17, y17), (18, y18), (19, y19), (20, y20), (21, y21), (154, y154), (155, y155), (156, y156), (157, y157), (158, y158), (159, y159), (160, y160), (161, y161), (162, y162), (163, y163), (164, y164), (165, y165), (166, y166), (167, y167), (168, y168), (169, y169), (170, y170), (171, y171), (172, y172), (173, y173), (174, y174), (175, y175), (176, y176), (177, y177), (178, y178), (179, y179), (180, y180), (181, y181), (182, y182), (183, y183), (184, y184), (185, y185), (186, y186), (187, y187), (188, y188), (189, y189), (190, y190), (191, y191), (192, y192), (193, y193), (194, y194), (195, y195), (196, y196), (197, y197), (198, y198), (199, y199), (200, y200), (201, y201), (202, y202), (203, y203), (204, y204), (205, y205), (206, y206), (207, y207), (208, y208), (209, y209), (210, y210), (211, y211), (212, y212), (213, y213), (214, y214), (215, y215)])), h)
  | .bool false =>
  some (.exit 4, (mkF 241 (up x [(155, y155)])), h)
  | _ => none)
noncomputable def t187l187_11111110 (C : CallF) (x : Nat → Value) (h : Heap) : Option (Ex × Env × Heap) :=
  thenV (pu (bin Tryz.prog .lss 3 (x 225) (.int .i64 8)) h) fun y226 h =>
  (match y226 with
  | .bool true =>
  thenV (some ((x 225), h)) fun y227 h =>
  thenV (pu (ixA1 8 1 (x 224) (x 225)) h) fun y228 h =>
  thenV (some (y227, h)) fun y22 h =>
  thenV (some (y228, h)) fun y23 h =>
  thenV (some ((x 0), h)) fun y229 h =>
  thenV (some (y22, h)) fun y230 h =>
  thenV (pu (nilCheckA y229) h) fun y231 h =>
  thenV (pu (addP y231 0) h) fun y232 h =>
  thenV (pu (idxA 8 1 y232 y230) h) fun y233 h =>
  thenV (ld1 y233 h) fun y234 h =>
  thenV (some (y23, h)) fun y235 h =>
  thenV (pu (bin Tryz.prog .add 186 y234 y235) h) fun y236 h =>
  thenV (pu (nilCheckA y229) h) fun y237 h =>
  thenV (pu (addP y237 0) h) fun y238 h =>
  thenV (pu (idxA 8 1 y238 y230) h) fun y239 h =>
  thenV (stN 1 y239 y236 h) fun _ h =>
  thenV (pu (bin Tryz.prog .add 3 (x 225) (.int .i64 1)) h) fun y240 h =>
  thenV (some (y240, h)) fun y225 h =>
  some (.normal, (mkF 241 (up x [(22, y22), (23, y23), (225, y225), (226, y226), (227, y227), (228, y228), (229, y229), (230, y230), (231, y231), (232, y232), (233, y233), (234, y234), (235, y235), (236, y236), (237, y237), (238, y238), (239, y239), (240, y240)])), h)
  | .bool false =>
  some (.exit 6, (mkF 241 (up x [(226, y226)])), h)
  | _ => none)
theorem t187_eq (C : CallF) (x0 : Value) (h : Heap) : bodyK Tryz.prog C Tryz.f187 [x0] h = t187 C x0 h :=
  (bodyB_eq Tryz.prog C Tryz.f187 [x0] h (by kernel_rfl)).trans (by kernel_rfl)
theorem t187k187_1_eq (C : CallF) (x : Nat → Value) (h : Heap) : k187_1 C (mkF 241 x) h = t187k187_1 C x h :=
  link_partF (b := (partOf Tryz.f187 [1, 1])) (kE := (resultsA Tryz.prog Tryz.f187.results.toList)) (rE := (resultsA Tryz.prog Tryz.f187.results.toList)) (xE := (fun _ _ _ => none)) (T := t187k187_1 C) (fun x h => by kernel_rfl) x h
theorem t187l187_1010_eq (C : CallF) (x : Nat → Value) (h : Heap) : codeA Tryz.prog C (partOf Tryz.f187 [1, 0, 1, 0, 0]) (mkF 241 x) h = t187l187_1010 C x h :=
  link_roundF (T := t187l187_1010 C) (fun x h => by kernel_rfl) x h
theorem t187k187_4_eq (C : CallF) (x : Nat → Value) (h : Heap) : k187_4 C (mkF 241 x) h = t187k187_4 C x h :=
  link_partF (b := (partOf Tryz.f187 [1, 1, 1])) (kE := (resultsA Tryz.prog Tryz.f187.results.toList)) (rE := (resultsA Tryz.prog Tryz.f187.results.toList)) (xE := (fun _ _ _ => none)) (T := t187k187_4 C) (fun x h => by kernel_rfl) x h
theorem t187l187_11010_eq (C : CallF) (x : Nat → Value) (h : Heap) : codeA Tryz.prog C (partOf Tryz.f187 [1, 1, 0, 1, 0, 0]) (mkF 241 x) h = t187l187_11010 C x h :=
  link_roundF (T := t187l187_11010 C) (fun x h => by kernel_rfl) x h
theorem t187k187_14_eq (C : CallF) (x : Nat → Value) (h : Heap) : k187_14 C (mkF 241 x) h = t187k187_14 C x h :=
  link_partF (b := (partOf Tryz.f187 [1, 1, 1, 1, 1, 1])) (kE := (resultsA Tryz.prog Tryz.f187.results.toList)) (rE := (resultsA Tryz.prog Tryz.f187.results.toList)) (xE := (fun _ _ _ => none)) (T := t187k187_14 C) (fun x h => by kernel_rfl) x h
theorem t187l187_11111010_eq (C : CallF) (x : Nat → Value) (h : Heap) : codeA Tryz.prog C (partOf Tryz.f187 [1, 1, 1, 1, 1, 0, 1, 0, 0]) (mkF 241 x) h = t187l187_11111010 C x h :=
  link_roundF (T := t187l187_11111010 C) (fun x h => by kernel_rfl) x h
theorem t187l187_11111110_eq (C : CallF) (x : Nat → Value) (h : Heap) : codeA Tryz.prog C (partOf Tryz.f187 [1, 1, 1, 1, 1, 1, 1, 0, 0]) (mkF 241 x) h = t187l187_11111110 C x h :=
  link_roundF (T := t187l187_11111110 C) (fun x h => by kernel_rfl) x h

end Go.Proofs.YtdhpgacmgebjdaaGreatDoor

namespace Go.Proofs.YtdhpgacmgebjdaaGreatDoor
open Go Go.Abs
/-- Nothing that was there has changed. -/
abbrev Old (h h' : Heap) : Prop := Kept h h' (fun _ => False)
theorem Old.get {h h' : Heap} (o : Old h h') {b : Nat} {k : Blk} (e : h.get b = some k) : h'.get b = some k := (Kept.get o b (h.lt_of_get e) (fun h => h)).trans e
theorem _root_.Go.Abs.thenV_congr {γ : Type} {o o' : Out} {f : Value → Heap → Option γ} (h : o = o') : thenV o f = thenV o' f := by rw [h]
attribute [local congr] thenV_congr
theorem newC_eq (cs : List Value) (h : Heap) : newC cs h = some (ptr h.next 0, h.alloc cs) := rfl
theorem set_app {A B B' : List Value} {i : Nat} {v : Value} (j : Nat) (h : A.length + j = i) (e : B.set j v = B') : (A ++ B).set i v = A ++ B' := by
  subst h
  rw [List.set_append_right _ _ (by omega), Nat.add_sub_cancel_left, e]
abbrev u8s (l : List Nat) : List Value := l.map u8
def Bys (l : List Nat) : Prop := ∀ x ∈ l, x < 256
theorem fresh (cs : List Value) (h : Heap) : ∃ h2, newC cs h = some (ptr h.next 0, h2) ∧ Old h h2 ∧ h2.get h.next = some cs ∧ h2.next = h.next + 1 :=
  ⟨_, newC_eq _ _, Kept.alloc _ _ _, by rw [Heap.get_alloc, if_pos rfl], rfl⟩
/-- A store to a place of a block that is known. -/
theorem stored {h : Heap} {b o : Nat} {k : Blk} {v : Value} (g : h.get b = some k) (hn : h.n0 ≤ b) (ho : o < k.length) (hc : v.cells = #[v]) (hv : v.oneCell' = true) : ∃ h2, stN 1 (ptr b o) v h = some (undef, h2) ∧ Kept h h2 (· = b) ∧ h2.get b = some (k.set o v) ∧ h2.n0 ≤ b ∧ h2.next = h.next :=
  ⟨_, stN1_at g ho hn hc hv, Kept.set hn g (.inr rfl), Heap.get_set_same hn g _, hn, rfl⟩
theorem Old.of_new {a b c : Heap} {d : Nat} (x : Old a b) (k : Kept b c (· = d)) (hd : a.next ≤ d) : Old a c := x.also k (fun e he q => by omega)
theorem add3 {a b : Nat} (h : a + b ≤ 9223372036854775807) : bin Tryz.prog .add 3 (i64n a) (.int .i64 (b : Int)) = some (i64n (a + b)) := by
  unfold i64n; rw [bin_add, wrap_i64 (by omega) (by omega), Int.natCast_add]
theorem add31 {a : Nat} (h : a + 1 ≤ 9223372036854775807) : bin Tryz.prog .add 3 (i64n a) (.int .i64 1) = some (i64n (a + 1)) := add3 h
theorem lss3 (a b : Nat) : bin Tryz.prog .lss 3 (i64n a) (i64n b) = some (.bool (decide (a < b))) := by
  rw [bin_lss]
  congr 2
  by_cases e : a < b
  · rw [decide_eq_true e, decide_eq_true (by omega)]
  · rw [decide_eq_false e, decide_eq_false (by omega)]
/-- A word, as a value. -/
def wv (x : BitVec 32) : Value := .int .u32 (x.toNat : Int)
section
variable {P : Program} {t : TypeId}
theorem w_add (x y : BitVec 32) : bin P .add t (wv x) (wv y) = some (wv (x + y)) := by
  unfold wv
  rw [bin_add, wrap_u32_mod, BitVec.toNat_add]
  congr 3
theorem w_xor (x y : BitVec 32) : bin P .xor t (wv x) (wv y) = some (wv (x ^^^ y)) := by
  unfold wv
  rw [bin_xor_nat P t rfl x.isLt y.isLt, BitVec.toNat_xor]
theorem w_and (x y : BitVec 32) : bin P .and t (wv x) (wv y) = some (wv (x &&& y)) := by
  unfold wv
  rw [bin_and_nat P t rfl x.isLt y.isLt, BitVec.toNat_and]
theorem w_or (x y : BitVec 32) : bin P .or t (wv x) (wv y) = some (wv (x ||| y)) := by
  unfold wv
  rw [bin_or_nat P t rfl x.isLt y.isLt, BitVec.toNat_or]
theorem w_shr (x : BitVec 32) {k : Nat} (hk : k ≤ 32) : bin P .shr t (wv x) (.int .u64 (k : Int)) = some (wv (x >>> k)) := by
  unfold wv
  rw [bin_shr_nat P t (by show k ≤ 32; exact hk), BitVec.toNat_ushiftRight, Nat.shiftRight_eq_div_pow]
theorem w_shl (x : BitVec 32) {k : Nat} (hk : k ≤ 32) : bin P .shl t (wv x) (.int .u64 (k : Int)) = some (wv (x <<< k)) := by
  unfold wv
  rw [bin_int]
  unfold binI
  simp only
  have hm : min ((k : Int)).toNat (IntKind.bits .u32) = k := by
    rw [Int.toNat_natCast]
    exact Nat.min_eq_left hk
  rw [if_neg (by omega), hm, wrap_u32_mod, BitVec.toNat_shiftLeft, Nat.shiftLeft_eq]
  congr 2
theorem w_byte (n : Nat) (hn : n < 256) (h : Heap) : cvI .u32 (u8 n) h = some (wv (BitVec.ofNat 32 n), h) := by
  unfold wv
  rw [cvI_int, wrap_u32 (by omega) (by omega), BitVec.toNat_ofNat, Nat.mod_eq_of_lt (by omega)]
end
/-- A word turned to the right. -/
def rotR (x : BitVec 32) (n : Nat) : BitVec 32 := (x <<< (32 - n)) ||| (x >>> n)
theorem is215 : IsFn Tryz.prog 215 Tryz.f215 := ⟨by kernel_rfl, by kernel_rfl, by kernel_rfl, by kernel_rfl⟩
/-- RotateLeft32 by a number below zero. -/
theorem r215 {h : Heap} (hG : 3 ≤ h.n0) (x : BitVec 32) {k : Nat} (hk : k ≤ 32) {z : Int} (e : bin Tryz.prog .and 237 (.int .u64 (IntKind.wrap .u64 z)) (.int .u64 31) = some (.int .u64 ((32 - k : Nat) : Int))) : CB 215 [wv x, .int .i64 z] h = some (wv (rotR x k), h) := by
  refine CB_body is215 hG rfl ((t215_eq _ _ _ _).trans ?_)
  unfold t215
  have e2 : bin Tryz.prog .sub 237 (.int .u64 32) (.int .u64 ((32 - k : Nat) : Int)) = some (.int .u64 ((k : Nat) : Int)) := by
    rw [bin_sub, show (32 : Int) - ((32 - k : Nat) : Int) = (k : Int) by omega, wrap_u64 (by omega) (by omega)]
  simp -implicitDefEqProofs only [cvI_int, e, e2, w_shl x (show 32 - k ≤ 32 by omega), w_shr x hk, w_or, thenV_some, pu_some]
  rfl
/-- The word of four bytes. -/
def w4 (a b c d : Nat) : BitVec 32 := (BitVec.ofNat 32 a <<< 24) ||| (BitVec.ofNat 32 b <<< 16) ||| (BitVec.ofNat 32 c <<< 8) ||| BitVec.ofNat 32 d
def wAt (B : List Nat) (i : Nat) : BitVec 32 := w4 (B.getD (4 * i) 0) (B.getD (4 * i + 1) 0) (B.getD (4 * i + 2) 0) (B.getD (4 * i + 3) 0)
def sch0 (B : List Nat) : List (BitVec 32) := (List.range 16).map (wAt B)
def s0w (x : BitVec 32) : BitVec 32 := rotR x 7 ^^^ rotR x 18 ^^^ (x >>> 3)
def s1w (y : BitVec 32) : BitVec 32 := rotR y 17 ^^^ rotR y 19 ^^^ (y >>> 10)
def nextW (l : List (BitVec 32)) : BitVec 32 := l.getD (l.length - 16) 0 + s0w (l.getD (l.length - 15) 0) + l.getD (l.length - 7) 0 + s1w (l.getD (l.length - 2) 0)
def extW : Nat → List (BitVec 32) → List (BitVec 32)
  | 0, l => l
  | n + 1, l => extW n (l ++ [nextW l])
abbrev wvs (l : List (BitVec 32)) : List Value := l.map wv
/-- Words, and behind them zeros, in 64 cells. -/
def wTab (l : List (BitVec 32)) : List Value := wvs l ++ List.replicate (64 - l.length) (.int .u32 0)
theorem wTab_len {l : List (BitVec 32)} (h : l.length ≤ 64) : (wTab l).length = 64 := by unfold wTab; simp; omega
theorem wTab_set {l : List (BitVec 32)} {i : Nat} (hl : l.length = i) (hi : i < 64) (x : BitVec 32) : (wTab l).set i (wv x) = wTab (l ++ [x]) := by
  subst hl
  unfold wTab
  have e : 64 - l.length = (64 - (l.length + 1)) + 1 := by omega
  rw [e, List.replicate_succ]
  rw [set_app (A := wvs l) (B' := wv x :: List.replicate (64 - (l.length + 1)) (.int .u32 0)) 0 (by simp) rfl]
  simp
theorem wTab_at {l : List (BitVec 32)} {i : Nat} (hi : i < l.length) : (wTab l)[i]? = some (wv (l.getD i 0)) := by
  unfold wTab
  rw [List.getElem?_append_left (by simpa using hi), List.getElem?_map, List.getD_eq_getElem?_getD, List.getElem?_eq_getElem hi]
  rfl
/-- The cells of a Hash. -/
def hashC (S : List (BitVec 32)) (B : List Nat) (n : Nat) : List Value := wvs S ++ (u8s B ++ [i64n n])
theorem hash_byte {S : List (BitVec 32)} {B : List Nat} {n : Nat} (hS : S.length = 8) {j : Nat} (hj : j < B.length) : (hashC S B n)[8 + j]? = some (u8 (B.getD j 0)) := by
  unfold hashC
  rw [List.getElem?_append_right (by simp [hS]), List.length_map, hS, Nat.add_sub_cancel_left, List.getElem?_append_left (by simpa using hj), List.getElem?_map, List.getD_eq_getElem?_getD, List.getElem?_eq_getElem hj]
  rfl
theorem idxN {N b o i : Nat} (hi : i < N) : idxA N 1 (ptr b o) (i64n i) = some (ptr b (o + i)) := by
  unfold idxA
  simp only [i64n]
  rw [if_pos (by omega), Int.toNat_natCast, Nat.mul_one, addP_ptr]
theorem mul4 {i : Nat} (hi : i < 1000) : bin Tryz.prog .mul 3 (.int .i64 4) (i64n i) = some (i64n (4 * i)) := by
  unfold i64n
  rw [bin_mul, show (4 : Int) * (i : Int) = ((4 * i : Nat) : Int) by omega, wrap_i64 (by omega) (by omega)]
theorem addc {i c : Nat} (hi : i + c < 100000) : bin Tryz.prog .add 3 (i64n i) (.int .i64 (c : Int)) = some (i64n (i + c)) := by
  unfold i64n
  rw [bin_add, show (i : Int) + (c : Int) = ((i + c : Nat) : Int) by omega, wrap_i64 (by omega) (by omega)]
theorem subc {i c : Nat} (hi : i < 100000) (hc : c ≤ i) : bin Tryz.prog .sub 3 (i64n i) (.int .i64 (c : Int)) = some (i64n (i - c)) := by
  unfold i64n
  rw [bin_sub, show (i : Int) - (c : Int) = ((i - c : Nat) : Int) by omega, wrap_i64 (by omega) (by omega)]
theorem bys_getD {B : List Nat} (hB : Bys B) {j : Nat} (hj : j < B.length) : B.getD j 0 < 256 := by
  rw [List.getD_eq_getElem?_getD, List.getElem?_eq_getElem hj]
  exact hB _ (List.getElem_mem hj)
/-- The first loop: sixteen words of the block. -/
theorem cmp1 {h : Heap} {p b : Nat} {S : List (BitVec 32)} {B : List Nat} {n : Nat} (hS : S.length = 8) (hBl : B.length = 64) (hB : Bys B) (hp : h.get p = some (hashC S B n)) (hb : h.n0 ≤ b) (hpb : p ≠ b) (hw : h.get b = some (wTab []))
    {x : Nat → Value} (x0 : x 0 = ptr p 0) (x2 : x 2 = ptr b 0) (x24 : x 24 = i64n 0) :
    Fin 241 (fun ex y g => ex = .exit 0 ∧ y 0 = ptr p 0 ∧ y 2 = ptr b 0 ∧ Kept h g (· = b) ∧ g.get b = some (wTab (sch0 B)) ∧ g.next = h.next) (iter (codeA Tryz.prog CB (partOf Tryz.f187 [1, 0, 1, 0, 0])) rounds (mkF 241 x) h) := by
  refine loop_fin (t187l187_1010_eq CB) (Inv := fun k y g => ∃ i, i + k = 16 ∧ y 0 = ptr p 0 ∧ y 2 = ptr b 0 ∧ y 24 = i64n i ∧ Kept h g (· = b) ∧ g.get b = some (wTab ((List.range i).map (wAt B))) ∧ g.next = h.next) ?_ 16 (by have : rounds = 18446744073709551616 := rfl; omega) ⟨0, Nat.zero_add _, x0, x2, x24, Kept.refl _ _, hw, rfl⟩
  rintro k y g ⟨i, hik, y0, y2, y24, K, gw, gn⟩
  unfold t187l187_1010
  have l16 : bin Tryz.prog .lss 3 (i64n i) (.int .i64 16) = some (.bool (decide (i < 16))) := lss3 i 16
  simp -implicitDefEqProofs only [y24, l16, thenV_some, pu_some]
  by_cases hi : i < 16
  · have gp : g.get p = some (hashC S B n) := Kept.getE K hp hpb
    have lb : ∀ j, j < 64 → ld1 (ptr p (8 + j)) g = some (u8 (B.getD j 0), g) := fun j hj => ld1_at gp (hash_byte hS (by omega)) rfl
    have c0 := w_byte _ (bys_getD hB (j := 4 * i) (by omega)) g
    have c1 := w_byte _ (bys_getD hB (j := 4 * i + 1) (by omega)) g
    have c2 := w_byte _ (bys_getD hB (j := 4 * i + 2) (by omega)) g
    have c3 := w_byte _ (bys_getD hB (j := 4 * i + 3) (by omega)) g
    have a1 : bin Tryz.prog .add 3 (i64n (4 * i)) (.int .i64 1) = some (i64n (4 * i + 1)) := addc (c := 1) (by omega)
    have a2 : bin Tryz.prog .add 3 (i64n (4 * i)) (.int .i64 2) = some (i64n (4 * i + 2)) := addc (c := 2) (by omega)
    have a3 : bin Tryz.prog .add 3 (i64n (4 * i)) (.int .i64 3) = some (i64n (4 * i + 3)) := addc (c := 3) (by omega)
    have sh24 : ∀ x : BitVec 32, bin Tryz.prog .shl 186 (wv x) (.int .u64 24) = some (wv (x <<< 24)) := fun x => w_shl x (k := 24) (by decide)
    have sh16 : ∀ x : BitVec 32, bin Tryz.prog .shl 186 (wv x) (.int .u64 16) = some (wv (x <<< 16)) := fun x => w_shl x (k := 16) (by decide)
    have sh8 : ∀ x : BitVec 32, bin Tryz.prog .shl 186 (wv x) (.int .u64 8) = some (wv (x <<< 8)) := fun x => w_shl x (k := 8) (by decide)
    have ll : ((List.range i).map (wAt B)).length = i := by simp
    obtain ⟨g2, e2, k2, s2, _, m2⟩ := stored (o := i) (v := wv (wAt B i)) gw (by rw [K.n0]; exact hb) (by rw [wTab_len (by omega)]; omega) rfl rfl
    have hw4 : wv (BitVec.ofNat 32 (B.getD (4 * i) 0) <<< 24 ||| BitVec.ofNat 32 (B.getD (4 * i + 1) 0) <<< 16 ||| BitVec.ofNat 32 (B.getD (4 * i + 2) 0) <<< 8 ||| BitVec.ofNat 32 (B.getD (4 * i + 3) 0)) = wv (wAt B i) := rfl
    have ix : idxA 64 1 (ptr b 0) (i64n i) = some (ptr b i) := by rw [idxN (by omega), Nat.zero_add]
    simp -implicitDefEqProofs only [decide_eq_true hi, y0, y2, y24, mul4 (show i < 1000 by omega), nilCheck_ptr, addP_ptr, Nat.zero_add, idxN (show 4 * i < 64 by omega), idxN (show 4 * i + 1 < 64 by omega), idxN (show 4 * i + 2 < 64 by omega), idxN (show 4 * i + 3 < 64 by omega), lb (4 * i) (by omega), lb (4 * i + 1) (by omega), lb (4 * i + 2) (by omega), lb (4 * i + 3) (by omega), c0, c1, c2, c3, a1, a2, a3, sh24, sh16, sh8, w_or, hw4, ix, e2, add31 (show i + 1 ≤ 9223372036854775807 by omega), thenV_some, pu_some]
    refine Rnd.next (k - 1) (by omega) ⟨i + 1, by omega, y0, y2, rfl, K.trans k2, ?_, m2.trans gn⟩
    rw [s2, wTab_set ll (by omega), List.range_succ, List.map_append]
    rfl
  · have : i = 16 := by omega
    subst this
    simp -implicitDefEqProofs only [decide_eq_false hi, thenV_some, pu_some]
    exact Rnd.out 0 ⟨rfl, y0, y2, K, gw, gn⟩
theorem and25 : bin Tryz.prog .and 237 (.int .u64 (IntKind.wrap .u64 (-7))) (.int .u64 31) = some (.int .u64 ((32 - 7 : Nat) : Int)) := by kernel_rfl
theorem rots {h : Heap} (hG : 3 ≤ h.n0) (x : BitVec 32) : CB 215 [wv x, .int .i64 (-7)] h = some (wv (rotR x 7), h) ∧ CB 215 [wv x, .int .i64 (-18)] h = some (wv (rotR x 18), h) ∧ CB 215 [wv x, .int .i64 (-17)] h = some (wv (rotR x 17), h) ∧ CB 215 [wv x, .int .i64 (-19)] h = some (wv (rotR x 19), h) ∧
    CB 215 [wv x, .int .i64 (-6)] h = some (wv (rotR x 6), h) ∧ CB 215 [wv x, .int .i64 (-11)] h = some (wv (rotR x 11), h) ∧ CB 215 [wv x, .int .i64 (-25)] h = some (wv (rotR x 25), h) ∧ CB 215 [wv x, .int .i64 (-2)] h = some (wv (rotR x 2), h) ∧ CB 215 [wv x, .int .i64 (-13)] h = some (wv (rotR x 13), h) ∧ CB 215 [wv x, .int .i64 (-22)] h = some (wv (rotR x 22), h) :=
  ⟨r215 hG x (by decide) and25, r215 hG x (k := 18) (by decide) (by kernel_rfl), r215 hG x (k := 17) (by decide) (by kernel_rfl), r215 hG x (k := 19) (by decide) (by kernel_rfl), r215 hG x (k := 6) (by decide) (by kernel_rfl), r215 hG x (k := 11) (by decide) (by kernel_rfl), r215 hG x (k := 25) (by decide) (by kernel_rfl), r215 hG x (k := 2) (by decide) (by kernel_rfl), r215 hG x (k := 13) (by decide) (by kernel_rfl), r215 hG x (k := 22) (by decide) (by kernel_rfl)⟩
theorem extW_len : ∀ (n : Nat) (l : List (BitVec 32)), (extW n l).length = l.length + n
  | 0, l => rfl
  | n + 1, l => by rw [extW, extW_len n, List.length_append]; simp; omega
theorem extW_snoc : ∀ (n : Nat) (l : List (BitVec 32)), extW n l ++ [nextW (extW n l)] = extW (n + 1) l
  | 0, l => rfl
  | n + 1, l => by rw [extW, extW_snoc n]; rfl
/-- The second loop: 48 further words. -/
theorem cmp2 {h : Heap} (hG : 3 ≤ h.n0) {p b : Nat} {l : List (BitVec 32)} (hl : l.length = 16) (hb : h.n0 ≤ b) (hw : h.get b = some (wTab l))
    {x : Nat → Value} (x0 : x 0 = ptr p 0) (x2 : x 2 = ptr b 0) (x4 : x 4 = i64n 16) :
    Fin 241 (fun ex y g => ex = .exit 2 ∧ y 0 = ptr p 0 ∧ y 2 = ptr b 0 ∧ Kept h g (· = b) ∧ g.get b = some (wTab (extW 48 l)) ∧ g.next = h.next) (iter (codeA Tryz.prog CB (partOf Tryz.f187 [1, 1, 0, 1, 0, 0])) rounds (mkF 241 x) h) := by
  refine loop_fin (t187l187_11010_eq CB) (Inv := fun k y g => ∃ i, i + k = 48 ∧ y 0 = ptr p 0 ∧ y 2 = ptr b 0 ∧ y 4 = i64n (16 + i) ∧ Kept h g (· = b) ∧ g.get b = some (wTab (extW i l)) ∧ g.next = h.next) ?_ 48 (by have : rounds = 18446744073709551616 := rfl; omega) ⟨0, Nat.zero_add _, x0, x2, x4, Kept.refl _ _, hw, rfl⟩
  rintro k y g ⟨i, hik, y0, y2, y4, K, gw, gn⟩
  unfold t187l187_11010
  have l64 : bin Tryz.prog .lss 3 (i64n (16 + i)) (.int .i64 64) = some (.bool (decide (16 + i < 64))) := lss3 (16 + i) 64
  simp -implicitDefEqProofs only [y4, l64, thenV_some, pu_some]
  by_cases hi : 16 + i < 64
  · have len : (extW i l).length = 16 + i := by rw [extW_len, hl]
    have hg : 3 ≤ g.n0 := by rw [K.n0]; exact hG
    have s15 : bin Tryz.prog .sub 3 (i64n (16 + i)) (.int .i64 15) = some (i64n (16 + i - 15)) := subc (c := 15) (by omega) (by omega)
    have s2 : bin Tryz.prog .sub 3 (i64n (16 + i)) (.int .i64 2) = some (i64n (16 + i - 2)) := subc (c := 2) (by omega) (by omega)
    have s16 : bin Tryz.prog .sub 3 (i64n (16 + i)) (.int .i64 16) = some (i64n (16 + i - 16)) := subc (c := 16) (by omega) (by omega)
    have s7 : bin Tryz.prog .sub 3 (i64n (16 + i)) (.int .i64 7) = some (i64n (16 + i - 7)) := subc (c := 7) (by omega) (by omega)
    have ix : ∀ j, j < 64 → idxA 64 1 (ptr b 0) (i64n j) = some (ptr b j) := fun j hj => by rw [idxN hj, Nat.zero_add]
    have lw : ∀ j, j < 16 + i → ld1 (ptr b j) g = some (wv ((extW i l).getD j 0), g) := fun j hj => ld1_at gw (wTab_at (by omega)) rfl
    generalize hX : (extW i l).getD (16 + i - 15) 0 = X at *
    generalize hY : (extW i l).getD (16 + i - 2) 0 = Y at *
    have lX := lw (16 + i - 15) (by omega)
    have lY := lw (16 + i - 2) (by omega)
    rw [hX] at lX
    rw [hY] at lY
    obtain ⟨rx7, rx18, _⟩ := rots hg X
    obtain ⟨_, _, ry17, ry19, _⟩ := rots hg Y
    have sh3 : ∀ x : BitVec 32, bin Tryz.prog .shr 186 (wv x) (.int .u64 3) = some (wv (x >>> 3)) := fun x => w_shr x (k := 3) (by decide)
    have sh10 : ∀ x : BitVec 32, bin Tryz.prog .shr 186 (wv x) (.int .u64 10) = some (wv (x >>> 10)) := fun x => w_shr x (k := 10) (by decide)
    have hN : wv ((extW i l).getD (16 + i - 16) 0 + (rotR X 7 ^^^ rotR X 18 ^^^ X >>> 3) + (extW i l).getD (16 + i - 7) 0 + (rotR Y 17 ^^^ rotR Y 19 ^^^ Y >>> 10)) = wv (nextW (extW i l)) := by
      unfold nextW s0w s1w
      rw [len, hX, hY]
    obtain ⟨g2, e2, k2, t2, _, m2⟩ := stored (o := 16 + i) (v := wv (nextW (extW i l))) gw (by rw [K.n0]; exact hb) (by rw [wTab_len (by omega)]; omega) rfl rfl
    simp -implicitDefEqProofs only [decide_eq_true hi, y2, y4, s15, s2, s16, s7, ix (16 + i - 15) (by omega), ix (16 + i - 2) (by omega), ix (16 + i - 16) (by omega), ix (16 + i - 7) (by omega), ix (16 + i) (by omega), lX, lY, lw (16 + i - 16) (by omega), lw (16 + i - 7) (by omega), rx7, rx18, ry17, ry19, w_xor, sh3, sh10, w_add, hN, e2, add31 (show 16 + i + 1 ≤ 9223372036854775807 by omega), thenV_some, pu_some]
    refine Rnd.next (k - 1) (by omega) ⟨i + 1, by omega, y0, y2, rfl, K.trans k2, ?_, m2.trans gn⟩
    rw [t2, wTab_set len (by omega), extW_snoc]
  · have : i = 48 := by omega
    subst this
    simp -implicitDefEqProofs only [decide_eq_false hi, thenV_some, pu_some]
    exact Rnd.out 2 ⟨rfl, y0, y2, K, gw, gn⟩
/-- The digest's table as words. -/
def rkW : List (BitVec 32) := roundsL.map fun v => match v with | .int _ n => BitVec.ofInt 32 n | _ => 0
theorem rkW_eq : wvs rkW = roundsL := by kernel_rfl
theorem rkW_len : rkW.length = 64 := by unfold rkW; rw [List.length_map]; kernel_rfl
structure St where
  a : BitVec 32
  b : BitVec 32
  c : BitVec 32
  d : BitVec 32
  e : BitVec 32
  f : BitVec 32
  g : BitVec 32
  i : BitVec 32
def St.l (s : St) : List (BitVec 32) := [s.a, s.b, s.c, s.d, s.e, s.f, s.g, s.i]
def t1S (s : St) (k w : BitVec 32) : BitVec 32 := s.i + (rotR s.e 6 ^^^ rotR s.e 11 ^^^ rotR s.e 25) + (s.g ^^^ (s.e &&& (s.f ^^^ s.g))) + k + w
def t2S (s : St) : BitVec 32 := (rotR s.a 2 ^^^ rotR s.a 13 ^^^ rotR s.a 22) + ((s.a &&& s.b) ||| (s.c &&& (s.a ||| s.b)))
def stepS (s : St) (k w : BitVec 32) : St := ⟨t1S s k w + t2S s, s.a, s.b, s.c, s.d + t1S s k w, s.e, s.f, s.g⟩
def runS (W : List (BitVec 32)) : Nat → St → St
  | 0, s => s
  | n + 1, s => stepS (runS W n s) (rkW.getD n 0) (W.getD n 0)
structure StE (s : St) (y : Nat → Value) : Prop where
  a : y 9 = wv s.a
  b : y 10 = wv s.b
  c : y 11 = wv s.c
  d : y 12 = wv s.d
  e : y 13 = wv s.e
  f : y 14 = wv s.f
  g : y 15 = wv s.g
  i : y 16 = wv s.i
set_option maxRecDepth 100000 in
/-- The third loop: 64 rounds. -/
theorem cmp3 {h : Heap} (hG : 3 ≤ h.n0) (hz : h.get 1 = some roundsL) {p b : Nat} {W : List (BitVec 32)} (hl : W.length = 64) (hw : h.get b = some (wTab W)) {s : St}
    {x : Nat → Value} (x0 : x 0 = ptr p 0) (x2 : x 2 = ptr b 0) (x154 : x 154 = i64n 0) (xs : StE s x) :
    Fin 241 (fun ex y g => ex = .exit 4 ∧ y 0 = ptr p 0 ∧ StE (runS W 64 s) y ∧ g = h) (iter (codeA Tryz.prog CB (partOf Tryz.f187 [1, 1, 1, 1, 1, 0, 1, 0, 0])) rounds (mkF 241 x) h) := by
  refine loop_fin (t187l187_11111010_eq CB) (Inv := fun k y g => ∃ i, i + k = 64 ∧ y 0 = ptr p 0 ∧ y 2 = ptr b 0 ∧ y 154 = i64n i ∧ StE (runS W i s) y ∧ g = h) ?_ 64 (by have : rounds = 18446744073709551616 := rfl; omega) ⟨0, Nat.zero_add _, x0, x2, x154, xs, rfl⟩
  rintro k y g ⟨i, hik, y0, y2, y154, Y, rfl⟩
  unfold t187l187_11111010
  have l64 : bin Tryz.prog .lss 3 (i64n i) (.int .i64 64) = some (.bool (decide (i < 64))) := lss3 i 64
  simp -implicitDefEqProofs only [y154, l64, thenV_some, pu_some]
  by_cases hi : i < 64
  · have ix : idxA 64 1 (ptr b 0) (i64n i) = some (ptr b i) := by rw [idxN hi, Nat.zero_add]
    have ix3 : idxA 64 1 (ptr 1 0) (i64n i) = some (ptr 1 i) := by rw [idxN hi, Nat.zero_add]
    have lw : ld1 (ptr b i) g = some (wv (W.getD i 0), g) := ld1_at hw (wTab_at (by omega)) rfl
    have lk : ld1 (ptr 1 i) g = some (wv (rkW.getD i 0), g) := ld1_at hz (by
      rw [← rkW_eq, List.getElem?_map, List.getD_eq_getElem?_getD, List.getElem?_eq_getElem (by rw [rkW_len]; exact hi)]
      rfl) rfl
    generalize hs : runS W i s = q at *
    obtain ⟨_, _, _, _, re6, re11, re25, _⟩ := rots hG q.e
    obtain ⟨_, _, _, _, _, _, _, ra2, ra13, ra22⟩ := rots hG q.a
    simp -implicitDefEqProofs only [decide_eq_true hi, y2, y154, Y.a, Y.b, Y.c, Y.d, Y.e, Y.f, Y.g, Y.i, ix, ix3, lw, lk, re6, re11, re25, ra2, ra13, ra22, w_xor, w_and, w_or, w_add, add31 (show i + 1 ≤ 9223372036854775807 by omega), thenV_some, pu_some]
    refine Rnd.next (k - 1) (by omega) ⟨i + 1, by omega, y0, y2, rfl, ?_, rfl⟩
    rw [runS, hs]
    exact ⟨rfl, rfl, rfl, rfl, rfl, rfl, rfl, rfl⟩
  · have : i = 64 := by omega
    subst this
    simp -implicitDefEqProofs only [decide_eq_false hi, thenV_some, pu_some]
    exact Rnd.out 4 ⟨rfl, y0, ⟨Y.a, Y.b, Y.c, Y.d, Y.e, Y.f, Y.g, Y.i⟩, rfl⟩
/-- Sums of two lists of words. -/
def addS (l m : List (BitVec 32)) : List (BitVec 32) := List.zipWith (· + ·) l m
/-- The state after a block. -/
def compS (S : List (BitVec 32)) (B : List Nat) : List (BitVec 32) := addS S (runS (extW 48 (sch0 B)) 64 ⟨S.getD 0 0, S.getD 1 0, S.getD 2 0, S.getD 3 0, S.getD 4 0, S.getD 5 0, S.getD 6 0, S.getD 7 0⟩).l
theorem eight {S : List (BitVec 32)} (h : S.length = 8) : ∃ a b c d e f g i, S = [a, b, c, d, e, f, g, i] := by
  match S, h with
  | [a, b, c, d, e, f, g, i], _ => exact ⟨a, b, c, d, e, f, g, i, rfl⟩
def mixS (S L : List (BitVec 32)) (i : Nat) : List (BitVec 32) := (addS S L).take i ++ S.drop i
theorem mix_step {S L : List (BitVec 32)} (hS : S.length = 8) (hL : L.length = 8) {i : Nat} (hi : i < 8) : (mixS S L i).getD i 0 = S.getD i 0 ∧ (mixS S L i).set i (S.getD i 0 + L.getD i 0) = mixS S L (i + 1) ∧ (mixS S L i).length = 8 := by
  obtain ⟨a, b, c, d, e, f, g, j, rfl⟩ := eight hS
  obtain ⟨a', b', c', d', e', f', g', j', rfl⟩ := eight hL
  match i, hi with
  | 0, _ => exact ⟨rfl, rfl, rfl⟩
  | 1, _ => exact ⟨rfl, rfl, rfl⟩
  | 2, _ => exact ⟨rfl, rfl, rfl⟩
  | 3, _ => exact ⟨rfl, rfl, rfl⟩
  | 4, _ => exact ⟨rfl, rfl, rfl⟩
  | 5, _ => exact ⟨rfl, rfl, rfl⟩
  | 6, _ => exact ⟨rfl, rfl, rfl⟩
  | 7, _ => exact ⟨rfl, rfl, rfl⟩
theorem hash_word {S : List (BitVec 32)} {B : List Nat} {n j : Nat} (hj : j < S.length) : (hashC S B n)[j]? = some (wv (S.getD j 0)) := by
  unfold hashC
  rw [List.getElem?_append_left (by simpa using hj), List.getElem?_map, List.getD_eq_getElem?_getD, List.getElem?_eq_getElem hj]
  rfl
theorem hash_set {S : List (BitVec 32)} {B : List Nat} {n j : Nat} (hj : j < S.length) (x : BitVec 32) : (hashC S B n).set j (wv x) = hashC (S.set j x) B n := by
  unfold hashC
  rw [List.set_append_left _ _ (by simpa using hj)]
  show (S.map wv).set j (wv x) ++ _ = (S.set j x).map wv ++ _
  rw [List.map_set]
theorem hash_len {S : List (BitVec 32)} {B : List Nat} {n : Nat} : (hashC S B n).length = S.length + B.length + 1 := by
  unfold hashC
  simp
  omega
/-- The last loop: the state grows. -/
theorem cmp4 {h : Heap} {p : Nat} {S L : List (BitVec 32)} {B : List Nat} {n : Nat} (hS : S.length = 8) (hL : L.length = 8) (hp : h.get p = some (hashC S B n)) (hp0 : h.n0 ≤ p)
    {x : Nat → Value} (x0 : x 0 = ptr p 0) (x224 : x 224 = .agg (wvs L).toArray) (x225 : x 225 = i64n 0) :
    Fin 241 (fun ex _ g => ex = .exit 6 ∧ Kept h g (· = p) ∧ g.get p = some (hashC (addS S L) B n) ∧ g.next = h.next) (iter (codeA Tryz.prog CB (partOf Tryz.f187 [1, 1, 1, 1, 1, 1, 1, 0, 0])) rounds (mkF 241 x) h) := by
  have hm0 : mixS S L 0 = S := rfl
  have hm8 : mixS S L 8 = addS S L := by
    obtain ⟨a, b, c, d, e, f, g, j, rfl⟩ := eight hS
    obtain ⟨a', b', c', d', e', f', g', j', rfl⟩ := eight hL
    rfl
  refine loop_fin (t187l187_11111110_eq CB) (Inv := fun k y g => ∃ i, i + k = 8 ∧ y 0 = ptr p 0 ∧ y 224 = .agg (wvs L).toArray ∧ y 225 = i64n i ∧ Kept h g (· = p) ∧ g.get p = some (hashC (mixS S L i) B n) ∧ g.next = h.next) ?_ 8 (by have : rounds = 18446744073709551616 := rfl; omega) ⟨0, Nat.zero_add _, x0, x224, x225, Kept.refl _ _, by rw [hm0]; exact hp, rfl⟩
  rintro k y g ⟨i, hik, y0, y224, y225, K, gp, gn⟩
  unfold t187l187_11111110
  have l8 : bin Tryz.prog .lss 3 (i64n i) (.int .i64 8) = some (.bool (decide (i < 8))) := lss3 i 8
  simp -implicitDefEqProofs only [y225, l8, thenV_some, pu_some]
  by_cases hi : i < 8
  · obtain ⟨m1, m2, m3⟩ := mix_step hS hL hi
    have ix : idxA 8 1 (ptr p 0) (i64n i) = some (ptr p i) := by rw [idxN hi, Nat.zero_add]
    have ia : ixA1 8 1 (.agg (wvs L).toArray) (i64n i) = some (wv (L.getD i 0)) := by
      unfold ixA1
      simp only [i64n]
      rw [if_pos (by omega), Int.toNat_natCast, Nat.mul_one, List.getElem?_toArray, List.getElem?_map, List.getD_eq_getElem?_getD, List.getElem?_eq_getElem (by omega)]
      rfl
    have lp : ld1 (ptr p i) g = some (wv (S.getD i 0), g) := by
      rw [← m1]
      exact ld1_at gp (hash_word (by omega)) rfl
    obtain ⟨g2, e2, k2, t2, _, n2⟩ := stored (o := i) (v := wv (S.getD i 0 + L.getD i 0)) gp (by rw [K.n0]; exact hp0) (by rw [hash_len, m3]; omega) rfl rfl
    simp -implicitDefEqProofs only [decide_eq_true hi, y0, y224, y225, ia, nilCheck_ptr, addP_ptr, Nat.zero_add, ix, lp, w_add, e2, add31 (show i + 1 ≤ 9223372036854775807 by omega), thenV_some, pu_some]
    refine Rnd.next (k - 1) (by omega) ⟨i + 1, by omega, y0, y224, rfl, K.trans k2, ?_, n2.trans gn⟩
    rw [t2, hash_set (by omega), m2]
  · have : i = 8 := by omega
    subst this
    simp -implicitDefEqProofs only [decide_eq_false hi, thenV_some, pu_some]
    rw [hm8] at gp
    exact Rnd.out 6 ⟨rfl, K, gp, gn⟩
theorem is187 : IsFn Tryz.prog 187 Tryz.f187 := ⟨by kernel_rfl, by kernel_rfl, by kernel_rfl, by kernel_rfl⟩
theorem results187 : Tryz.f187.results.toList = [] := by kernel_rfl
theorem bld8v (a b c d e f g i : Int) : bldR (List.replicate 8 (.int .u32 0)) [(0, 1, .int .u32 a), (1, 1, .int .u32 b), (2, 1, .int .u32 c), (3, 1, .int .u32 d), (4, 1, .int .u32 e), (5, 1, .int .u32 f), (6, 1, .int .u32 g), (7, 1, .int .u32 i)] = some (.agg ([Value.int .u32 a, .int .u32 b, .int .u32 c, .int .u32 d, .int .u32 e, .int .u32 f, .int .u32 g, .int .u32 i]).toArray) := by kernel_rfl
theorem bld8 (a b c d e f g i : BitVec 32) : bldR (List.replicate 8 (.int .u32 0)) [(0, 1, wv a), (1, 1, wv b), (2, 1, wv c), (3, 1, wv d), (4, 1, wv e), (5, 1, wv f), (6, 1, wv g), (7, 1, wv i)] = some (.agg (wvs [a, b, c, d, e, f, g, i]).toArray) := bld8v _ _ _ _ _ _ _ _
set_option maxRecDepth 100000 in
/-- compress -/
theorem r187k {h : Heap} (hG : 3 ≤ h.n0) (hz : h.get 1 = some roundsL) {p : Nat} {S : List (BitVec 32)} {B : List Nat} {n : Nat} (hS : S.length = 8) (hBl : B.length = 64) (hB : Bys B) (hp : h.get p = some (hashC S B n)) (hp0 : h.n0 ≤ p) :
    ∃ h', bodyK Tryz.prog CB Tryz.f187 [ptr p 0] h = some (.tuple #[], h') ∧ Kept h h' (· = p) ∧ h'.get p = some (hashC (compS S B) B n) := by
  have hlt := h.lt_of_get hp
  obtain ⟨h1, z1, o1, g1, n1⟩ := fresh (List.replicate 64 (.int .u32 0)) h
  have hb1 : h1.n0 ≤ h.next := by rw [o1.n0]; exact h.n0_le_next
  have hne : p ≠ h.next := by omega
  have key : ∃ o : Out, t187 CB (ptr p 0) h = o ∧ ∃ h', o = some (.tuple #[], h') ∧ Kept h h' (· = p) ∧ h'.get p = some (hashC (compS S B) B n) := by
    refine ⟨_, rfl, ?_⟩
    unfold t187
    simp -implicitDefEqProofs only [z1, thenV_some, pu_some]
    refine endL_fin (Q := fun o : Out => ∃ h', o = some (.tuple #[], h') ∧ Kept h h' (· = p) ∧ h'.get p = some (hashC (compS S B) B n)) (cmp1 (p := p) (b := h.next) hS hBl hB (Old.get o1 hp) hb1 hne g1 rfl rfl rfl) ?_
    rintro _ y g ⟨rfl, y0, y2, K2, G2, N2⟩
    simp -implicitDefEqProofs only [endL_exit, b187_3, if_true, t187k187_1_eq]
    unfold t187k187_1
    simp -implicitDefEqProofs only [thenV_some]
    have hg2 : 3 ≤ g.n0 := by rw [K2.n0, o1.n0]; exact hG
    refine endL_fin (Q := fun o : Out => ∃ h', o = some (.tuple #[], h') ∧ Kept h h' (· = p) ∧ h'.get p = some (hashC (compS S B) B n)) (cmp2 (p := p) (b := h.next) hg2 (l := sch0 B) (by simp [sch0]) (by rw [K2.n0]; exact hb1) G2 y0 y2 rfl) ?_
    rintro _ y' g3 ⟨rfl, y0', y2', K3, G3, N3⟩
    simp -implicitDefEqProofs only [endL_exit, b187_6, if_true, t187k187_4_eq]
    unfold t187k187_4
    have O3 : Old h g3 := (Old.of_new o1 K2 (Nat.le_refl _)).also K3 (fun d hd e => by omega)
    have hp3 := Old.get O3 hp
    have lp : ∀ j, j < 8 → ld1 (ptr p j) g3 = some (wv (S.getD j 0), g3) := fun j hj => ld1_at hp3 (hash_word (by omega)) rfl
    have ix : ∀ j, j < 8 → idxA 8 1 (ptr p 0) (i64n j) = some (ptr p j) := fun j hj => by rw [idxN hj, Nat.zero_add]
    have i0 : idxA 8 1 (ptr p 0) (.int .i64 0) = some (ptr p 0) := ix 0 (by decide)
    have i1 : idxA 8 1 (ptr p 0) (.int .i64 1) = some (ptr p 1) := ix 1 (by decide)
    have i2 : idxA 8 1 (ptr p 0) (.int .i64 2) = some (ptr p 2) := ix 2 (by decide)
    have i3 : idxA 8 1 (ptr p 0) (.int .i64 3) = some (ptr p 3) := ix 3 (by decide)
    have i4 : idxA 8 1 (ptr p 0) (.int .i64 4) = some (ptr p 4) := ix 4 (by decide)
    have i5 : idxA 8 1 (ptr p 0) (.int .i64 5) = some (ptr p 5) := ix 5 (by decide)
    have i6 : idxA 8 1 (ptr p 0) (.int .i64 6) = some (ptr p 6) := ix 6 (by decide)
    have i7 : idxA 8 1 (ptr p 0) (.int .i64 7) = some (ptr p 7) := ix 7 (by decide)
    simp -implicitDefEqProofs only [y0', nilCheck_ptr, addP_ptr, Nat.zero_add, i0, i1, i2, i3, i4, i5, i6, i7, lp 0 (by decide), lp 1 (by decide), lp 2 (by decide), lp 3 (by decide), lp 4 (by decide), lp 5 (by decide), lp 6 (by decide), lp 7 (by decide), thenV_some, pu_some]
    have hg3 : 3 ≤ g3.n0 := by rw [O3.n0]; exact hG
    refine endL_fin (Q := fun o : Out => ∃ h', o = some (.tuple #[], h') ∧ Kept h h' (· = p) ∧ h'.get p = some (hashC (compS S B) B n)) (cmp3 (p := p) (b := h.next) hg3 (Old.get O3 hz) (W := extW 48 (sch0 B)) (by rw [extW_len]; simp [sch0]) G3 (s := ⟨S.getD 0 0, S.getD 1 0, S.getD 2 0, S.getD 3 0, S.getD 4 0, S.getD 5 0, S.getD 6 0, S.getD 7 0⟩) y0' y2' rfl ⟨rfl, rfl, rfl, rfl, rfl, rfl, rfl, rfl⟩) ?_
    rintro _ y4 g4 ⟨rfl, y40, Y, rfl⟩
    simp -implicitDefEqProofs only [endL_exit, b187_16, if_true, t187k187_14_eq]
    unfold t187k187_14
    simp -implicitDefEqProofs only [Y.a, Y.b, Y.c, Y.d, Y.e, Y.f, Y.g, Y.i, bld8, thenV_some, pu_some]
    refine endL_fin (Q := fun o : Out => ∃ h', o = some (.tuple #[], h') ∧ Kept h h' (· = p) ∧ h'.get p = some (hashC (compS S B) B n)) (cmp4 (p := p) (S := S) (L := (runS (extW 48 (sch0 B)) 64 ⟨S.getD 0 0, S.getD 1 0, S.getD 2 0, S.getD 3 0, S.getD 4 0, S.getD 5 0, S.getD 6 0, S.getD 7 0⟩).l) hS rfl hp3 (by rw [O3.n0]; exact hp0) y40 rfl rfl) ?_
    rintro _ y5 g5 ⟨rfl, K5, G5, N5⟩
    simp -implicitDefEqProofs only [endL_exit, b187_25, if_true]
    refine ⟨g5, ?_, (O3.mono (fun _ _ h => h.elim)).trans K5, G5⟩
    rw [results187]
    rfl
  obtain ⟨o, e, h', e', k, g⟩ := key
  exact ⟨h', (t187_eq _ _ _).trans (e.trans e'), k, g⟩
end Go.Proofs.YtdhpgacmgebjdaaGreatDoor

namespace Go.Proofs.YtdhpgacmgebjdaaGreatDoor
open Go Go.Abs
noncomputable section
def wr32 (x : Nat) : Nat := Nat.mod x 4294967296
def rN (x n m : Nat) : Nat := Nat.lor (wr32 (Nat.shiftLeft x m)) (Nat.shiftRight x n)
def a32 (x y : Nat) : Nat := wr32 (Nat.add x y)
theorem rot_nat (x : BitVec 32) (n : Nat) : (rotR x n).toNat = rN x.toNat n (32 - n) := by
  unfold rotR rN wr32
  rw [BitVec.toNat_or, BitVec.toNat_shiftLeft, BitVec.toNat_ushiftRight]
  rfl
theorem add_nat (x y : BitVec 32) : (x + y).toNat = a32 x.toNat y.toNat := BitVec.toNat_add x y
def s0N (x : Nat) : Nat := Nat.xor (Nat.xor (rN x 7 25) (rN x 18 14)) (Nat.shiftRight x 3)
def s1N (x : Nat) : Nat := Nat.xor (Nat.xor (rN x 17 15) (rN x 19 13)) (Nat.shiftRight x 10)
theorem s0_nat (x : BitVec 32) : (s0w x).toNat = s0N x.toNat := by
  unfold s0w s0N
  rw [BitVec.toNat_xor, BitVec.toNat_xor, rot_nat, rot_nat, BitVec.toNat_ushiftRight]; rfl
theorem s1_nat (x : BitVec 32) : (s1w x).toNat = s1N x.toNat := by
  unfold s1w s1N
  rw [BitVec.toNat_xor, BitVec.toNat_xor, rot_nat, rot_nat, BitVec.toNat_ushiftRight]; rfl
/-! The schedule, the newest word first. -/
def hdN (l : List Nat) : Nat := List.rec (motive := fun _ => Nat) 0 (fun a _ _ => a) l
def tlN (l : List Nat) : List Nat := List.rec (motive := fun _ => List Nat) [] (fun _ t _ => t) l
def drN (n : Nat) (l : List Nat) : List Nat := Nat.rec (motive := fun _ => List Nat) l (fun _ ih => tlN ih) n
theorem tlN_eq (l : List Nat) : tlN l = l.tail := by cases l <;> rfl
theorem drN_eq : ∀ (n : Nat) (l : List Nat), drN n l = l.drop n
  | 0, l => rfl
  | n + 1, l => by
    show tlN (drN n l) = _
    rw [drN_eq n l, tlN_eq, List.tail_drop]
theorem hdN_eq (l : List Nat) : hdN l = l.getD 0 0 := by cases l <;> rfl
theorem gN_eq (n : Nat) (l : List Nat) : hdN (drN n l) = l.getD n 0 := by
  rw [drN_eq, hdN_eq]
  simp [List.getD_eq_getElem?_getD, List.getElem?_drop]
def nextN (l : List Nat) : Nat := a32 (a32 (a32 (hdN (drN 15 l)) (s0N (hdN (drN 14 l)))) (hdN (drN 6 l))) (s1N (hdN (drN 1 l)))
def extN (n : Nat) (l : List Nat) : List Nat := Nat.rec (motive := fun _ => List Nat → List Nat) (fun l => l) (fun _ ih l => ih (nextN l :: l)) n l
def rvN (l : List (BitVec 32)) : List Nat := (l.map BitVec.toNat).reverse
theorem rvN_get (l : List (BitVec 32)) {i : Nat} (h : i + 1 ≤ l.length) : (rvN l).getD i 0 = (l.getD (l.length - (i + 1)) 0).toNat := by
  unfold rvN
  rw [List.getD_eq_getElem?_getD, List.getElem?_reverse (by rw [List.length_map]; omega), List.length_map, List.getElem?_map, List.getD_eq_getElem?_getD, show l.length - 1 - i = l.length - (i + 1) by omega, List.getElem?_eq_getElem (by omega)]
  rfl
theorem nextN_eq {l : List (BitVec 32)} (h : 16 ≤ l.length) : nextN (rvN l) = (nextW l).toNat := by
  unfold nextN nextW
  rw [gN_eq, gN_eq, gN_eq, gN_eq, rvN_get l (i := 15) (by omega), rvN_get l (i := 14) (by omega), rvN_get l (i := 6) (by omega), rvN_get l (i := 1) (by omega), add_nat, add_nat, add_nat, s0_nat, s1_nat]
theorem extN_eq : ∀ (n : Nat) {l : List (BitVec 32)}, 16 ≤ l.length → extN n (rvN l) = rvN (extW n l)
  | 0, l, _ => rfl
  | n + 1, l, h => by
    show extN n (nextN (rvN l) :: rvN l) = rvN (extW n (l ++ [nextW l]))
    rw [nextN_eq h, ← extN_eq n (by simp; omega)]
    unfold rvN
    simp
/-! The rounds. -/
def chN (e f g : Nat) : Nat := Nat.xor g (Nat.land e (Nat.xor f g))
def mjN (a b c : Nat) : Nat := Nat.lor (Nat.land a b) (Nat.land c (Nat.lor a b))
def t1N (e f g i k w : Nat) : Nat := a32 (a32 (a32 (a32 i (Nat.xor (Nat.xor (rN e 6 26) (rN e 11 21)) (rN e 25 7))) (chN e f g)) k) w
def t2N (a b c : Nat) : Nat := a32 (Nat.xor (Nat.xor (rN a 2 30) (rN a 13 19)) (rN a 22 10)) (mjN a b c)
theorem t1_nat (s : St) (k w : BitVec 32) : (t1S s k w).toNat = t1N s.e.toNat s.f.toNat s.g.toNat s.i.toNat k.toNat w.toNat := by
  unfold t1S t1N chN
  rw [add_nat, add_nat, add_nat, add_nat, BitVec.toNat_xor, BitVec.toNat_xor, BitVec.toNat_xor, BitVec.toNat_and, BitVec.toNat_xor, rot_nat, rot_nat, rot_nat]; rfl
theorem t2_nat (s : St) : (t2S s).toNat = t2N s.a.toNat s.b.toNat s.c.toNat := by
  unfold t2S t2N mjN
  rw [add_nat, BitVec.toNat_xor, BitVec.toNat_xor, BitVec.toNat_or, BitVec.toNat_and, BitVec.toNat_and, BitVec.toNat_or, rot_nat, rot_nat, rot_nat]; rfl
def finN (a b c d e f g i : Nat) : List Nat := [a, b, c, d, e, f, g, i]
def rndN (ks ws : List Nat) : Nat → Nat → Nat → Nat → Nat → Nat → Nat → Nat → List Nat :=
  List.rec (motive := fun _ => List Nat → Nat → Nat → Nat → Nat → Nat → Nat → Nat → Nat → List Nat) (fun _ => finN)
    (fun k _ ih ws a b c d e f g i => ih (tlN ws) (a32 (t1N e f g i k (hdN ws)) (t2N a b c)) a b c (a32 d (t1N e f g i k (hdN ws))) e f g) ks ws
def St.n (s : St) : List Nat := s.l.map BitVec.toNat
def runL (ks ws : List (BitVec 32)) (s : St) : St :=
  match ks with
  | [] => s
  | k :: ks => runL ks ws.tail (stepS s k (ws.getD 0 0))
theorem rndN_eq : ∀ (ks ws : List (BitVec 32)) (s : St), rndN (ks.map BitVec.toNat) (ws.map BitVec.toNat) s.a.toNat s.b.toNat s.c.toNat s.d.toNat s.e.toNat s.f.toNat s.g.toNat s.i.toNat = (runL ks ws s).n
  | [], ws, s => rfl
  | k :: ks, ws, s => by
    have hh : hdN (ws.map BitVec.toNat) = (ws.getD 0 0).toNat := by cases ws <;> rfl
    have ht : tlN (ws.map BitVec.toNat) = ws.tail.map BitVec.toNat := by cases ws <;> rfl
    show rndN (ks.map BitVec.toNat) (tlN (ws.map BitVec.toNat)) _ _ _ _ _ _ _ _ = (runL ks ws.tail (stepS s k (ws.getD 0 0))).n
    rw [hh, ht, ← rndN_eq ks ws.tail (stepS s k (ws.getD 0 0)), ← t1_nat, ← t2_nat, ← add_nat, ← add_nat]
    rfl
theorem runL_eq (W : List (BitVec 32)) (s : St) : ∀ (n i : Nat), i + n = 64 → runL (rkW.drop i) (W.drop i) (runS W i s) = runS W 64 s
  | 0, i, h => by
    have : i = 64 := by omega
    subst this
    rw [List.drop_eq_nil_of_le (by rw [rkW_len]; exact Nat.le_refl _)]
    rfl
  | n + 1, i, h => by
    have hi : i < rkW.length := by rw [rkW_len]; omega
    rw [List.drop_eq_getElem_cons hi]
    show runL (rkW.drop (i + 1)) (W.drop i).tail (stepS (runS W i s) rkW[i] ((W.drop i).getD 0 0)) = _
    rw [← runL_eq W s n (i + 1) (by omega), List.tail_drop]
    have e1 : rkW[i] = rkW.getD i 0 := by rw [List.getD_eq_getElem?_getD, List.getElem?_eq_getElem hi]; rfl
    have e2 : (W.drop i).getD 0 0 = W.getD i 0 := by simp [List.getD_eq_getElem?_getD, List.getElem?_drop]
    rw [e1, e2]
    rfl
def rkN : List Nat := [1116352408, 1899447441, 3049323471, 3921009573, 961987163, 1508970993, 2453635748, 2870763221, 3624381080, 310598401, 607225278, 1426881987, 1925078388, 2162078206, 2614888103, 3248222580, 3835390401, 4022224774, 264347078, 604807628, 770255983, 1249150122, 1555081692, 1996064986, 2554220882, 2821834349, 2952996808, 3210313671, 3336571891, 3584528711, 113926993, 338241895, 666307205, 773529912, 1294757372, 1396182291, 1695183700, 1986661051, 2177026350, 2456956037, 2730485921, 2820302411, 3259730800, 3345764771, 3516065817, 3600352804, 4094571909, 275423344, 430227734, 506948616, 659060556, 883997877, 958139571, 1322822218, 1537002063, 1747873779, 1955562222, 2024104815, 2227730452, 2361852424, 2428436474, 2756734187, 3204031479, 3329325298]
theorem rkN_eq : rkN = rkW.map BitVec.toNat := by kernel_rfl
/-! Words out of bytes. -/
def w4N (a b c d : Nat) : Nat := Nat.lor (Nat.lor (Nat.lor (wr32 (Nat.shiftLeft (wr32 a) 24)) (wr32 (Nat.shiftLeft (wr32 b) 16))) (wr32 (Nat.shiftLeft (wr32 c) 8))) (wr32 d)
theorem w4_nat (a b c d : Nat) : (w4 a b c d).toNat = w4N a b c d := by
  unfold w4 w4N wr32
  rw [BitVec.toNat_or, BitVec.toNat_or, BitVec.toNat_or, BitVec.toNat_shiftLeft, BitVec.toNat_shiftLeft, BitVec.toNat_shiftLeft, BitVec.toNat_ofNat, BitVec.toNat_ofNat, BitVec.toNat_ofNat, BitVec.toNat_ofNat]; rfl
def wds (n : Nat) (l : List Nat) : List Nat :=
  Nat.rec (motive := fun _ => List Nat → List Nat) (fun _ => []) (fun _ ih l => w4N (hdN l) (hdN (drN 1 l)) (hdN (drN 2 l)) (hdN (drN 3 l)) :: ih (drN 4 l)) n l
theorem wds_eq : ∀ (n i : Nat) (B : List Nat), wds n (B.drop (4 * i)) = (List.range' i n).map fun j => (wAt B j).toNat
  | 0, _, _ => rfl
  | n + 1, i, B => by
    rw [List.range'_succ, List.map_cons, ← wds_eq n (i + 1) B]
    show w4N (hdN (B.drop (4 * i))) (hdN (drN 1 (B.drop (4 * i)))) (hdN (drN 2 (B.drop (4 * i)))) (hdN (drN 3 (B.drop (4 * i)))) :: wds n (drN 4 (B.drop (4 * i))) = _
    rw [show hdN (B.drop (4 * i)) = hdN (drN 0 (B.drop (4 * i))) from rfl, gN_eq, gN_eq, gN_eq, gN_eq, drN_eq, List.drop_drop, ← w4_nat]
    refine congr (congrArg _ ?_) ?_
    · refine congrArg BitVec.toNat ?_
      unfold wAt
      simp only [List.getD_eq_getElem?_getD, List.getElem?_drop, Nat.add_zero]
    · rw [show 4 * i + 4 = 4 * (i + 1) by omega]
def addN (l m : List Nat) : List Nat := List.rec (motive := fun _ => List Nat → List Nat) (fun _ => []) (fun a _ ih m => a32 a (hdN m) :: ih (tlN m)) l m
def roK (ks W : List Nat) (S : List Nat) : List Nat := rndN ks W (hdN S) (hdN (drN 1 S)) (hdN (drN 2 S)) (hdN (drN 3 S)) (hdN (drN 4 S)) (hdN (drN 5 S)) (hdN (drN 6 S)) (hdN (drN 7 S))
theorem roK_eq (ks W : List (BitVec 32)) (a b c d e f g i : BitVec 32) : roK (ks.map BitVec.toNat) (W.map BitVec.toNat) ([a, b, c, d, e, f, g, i].map BitVec.toNat) = (runL ks W ⟨a, b, c, d, e, f, g, i⟩).n := rndN_eq ks W ⟨a, b, c, d, e, f, g, i⟩
theorem runS64 (W : List (BitVec 32)) (s : St) : runL rkW W s = runS W 64 s := runL_eq W s 64 0 rfl
def rvL (l m : List Nat) : List Nat := List.rec (motive := fun _ => List Nat → List Nat) (fun m => m) (fun a _ ih m => ih (a :: m)) l m
theorem rvL_eq : ∀ (l m : List Nat), rvL l m = l.reverse ++ m
  | [], m => rfl
  | a :: l, m => by
    show rvL l (a :: m) = _
    rw [rvL_eq l]; simp
/-- The state after a block, in numbers. -/
def compN (S B : List Nat) : List Nat := addN S (roK rkN (rvL (extN 48 (rvL (wds 16 B) [])) []) S)
theorem addN_eq : ∀ (l m : List (BitVec 32)), l.length = m.length → addN (l.map BitVec.toNat) (m.map BitVec.toNat) = (addS l m).map BitVec.toNat
  | [], m, _ => rfl
  | a :: l, [], h => by cases h
  | a :: l, b :: m, h => by
    show a32 a.toNat b.toNat :: addN (l.map BitVec.toNat) (m.map BitVec.toNat) = _
    rw [addN_eq l m (by simpa using h), ← add_nat]
    rfl
theorem sch_eq (B : List Nat) : rvL (wds 16 B) [] = rvN (sch0 B) := by
  rw [rvL_eq, List.append_nil]
  unfold rvN sch0
  have := wds_eq 16 0 B
  rw [Nat.mul_zero, List.drop_zero] at this
  rw [this, List.map_map, List.range_eq_range']
  rfl
theorem sch_len (B : List Nat) : 16 ≤ (sch0 B).length := by simp [sch0]
theorem rv_ext {n : Nat} {l : List (BitVec 32)} (hl : 16 ≤ l.length) : rvL (extN n (rvN l)) [] = (extW n l).map BitVec.toNat := by
  rw [extN_eq n hl, rvL_eq, List.append_nil]
  unfold rvN
  rw [List.reverse_reverse]
theorem St.l_len (s : St) : s.l.length = 8 := rfl
theorem comp_fin (S W : List (BitVec 32)) (hS : S.length = 8) (ks : List (BitVec 32)) : addN (S.map BitVec.toNat) (roK (ks.map BitVec.toNat) (W.map BitVec.toNat) (S.map BitVec.toNat)) = (addS S (runL ks W ⟨S.getD 0 0, S.getD 1 0, S.getD 2 0, S.getD 3 0, S.getD 4 0, S.getD 5 0, S.getD 6 0, S.getD 7 0⟩).l).map BitVec.toNat := by
  obtain ⟨a, b, c, d, e, f, g, i, rfl⟩ := eight hS
  rw [roK_eq]
  exact addN_eq _ _ (St.l_len _).symm
theorem compN_eq {S : List (BitVec 32)} {B : List Nat} (hS : S.length = 8) : compN (S.map BitVec.toNat) B = (compS S B).map BitVec.toNat := by
  have h := comp_fin S (extW 48 (sch0 B)) hS rkW
  rw [runS64, ← rkN_eq, ← rv_ext (sch_len B), ← sch_eq] at h
  exact h
end
end Go.Proofs.YtdhpgacmgebjdaaGreatDoor

namespace Go.Proofs.YtdhpgacmgebjdaaGreatDoor
open Go Go.Abs
noncomputable section
def nat32 (v : Value) : Option Nat :=
  match v with
  | .int .u32 (.ofNat n) => match Nat.blt n 4294967296 with
    | true => some n
    | false => none
  | _ => none
theorem nat32_eq {v : Value} {n : Nat} (h : nat32 v = some n) : v = u32 n ∧ n < 4294967296 := by
  unfold nat32 at h
  split at h
  · split at h
    · rename_i hb
      cases h; exact ⟨rfl, by simpa using hb⟩
    · cases h
  · cases h
/-- The words of the first cells. -/
def wordsOf : Nat → List Value → Option (List Nat)
  | 0, _ => some []
  | n + 1, [] => none
  | n + 1, v :: l => match nat32 v with
    | some a => match wordsOf n l with
      | some r => some (a :: r)
      | none => none
    | none => none
theorem wordsOf_eq : ∀ {n : Nat} {l : List Value} {r : List Nat}, wordsOf n l = some r → l = r.map u32 ++ l.drop n ∧ r.length = n ∧ ∀ a ∈ r, a < 4294967296
  | 0, l, r, h => by cases h; exact ⟨rfl, rfl, by simp⟩
  | n + 1, [], r, h => by cases h
  | n + 1, v :: l, r, h => by
    unfold wordsOf at h
    split at h
    · rename_i a ha
      split at h
      · rename_i r' hr
        cases h
        obtain ⟨rfl, h1⟩ := nat32_eq ha
        obtain ⟨h2, h3, h4⟩ := wordsOf_eq hr
        refine ⟨?_, by rw [List.length_cons, h3], fun m hm => ?_⟩
        · rw [List.map_cons, List.cons_append, List.drop_succ_cons, ← h2]
        · rcases List.mem_cons.1 hm with rfl | hm
          · exact h1
          · exact h4 m hm
      · cases h
    · cases h
def isRow : List Nat → List Value → Bool
  | [], [] => true
  | a :: r, v :: l => match nat32 v with
    | some b => match Nat.beq a b with
      | true => isRow r l
      | false => false
    | none => false
  | _, _ => false
theorem isRow_eq : ∀ {r : List Nat} {l : List Value}, isRow r l = true → l = r.map u32
  | [], [], _ => rfl
  | [], _ :: _, h => by cases h
  | _ :: _, [], h => by cases h
  | a :: r, v :: l, h => by
    unfold isRow at h
    split at h
    · rename_i b hb
      split at h
      · rename_i hab
        obtain ⟨rfl, _⟩ := nat32_eq hb
        have := Nat.eq_of_beq_eq_true hab
        subst this
        rw [List.map_cons, isRow_eq h]
      · cases h
    · cases h
def isInt (v : Value) : Option Nat :=
  match v with
  | .int .i64 (.ofNat n) => some n
  | _ => none
theorem isInt_eq {v : Value} {n : Nat} (h : isInt v = some n) : v = i64n n := by
  unfold isInt at h
  split at h
  · cases h; rfl
  · cases h
/-- compress -/
def s187 (args : List Value) (h : Heap) : Out :=
  match args with
  | [.pointer (some ⟨p, 0, none⟩)] => match Nat.ble 3 h.n0 && Nat.ble h.n0 p with
    | true => match h.get 1 with
      | some kr => match isRow rkN kr with
        | true => match h.get p with
          | some k => match wordsOf 8 k with
            | some S => match bytesOf ((k.drop 8).take 64) with
              | some B => match Nat.beq B.length 64 with
                | true => match k.drop 72 with
                  | [v] => match isInt v with
                    | some n => some (.tuple #[], h.set p ((compN S B).map u32 ++ (B.map u8 ++ [i64n n])))
                    | none => none
                  | _ => none
                | false => none
              | none => none
            | none => none
          | none => none
        | false => none
      | none => none
    | false => none
  | _ => none
theorem wv_ofNat {a : Nat} (h : a < 4294967296) : wv (BitVec.ofNat 32 a) = u32 a := by
  unfold wv
  rw [BitVec.toNat_ofNat, Nat.mod_eq_of_lt h]
theorem wv_map : ∀ {r : List Nat}, (∀ a ∈ r, a < 4294967296) → r.map u32 = wvs (r.map (BitVec.ofNat 32))
  | [], _ => rfl
  | a :: r, h => by
    rw [List.map_cons, wv_map fun b hb => h b (List.mem_cons_of_mem _ hb), ← wv_ofNat (h a List.mem_cons_self)]; rfl
theorem toNat_map : ∀ {r : List Nat}, (∀ a ∈ r, a < 4294967296) → (r.map (BitVec.ofNat 32)).map BitVec.toNat = r
  | [], _ => rfl
  | a :: r, h => by
    rw [List.map_cons, List.map_cons, toNat_map fun b hb => h b (List.mem_cons_of_mem _ hb), BitVec.toNat_ofNat, Nat.mod_eq_of_lt (h a List.mem_cons_self)]
theorem u32_wvs (l : List (BitVec 32)) : (l.map BitVec.toNat).map u32 = wvs l := by rw [List.map_map]; rfl
theorem rk_row : rkN.map u32 = roundsL := by rw [rkN_eq, u32_wvs, rkW_eq]
theorem hashC_flat (S : List (BitVec 32)) (B : List Nat) (n : Nat) : flatAll (hashC S B n) = true := by
  unfold hashC flatAll
  rw [List.all_append, List.all_append]
  simp [wv, flat]
theorem CB_sound : CSound Tryz.prog CB := CC_sound mixed X00_sound
theorem c187 : Contract Tryz.prog 187 s187 := by
  have key : ∀ args h v h', s187 args h = some (v, h') → ∃ p S B n, args = [ptr p 0] ∧ 3 ≤ h.n0 ∧ h.n0 ≤ p ∧ h.get 1 = some roundsL ∧ S.length = 8 ∧ B.length = 64 ∧ Bys B ∧ h.get p = some (hashC S B n) ∧ v = .tuple #[] ∧ h' = h.set p (hashC (compS S B) B n) := by
    intro args h v h' e
    unfold s187 at e
    split at e
    · rename_i p
      split at e
      · rename_i hc
        rw [Bool.and_eq_true] at hc
        split at e
        · rename_i kr hk
          split at e
          · rename_i hr
            have hr := isRow_eq hr
            rw [rk_row] at hr
            subst hr
            split at e
            · rename_i k hkp
              split at e
              · rename_i S hS
                split at e
                · rename_i B hB
                  split at e
                  · rename_i hl
                    have hl := Nat.eq_of_beq_eq_true hl
                    split at e
                    · rename_i v hv
                      split at e
                      · rename_i n hn
                        cases e
                        have hn := isInt_eq hn
                        subst hn
                        obtain ⟨s1, s2, s3⟩ := wordsOf_eq hS
                        obtain ⟨b1, b2⟩ := bytesOf_eq hB
                        have hkk : k = hashC (S.map (BitVec.ofNat 32)) B n := by
                          unfold hashC
                          rw [← wv_map s3]
                          rw [← hv, show u8s B = B.map u8 from rfl, ← b1]
                          have : k.drop 72 = (k.drop 8).drop 64 := by rw [List.drop_drop]
                          rw [this, List.take_append_drop]
                          exact s1
                        refine ⟨p, S.map (BitVec.ofNat 32), B, n, rfl, Nat.le_of_ble_eq_true hc.1, Nat.le_of_ble_eq_true hc.2, hk, by rw [List.length_map, s2], hl, b2, by rw [← hkk]; exact hkp, rfl, ?_⟩
                        have := compN_eq (S := S.map (BitVec.ofNat 32)) (B := B) (by rw [List.length_map, s2])
                        rw [toNat_map s3] at this
                        rw [this, u32_wvs]
                        rfl
                      · cases e
                    · cases e
                  · cases e
                · cases e
              · cases e
            · cases e
          · cases e
        · cases e
      · cases e
    · cases e
  refine .mk' (C := CB) CB_sound mixed is187 ?_ ?_
  · intro args h v h' e
    obtain ⟨p, S, B, n, rfl, _, h0, _, _, _, _, hp, rfl, rfl⟩ := key _ _ _ _ e
    refine ⟨⟨Nat.le_refl _, rfl, rfl⟩, fun _ hb => ⟨rfl, ?_⟩⟩
    exact HeapBd.put (x := some _) hb h0 (h.lt_of_get hp) fun k e => by cases e; exact bdL_flat (hashC_flat _ _ _)
  · intro args h v h' e _ hh
    obtain ⟨p, S, B, n, rfl, hG, h0, hz, hS, hBl, hB, hp, rfl, rfl⟩ := key _ _ _ _ e
    obtain ⟨g, h1, h2, h3⟩ := r187k hG hz hS hBl hB hp h0
    refine ⟨_, g, id, h1, .sub rfl (HeapBd.put (x := some _) hh h0 (h.lt_of_get hp) fun k e => by cases e; exact bdL_flat (hashC_flat _ _ _)) (fun b q _ hb => ?_)⟩
    by_cases hbp : b = p
    · subst hbp
      rw [Heap.getB_set_same h0 hp] at hb
      cases hb
      exact Heap.getB_of_get _ h3
    · rw [Heap.getB_set_other h0 (h.lt_of_get hp) _ hbp] at hb
      exact (h2.getB b (h.lt_of_getB hb) hbp).trans hb
end
end Go.Proofs.YtdhpgacmgebjdaaGreatDoor

